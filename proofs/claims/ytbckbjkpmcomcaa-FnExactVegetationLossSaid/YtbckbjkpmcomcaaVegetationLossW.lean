/-
  The walk of FnExactVegetationLoss: it returns true, and of what was there nothing has turned. The conditions are what its arguments' readings give.
-/
import Derived.Test.YtbckbjkpmcomcaaRows
import Derived.Test.YtbckbjkpmcomcaaLib
import Derived.Test.YtbckbjkpmcomcaaTab
namespace Go.Proofs.Ytbckbjkpmcomcaa.fnExactVegetationLoss
open Go.RowKit Go.ChangeShapes Go.WideShapes Go.ChangeAt
set_option linter.unusedVariables false
set_option linter.unusedSimpArgs false

def vegTab : List (Int × Int) := [(100, 30), (1000, 150), (10000, 900), (100000, 4000)]
theorem veg_mid : ∀ p ∈ vegTab, Mid p.1 ∧ Mid p.2 := by
  intro p hp
  simp only [vegTab, List.mem_cons, List.not_mem_nil, or_false] at hp
  rcases hp with rfl | rfl | rfl | rfl <;> exact ⟨⟨by omega, by omega⟩, ⟨by omega, by omega⟩⟩
theorem veg_bd (x : Int) : 30 ≤ tabAt x vegTab ∧ tabAt x vegTab ≤ 4000 := by
  refine tabAt_bd (by simp [vegTab]) ?_
  intro p hp
  simp only [vegTab, List.mem_cons, List.not_mem_nil, or_false] at hp
  rcases hp with rfl | rfl | rfl | rfl <;> exact ⟨by omega, by omega⟩
theorem veg_rise : ∀ k, k + 1 < 4 → (vegTab.getD k (0, 0)).1 < (vegTab.getD (k + 1) (0, 0)).1 := by
  intro k hk
  have h : k = 0 ∨ k = 1 ∨ k = 2 := by omega
  rcases h with rfl | rfl | rfl <;> decide
theorem four {k : Nat} (h : k < 4) : k = 0 ∨ k = 1 ∨ k = 2 ∨ k = 3 := by omega
def vegOk (f d : Int) : Prop := 1 ≤ f ∧ f ≤ 100000000 ∧ 0 ≤ d ∧ d ≤ 1000
instance (f d : Int) : Decidable (vegOk f d) := by unfold vegOk; infer_instance
def vegM (f d : Int) : Int × Int := if vegOk f d then (rdiv (30000 * (d * tabAt (f / 1000) vegTab)) (30000 + d * tabAt (f / 1000) vegTab), 0) else (0, 2)
theorem veg_yes {f d : Int} (h : vegOk f d) : vegM f d = (rdiv (30000 * (d * tabAt (f / 1000) vegTab)) (30000 + d * tabAt (f / 1000) vegTab), 0) := if_pos h
theorem veg_no {f d : Int} (h : ¬ vegOk f d) : vegM f d = (0, 2) := if_neg h
theorem impl_any (w : World) (f : Int) (hf : In64 f) (d : Int) (hd : In64 d) :
    Calls Try.prog 32 #[.int .i64 f, .int .i64 d] w fun e w' => e = .returned (.tuple #[.int .i64 (vegM f d).1, .int .i64 (vegM f d).2]) ∧ Below w.heap.size w w' := by
  rcases in_cases f 1 100000000 with ⟨h1, h2⟩ | h1 | ⟨h1, h2⟩
  · rcases in_cases d 0 1000 with ⟨h3, h4⟩ | h3 | ⟨h3, h4⟩
    · rw [veg_yes ⟨h1, h2, h3, h4⟩]
      obtain ⟨t1, t2⟩ := veg_bd (f / 1000)
      obtain ⟨t, ht⟩ : ∃ t, t = tabAt (f / 1000) vegTab := ⟨_, rfl⟩
      have HT := Lib.hid ht
      rw [← ht] at t1 t2 ⊢
      clear ht
      obtain ⟨m1, m2⟩ := mul_nn (A := 1000) (B := 4000) h3 h4 (show 0 ≤ t by omega) t2
      go_enter Try.func32, Try.ntmps32
      go_wp2_with (first | (go_at_call 36; go_in) | (go_at_call 35; go_in))
      refine (rowsAt_any vegTab f (by omega) _ 4 _ rfl (by omega) (by omega) veg_mid _ ?_).mono ?_
      · intro k hk
        rcases four hk with rfl | rfl | rfl | rfl <;> simp [go_sem, vegTab]
      rintro e w1 ⟨he, n, rfl⟩
      rw [← HT.out] at he
      subst he
      go_wp2_with fail
      refine (divRound_any _ _ (by omega) (by omega) _).mono ?_
      rintro e w1 ⟨rfl, n', rfl⟩
      go_wp2_with fail
      go_ret2
      exact ⟨rfl, by repeat (first | (with_reducible exact Below.refl _ _) | (with_reducible assumption) | ((with_reducible refine bl_alloc ?_ _ ?_); (focus ((first | omega | (simp <;> omega)); done))) | ((with_reducible refine bl_set ?_ _ ?_); (focus ((first | omega | (simp <;> omega)); done))) | (with_reducible refine below_drewN ?_ _) | (with_reducible refine Below.drew ?_))⟩
    · rw [veg_no (fun h => dec_no h3 h.2.2.1)]
      go_enter Try.func32, Try.ntmps32
      go_wp2
      go_ret2
      exact ⟨rfl, Below.refl _ _⟩
    · rw [veg_no (fun h => dec_no h4 h.2.2.2)]
      go_enter Try.func32, Try.ntmps32
      go_wp2
      go_ret2
      exact ⟨rfl, Below.refl _ _⟩
  · rw [veg_no (fun h => dec_no h1 h.1)]
    go_enter Try.func32, Try.ntmps32
    go_wp2
    go_ret2
    exact ⟨rfl, Below.refl _ _⟩
  · rw [veg_no (fun h => dec_no h2 h.2.1)]
    go_enter Try.func32, Try.ntmps32
    go_wp2
    go_ret2
    exact ⟨rfl, Below.refl _ _⟩
theorem spec_any (w : World) (f : Int) (hf : In64 f) (d : Int) (hd : In64 d) :
    Calls Try.prog 31 #[.int .i64 f, .int .i64 d] w fun e w' => e = .returned (.tuple #[.int .i64 (vegM f d).1, .int .i64 (vegM f d).2]) ∧ Below w.heap.size w w' := by
  rcases in_cases f 1 100000000 with ⟨h1, h2⟩ | h1 | ⟨h1, h2⟩
  · rcases in_cases d 0 1000 with ⟨h3, h4⟩ | h3 | ⟨h3, h4⟩
    · rw [veg_yes ⟨h1, h2, h3, h4⟩]
      obtain ⟨t1, t2⟩ := veg_bd (f / 1000)
      obtain ⟨t, ht⟩ : ∃ t, t = tabAt (f / 1000) vegTab := ⟨_, rfl⟩
      have HT := Lib.hid ht
      rw [← ht] at t1 t2 ⊢
      clear ht
      obtain ⟨m1, m2⟩ := mul_nn (A := 1000) (B := 4000) h3 h4 (show 0 ≤ t by omega) t2
      go_enter Try.func31, Try.ntmps31
      go_wp2_with (first | (go_at_call 34; go_in) | (go_at_call 33; go_in))
      refine (l11Table_any vegTab (f / 1000) ⟨by omega, by omega⟩ _ _ 4 _ _ rfl (by omega) (by omega) veg_mid veg_rise _ ?_).mono ?_
      · intro k hk
        rcases four hk with rfl | rfl | rfl | rfl <;> simp [go_sem, vegTab]
      rintro e w1 ⟨he, n, rfl⟩
      rw [← HT.out] at he
      subst he
      go_wp2_with fail
      refine (l01Div_any _ _ (by omega) (by omega) _).mono ?_
      rintro e w1 ⟨rfl, rfl⟩
      go_wp2_with fail
      go_ret2
      exact ⟨rfl, by repeat (first | (with_reducible exact Below.refl _ _) | (with_reducible assumption) | ((with_reducible refine bl_alloc ?_ _ ?_); (focus ((first | omega | (simp <;> omega)); done))) | ((with_reducible refine bl_set ?_ _ ?_); (focus ((first | omega | (simp <;> omega)); done))) | (with_reducible refine below_drewN ?_ _) | (with_reducible refine Below.drew ?_))⟩
    · rw [veg_no (fun h => dec_no h3 h.2.2.1)]
      go_enter Try.func31, Try.ntmps31
      go_wp2
      go_ret2
      exact ⟨rfl, Below.refl _ _⟩
    · rw [veg_no (fun h => dec_no h4 h.2.2.2)]
      go_enter Try.func31, Try.ntmps31
      go_wp2
      go_ret2
      exact ⟨rfl, Below.refl _ _⟩
  · rw [veg_no (fun h => dec_no h1 h.1)]
    go_enter Try.func31, Try.ntmps31
    go_wp2
    go_ret2
    exact ⟨rfl, Below.refl _ _⟩
  · rw [veg_no (fun h => dec_no h2 h.2.1)]
    go_enter Try.func31, Try.ntmps31
    go_wp2
    go_ret2
    exact ⟨rfl, Below.refl _ _⟩
theorem walk (w : World) (a0 : Int) (ia0 : In64 a0) (a1 : Int) (ia1 : In64 a1) :
    Calls Try.prog 10 #[.int .i64 a0, .int .i64 a1] w fun e w' => e = .returned (.bool true) ∧ Below w.heap.size w w' := by
  go_enter Try.func10, Try.ntmps10
  go_wp2_with fail
  refine (spec_any _ a0 ia0 a1 ia1).mono ?_
  rintro e w1 ⟨rfl, hb⟩
  have zz1 : w.heap.size ≤ w1.heap.size := (by have := hb.size; ((try simp at this) <;> omega))
  have H1 := Lib.hid (show Below w.heap.size w w1 by repeat (first | (with_reducible exact Below.refl _ _) | (with_reducible assumption) | ((with_reducible refine bl_alloc ?_ _ ?_); (focus ((first | omega | (simp <;> omega)); done))) | ((with_reducible refine bl_set ?_ _ ?_); (focus ((first | omega | (simp <;> omega)); done))) | (with_reducible refine below_drewN ?_ _) | (with_reducible refine Below.drew ?_) | ((with_reducible refine bl_trans ?_ hb ?_); (focus ((first | omega | (simp <;> omega)); done)))))
  clear hb
  go_wp2_with fail
  refine (impl_any _ a0 ia0 a1 ia1).mono ?_
  rintro e w2 ⟨rfl, hb⟩
  have zz2 : w1.heap.size ≤ w2.heap.size := (by have := hb.size; ((try simp at this) <;> omega))
  have H2 := Lib.hid (show Below w.heap.size w w2 by repeat (first | (with_reducible exact Below.refl _ _) | (with_reducible assumption) | ((with_reducible refine bl_alloc ?_ _ ?_); (focus ((first | omega | (simp <;> omega)); done))) | ((with_reducible refine bl_set ?_ _ ?_); (focus ((first | omega | (simp <;> omega)); done))) | (with_reducible refine below_drewN ?_ _) | (with_reducible refine Below.drew ?_) | ((with_reducible refine bl_trans ?_ hb ?_); (focus ((first | omega | (simp <;> omega)); done))) | ((with_reducible refine bl_trans ?_ H1.out ?_); (focus ((first | omega | (simp <;> omega)); done)))))
  clear hb H1
  go_wp2_with fail
  go_ret
  exact ⟨rfl, (by repeat (first | (with_reducible exact Below.refl _ _) | (with_reducible assumption) | ((with_reducible refine bl_alloc ?_ _ ?_); (focus ((first | omega | (simp <;> omega)); done))) | ((with_reducible refine bl_set ?_ _ ?_); (focus ((first | omega | (simp <;> omega)); done))) | (with_reducible refine below_drewN ?_ _) | (with_reducible refine Below.drew ?_) | ((with_reducible refine bl_trans ?_ H2.out ?_); (focus ((first | omega | (simp <;> omega)); done)))))⟩
end Go.Proofs.Ytbckbjkpmcomcaa.fnExactVegetationLoss
