/-
  The walk of FnExactGasLoss: it returns true, and of what was there nothing has turned. The conditions are what its arguments' readings give.
-/
import Derived.Test.YticgoicjbjlbbaaRows
import Derived.Test.YticgoicjbjlbbaaLib
import Derived.Test.YticgoicjbjlbbaaGas
namespace Go.Proofs.Yticgoicjbjlbbaa.fnExactGasLoss
open Go.RowKit Go.ChangeShapes Go.WideShapes Go.ChangeAt
set_option linter.unusedVariables false
set_option linter.unusedSimpArgs false

def gasOk (f d : Int) : Prop := 1 ≤ f ∧ f ≤ 100000000 ∧ 1 ≤ d ∧ d ≤ 283000
instance (f d : Int) : Decidable (gasOk f d) := by unfold gasOk; infer_instance
def gasM (f d : Int) : Int × Int := if gasOk f d then (rdiv (tabAt (f / 1000) gasTab * d) 1000, 0) else (0, 2)
theorem gas_yes {f d : Int} (h : gasOk f d) : gasM f d = (rdiv (tabAt (f / 1000) gasTab * d) 1000, 0) := if_pos h
theorem gas_no {f d : Int} (h : ¬ gasOk f d) : gasM f d = (0, 2) := if_neg h
theorem impl_any (w : World) (f : Int) (hf : In64 f) (d : Int) (hd : In64 d) :
    Calls Try.prog 22 #[.int .i64 f, .int .i64 d] w fun e w' => e = .returned (.tuple #[.int .i64 (gasM f d).1, .int .i64 (gasM f d).2]) ∧ Below w.heap.size w w' := by
  rcases in_cases f 1 100000000 with ⟨h1, h2⟩ | h1 | ⟨h1, h2⟩
  · rcases in_cases d 1 283000 with ⟨h3, h4⟩ | h3 | ⟨h3, h4⟩
    · rw [gas_yes ⟨h1, h2, h3, h4⟩]
      obtain ⟨t1, t2⟩ := gas_bd (f / 1000)
      obtain ⟨t, ht⟩ : ∃ t, t = tabAt (f / 1000) gasTab := ⟨_, rfl⟩
      have HT := Lib.hid ht
      rw [← ht] at t1 t2 ⊢
      clear ht
      obtain ⟨m1, m2⟩ := mul_nn (A := 15000) (B := 283000) (show 0 ≤ t by omega) t2 (show 0 ≤ d by omega) h4
      go_enter Try.func22, Try.ntmps22
      go_wp2_with (first | (go_at_call 76; go_in) | (go_at_call 54; go_in) | (go_at_call 64; go_in) | (go_at_call 65; go_in))
      refine (gasSpecific_any _ f h1 h2).mono ?_
      rintro e w1 ⟨he, hb⟩
      rw [← HT.out] at he
      subst he
      have HB := Lib.hid hb
      clear hb
      go_wp2_with fail
      refine (divRound_any _ _ (by omega) (by omega) _).mono ?_
      rintro e w2 ⟨rfl, n', rfl⟩
      go_wp2_with fail
      go_ret2
      exact ⟨rfl, by repeat (first | (with_reducible exact Below.refl _ _) | (with_reducible assumption) | ((with_reducible refine bl_alloc ?_ _ ?_); (focus ((first | omega | (simp <;> omega)); done))) | ((with_reducible refine bl_set ?_ _ ?_); (focus ((first | omega | (simp <;> omega)); done))) | (with_reducible refine below_drewN ?_ _) | (with_reducible refine Below.drew ?_) | ((with_reducible refine bl_trans ?_ HB.out ?_); (focus ((first | omega | (simp <;> omega)); done))))⟩
    · rw [gas_no (fun h => dec_no h3 h.2.2.1)]
      go_enter Try.func22, Try.ntmps22
      go_wp2
      go_ret2
      exact ⟨rfl, Below.refl _ _⟩
    · rw [gas_no (fun h => dec_no h4 h.2.2.2)]
      go_enter Try.func22, Try.ntmps22
      go_wp2
      go_ret2
      exact ⟨rfl, Below.refl _ _⟩
  · rw [gas_no (fun h => dec_no h1 h.1)]
    go_enter Try.func22, Try.ntmps22
    go_wp2
    go_ret2
    exact ⟨rfl, Below.refl _ _⟩
  · rw [gas_no (fun h => dec_no h2 h.2.1)]
    go_enter Try.func22, Try.ntmps22
    go_wp2
    go_ret2
    exact ⟨rfl, Below.refl _ _⟩
theorem spec_any (w : World) (f : Int) (hf : In64 f) (d : Int) (hd : In64 d) :
    Calls Try.prog 21 #[.int .i64 f, .int .i64 d] w fun e w' => e = .returned (.tuple #[.int .i64 (gasM f d).1, .int .i64 (gasM f d).2]) ∧ Below w.heap.size w w' := by
  rcases in_cases f 1 100000000 with ⟨h1, h2⟩ | h1 | ⟨h1, h2⟩
  · rcases in_cases d 1 283000 with ⟨h3, h4⟩ | h3 | ⟨h3, h4⟩
    · rw [gas_yes ⟨h1, h2, h3, h4⟩]
      obtain ⟨t1, t2⟩ := gas_bd (f / 1000)
      obtain ⟨t, ht⟩ : ∃ t, t = tabAt (f / 1000) gasTab := ⟨_, rfl⟩
      have HT := Lib.hid ht
      rw [← ht] at t1 t2 ⊢
      clear ht
      obtain ⟨m1, m2⟩ := mul_nn (A := 15000) (B := 283000) (show 0 ≤ t by omega) t2 (show 0 ≤ d by omega) h4
      go_enter Try.func21, Try.ntmps21
      go_wp2_with (first | (go_at_call 81; go_in) | (go_at_call 52; go_in) | (go_at_call 62; go_in))
      refine (l11Gas_any _ f h1 h2).mono ?_
      rintro e w1 ⟨he, hb⟩
      rw [← HT.out] at he
      subst he
      have HB := Lib.hid hb
      clear hb
      go_wp2_with fail
      refine (l01Div_any _ _ (by omega) (by omega) _).mono ?_
      rintro e w2 ⟨rfl, rfl⟩
      go_wp2_with fail
      go_ret2
      exact ⟨rfl, by repeat (first | (with_reducible exact Below.refl _ _) | (with_reducible assumption) | ((with_reducible refine bl_alloc ?_ _ ?_); (focus ((first | omega | (simp <;> omega)); done))) | ((with_reducible refine bl_set ?_ _ ?_); (focus ((first | omega | (simp <;> omega)); done))) | (with_reducible refine below_drewN ?_ _) | (with_reducible refine Below.drew ?_) | ((with_reducible refine bl_trans ?_ HB.out ?_); (focus ((first | omega | (simp <;> omega)); done))))⟩
    · rw [gas_no (fun h => dec_no h3 h.2.2.1)]
      go_enter Try.func21, Try.ntmps21
      go_wp2
      go_ret2
      exact ⟨rfl, Below.refl _ _⟩
    · rw [gas_no (fun h => dec_no h4 h.2.2.2)]
      go_enter Try.func21, Try.ntmps21
      go_wp2
      go_ret2
      exact ⟨rfl, Below.refl _ _⟩
  · rw [gas_no (fun h => dec_no h1 h.1)]
    go_enter Try.func21, Try.ntmps21
    go_wp2
    go_ret2
    exact ⟨rfl, Below.refl _ _⟩
  · rw [gas_no (fun h => dec_no h2 h.2.1)]
    go_enter Try.func21, Try.ntmps21
    go_wp2
    go_ret2
    exact ⟨rfl, Below.refl _ _⟩
theorem walk (w : World) (a0 : Int) (ia0 : In64 a0) (a1 : Int) (ia1 : In64 a1) :
    Calls Try.prog 5 #[.int .i64 a0, .int .i64 a1] w fun e w' => e = .returned (.bool true) ∧ Below w.heap.size w w' := by
  go_enter Try.func5, Try.ntmps5
  go_wp2_with fail
  refine (spec_any _ a0 ia0 a1 ia1).mono ?_
  rintro e w1 ⟨rfl, hb⟩
  have zz1 : w.heap.size ≤ w1.heap.size := (by have := hb.size; ((try simp at this) <;> omega))
  have H1 := Lib.hid (show Below w.heap.size w w1 by repeat (first | (with_reducible exact Below.refl _ _) | (with_reducible assumption) | ((with_reducible refine bl_alloc ?_ _ ?_); (focus ((first | omega | (simp <;> omega)); done))) | ((with_reducible refine bl_set ?_ _ ?_); (focus ((first | omega | (simp <;> omega)); done))) | (with_reducible refine below_drewN ?_ _) | (with_reducible refine Below.drew ?_) | ((with_reducible refine bl_trans ?_ hb ?_); (focus ((first | omega | (simp <;> omega)); done)))))
  clear hb
  go_wp2_with fail
  refine (impl_any _ a0 ia0 a1 ia1).mono ?_
  rintro e w2 ⟨rfl, hb⟩
  have zz2 : w1.heap.size ≤ w2.heap.size := (by have := hb.size; ((try simp at this) <;> omega))
  have H2 := Lib.hid (show Below w.heap.size w w2 by repeat (first | (with_reducible exact Below.refl _ _) | (with_reducible assumption) | ((with_reducible refine bl_alloc ?_ _ ?_); (focus ((first | omega | (simp <;> omega)); done))) | ((with_reducible refine bl_set ?_ _ ?_); (focus ((first | omega | (simp <;> omega)); done))) | (with_reducible refine below_drewN ?_ _) | (with_reducible refine Below.drew ?_) | ((with_reducible refine bl_trans ?_ hb ?_); (focus ((first | omega | (simp <;> omega)); done))) | ((with_reducible refine bl_trans ?_ H1.out ?_); (focus ((first | omega | (simp <;> omega)); done)))))
  clear hb H1
  go_wp2_with fail
  go_ret
  exact ⟨rfl, (by repeat (first | (with_reducible exact Below.refl _ _) | (with_reducible assumption) | ((with_reducible refine bl_alloc ?_ _ ?_); (focus ((first | omega | (simp <;> omega)); done))) | ((with_reducible refine bl_set ?_ _ ?_); (focus ((first | omega | (simp <;> omega)); done))) | (with_reducible refine below_drewN ?_ _) | (with_reducible refine Below.drew ?_) | ((with_reducible refine bl_trans ?_ H2.out ?_); (focus ((first | omega | (simp <;> omega)); done)))))⟩
end Go.Proofs.Yticgoicjbjlbbaa.fnExactGasLoss
