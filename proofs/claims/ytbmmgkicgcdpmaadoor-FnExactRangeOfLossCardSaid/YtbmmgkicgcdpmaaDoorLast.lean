/-
  Contracts of the search of the greatest distance at which a test that falls is met. The conditions are the hypotheses.
-/
import Derived.Test.YtbmmgkicgcdpmaaDoorRows
import Derived.Test.YtbmmgkicgcdpmaaDoorLib
import Derived.Test.YtbmmgkicgcdpmaaDoorRootMath
import Derived.Test.YtbmmgkicgcdpmaaDoorSearch
namespace Go.Proofs.YtbmmgkicgcdpmaaDoor
open Go.RowKit
set_option linter.unusedSimpArgs false
set_option linter.unusedVariables false
/-- A closure that answers as a test does, at every later world. -/
def Answers (w : World) (g : Nat) (cb : Array Value) (lo hi : Int) (so : Int → Bool) : Prop :=
  ∀ (w1 : World) (d : Int), Below w.heap.size w w1 → lo ≤ d → d ≤ hi → Calls Tryd.prog g (#[.int .i64 d] ++ cb) w1 fun e w2 => e = .returned (.bool (so d)) ∧ Below w1.heap.size w1 w2
theorem Answers.later {w w' : World} {g : Nat} {cb : Array Value} {lo hi : Int} {so : Int → Bool} (h : Answers w g cb lo hi so) (hb : Below w.heap.size w w') : Answers w' g cb lo hi so :=
  fun w1 d h1 h2 h3 => h w1 d (hb.trans (h1.mono hb.size)) h2 h3
theorem turns_cross {so : Int → Bool} {k : Nat} (h : Cross (fun i => !so (1 + (i : Int))) 283000 k) : Turns so 283000 k := by
  obtain ⟨c0, c1, c2⟩ := h
  refine ⟨Int.natCast_nonneg _, by omega, ?_, ?_⟩
  · rcases c1 with rfl | c1
    · exact .inl rfl
    · rcases Nat.eq_zero_or_pos k with rfl | hk
      · exact .inl rfl
      · right
        have c1 : (!so (1 + ((k - 1 : Nat) : Int))) = false := c1
        rw [show (1 : Int) + ((k - 1 : Nat) : Int) = (k : Int) by omega] at c1
        simpa using c1
  · rcases c2 with rfl | c2
    · exact .inl rfl
    · right
      rw [show (k : Int) + 1 = 1 + (k : Int) by omega]
      have c2 : (!so (1 + (k : Int))) = true := c2
      simpa using c2
theorem firstIn_one (w : World) (b1 b2 g : Nat) (cb : Array Value) (lo hi : Int) (has : Int → Bool) (eg : ∀ args w, (callFunc g args).run Tryd.prog w = .ok (.enter g args) w) (hf : Answers w g cb lo hi has)
    (c1 : w.cell? ⟨b1, 0, none⟩ = some (.func (.func g) #[] cb)) (c2 : w.cell? ⟨b2, 0, none⟩ = some (.int .i64 lo)) (i : Int) (i0 : 0 ≤ i) (i1 : lo + i ≤ hi) (l0 : -1000000000 ≤ lo) (l1 : hi ≤ 1000000000) :
    Calls Tryd.prog 101 (#[.int .i64 i] ++ #[.pointer (some ⟨b1, 0, none⟩), .pointer (some ⟨b2, 0, none⟩)]) w fun e w' => e = .returned (.bool (has (lo + i))) ∧ Below w.heap.size w w' := by
  have HF := Lib.hid hf
  clear hf
  go_enter Tryd.func101, Tryd.ntmps101
  go_wp2_with (go_at_fn g; refine (HF.out _ (lo + i) (by repeat (first | (with_reducible exact Below.refl _ _) | (with_reducible assumption) | ((with_reducible refine bl_alloc ?_ _ ?_); (focus ((first | omega | (simp <;> omega)); done))) | ((with_reducible refine bl_set ?_ _ ?_); (focus ((first | omega | (simp <;> omega)); done))) | (with_reducible refine below_drewN ?_ _) | (with_reducible refine Below.drew ?_))) (by omega) i1).mono ?_; rintro e w' ⟨rfl, hb2⟩)
  have H1 := Lib.hid (show Below w.heap.size w w' by repeat (first | (with_reducible exact Below.refl _ _) | (with_reducible assumption) | ((with_reducible refine bl_alloc ?_ _ ?_); (focus ((first | omega | (simp <;> omega)); done))) | ((with_reducible refine bl_set ?_ _ ?_); (focus ((first | omega | (simp <;> omega)); done))) | (with_reducible refine below_drewN ?_ _) | (with_reducible refine Below.drew ?_) | ((with_reducible refine bl_trans ?_ hb2 ?_); (focus ((first | omega | (simp <;> omega)); done)))))
  clear hb2
  go_ret
  exact ⟨rfl, H1.out⟩
theorem firstIn_any (w : World) (g : Nat) (cb : Array Value) (lo hi : Int) (has : Int → Bool) (eg : ∀ args w, (callFunc g args).run Tryd.prog w = .ok (.enter g args) w) (hf : Answers w g cb lo hi has) (n : Nat) (hn : hi - lo + 1 = n) (l0 : -1000000000 ≤ lo) (l1 : hi ≤ 1000000000) :
    Calls Tryd.prog 81 #[.int .i64 lo, .int .i64 hi, .func (.func g) #[] cb] w fun e w' => ∃ k : Nat, Cross (fun i => has (lo + (i : Int))) n k ∧ e = .returned (.tuple #[.int .i64 (lo + k), .bool (decide (k < n))]) ∧ Below w.heap.size w w' := by
  have HF := Lib.hid hf
  have HN := Lib.hid hn
  have n0 : (n : Int) ≤ 2000000001 := by omega
  clear hf
  go_enter Tryd.func81, Tryd.ntmps81
  go_wp2_with fail
  refine (search_any _ 101 _ n (fun i => has (lo + (i : Int))) (enters_of Tryd.func101 (by kernel_rfl) rfl) (by omega) ?_).mono ?_
  · intro w1 i hb hq
    exact firstIn_one w1 _ _ g cb lo hi has eg (HF.out.later (by repeat (first | (with_reducible exact Below.refl _ _) | (with_reducible assumption) | ((with_reducible refine bl_alloc ?_ _ ?_); (focus ((first | omega | (simp <;> omega)); done))) | ((with_reducible refine bl_set ?_ _ ?_); (focus ((first | omega | (simp <;> omega)); done))) | (with_reducible refine below_drewN ?_ _) | (with_reducible refine Below.drew ?_) | ((with_reducible refine bl_trans ?_ hb ?_); (focus ((first | omega | (simp <;> omega)); done)))))) (keeps hb (by simp [go_sem])) (keeps hb (by simp [go_sem])) i (by omega) (by omega) l0 l1
  rintro e w1 ⟨k, hk, rfl, hb⟩
  have x2 := keeps hb (p := ⟨w.heap.size, 0, none⟩) (v := .int .i64 lo) (by simp [go_sem])
  have H1 := Lib.hid (show Below w.heap.size w w1 by repeat (first | (with_reducible exact Below.refl _ _) | (with_reducible assumption) | ((with_reducible refine bl_alloc ?_ _ ?_); (focus ((first | omega | (simp <;> omega)); done))) | ((with_reducible refine bl_set ?_ _ ?_); (focus ((first | omega | (simp <;> omega)); done))) | (with_reducible refine below_drewN ?_ _) | (with_reducible refine Below.drew ?_) | ((with_reducible refine bl_trans ?_ hb ?_); (focus ((first | omega | (simp <;> omega)); done)))))
  have k0 : (0 : Int) ≤ (k : Int) := Int.natCast_nonneg _
  have k1 : (k : Int) ≤ (n : Int) := by have := hk.1; omega
  have HK := Lib.hid hk
  clear hb hk
  go_wp2_with fail
  go_ret2
  exact ⟨k, HK.out, rfl, H1.out⟩
theorem last_one (w : World) (b g : Nat) (cb : Array Value) (so : Int → Bool) (eg : ∀ args w, (callFunc g args).run Tryd.prog w = .ok (.enter g args) w) (hf : Answers w g cb 1 283000 so)
    (c1 : w.cell? ⟨b, 0, none⟩ = some (.func (.func g) #[] cb)) (d : Int) (d0 : 1 ≤ d) (d1 : d ≤ 283000) :
    Calls Tryd.prog 82 (#[.int .i64 d] ++ #[.pointer (some ⟨b, 0, none⟩)]) w fun e w' => e = .returned (.bool (!so d)) ∧ Below w.heap.size w w' := by
  have HF := Lib.hid hf
  clear hf
  go_enter Tryd.func82, Tryd.ntmps82
  go_wp2_with (go_at_fn g; refine (HF.out _ d (by repeat (first | (with_reducible exact Below.refl _ _) | (with_reducible assumption) | ((with_reducible refine bl_alloc ?_ _ ?_); (focus ((first | omega | (simp <;> omega)); done))) | ((with_reducible refine bl_set ?_ _ ?_); (focus ((first | omega | (simp <;> omega)); done))) | (with_reducible refine below_drewN ?_ _) | (with_reducible refine Below.drew ?_))) d0 d1).mono ?_; rintro e w' ⟨rfl, hb2⟩)
  have H1 := Lib.hid (show Below w.heap.size w w' by repeat (first | (with_reducible exact Below.refl _ _) | (with_reducible assumption) | ((with_reducible refine bl_alloc ?_ _ ?_); (focus ((first | omega | (simp <;> omega)); done))) | ((with_reducible refine bl_set ?_ _ ?_); (focus ((first | omega | (simp <;> omega)); done))) | (with_reducible refine below_drewN ?_ _) | (with_reducible refine Below.drew ?_) | ((with_reducible refine bl_trans ?_ hb2 ?_); (focus ((first | omega | (simp <;> omega)); done)))))
  clear hb2
  go_ret
  exact ⟨rfl, H1.out⟩
theorem lastDistance_any (w : World) (g : Nat) (cb : Array Value) (so : Int → Bool) (eg : ∀ args w, (callFunc g args).run Tryd.prog w = .ok (.enter g args) w) (hf : Answers w g cb 1 283000 so) (hs : ∀ a b, 1 ≤ a → a ≤ b → b ≤ 283000 → so b = true → so a = true) :
    Calls Tryd.prog 57 #[.func (.func g) #[] cb] w fun e w' => e = .returned (.tuple #[.int .i64 (rangeV so), .int .i64 (if rangeV so = 0 then 3 else 0)]) ∧ Below w.heap.size w w' := by
  have HF := Lib.hid hf
  have HS : Hid (∀ k : Nat, Cross (fun i => !so (1 + (i : Int))) 283000 k → rangeV so = k) := fun k h => rangeV_eq hs (turns_cross h)
  obtain ⟨V, hV⟩ : ∃ V, V = rangeV so := ⟨_, rfl⟩
  rw [← hV] at HS ⊢
  clear hf hs hV
  go_enter Tryd.func57, Tryd.ntmps57
  go_wp2_with fail
  refine (firstIn_any _ 82 _ 1 283000 (fun d => !so d) (enters_of Tryd.func82 (by kernel_rfl) rfl) ?_ 283000 rfl (by omega) (by omega)).mono ?_
  · intro w1 d hb d0 d1
    exact last_one w1 _ g cb so eg (HF.out.later (by repeat (first | (with_reducible exact Below.refl _ _) | (with_reducible assumption) | ((with_reducible refine bl_alloc ?_ _ ?_); (focus ((first | omega | (simp <;> omega)); done))) | ((with_reducible refine bl_set ?_ _ ?_); (focus ((first | omega | (simp <;> omega)); done))) | (with_reducible refine below_drewN ?_ _) | (with_reducible refine Below.drew ?_) | ((with_reducible refine bl_trans ?_ hb ?_); (focus ((first | omega | (simp <;> omega)); done)))))) (keeps hb (by simp [go_sem])) d d0 d1
  rintro e w1 ⟨k, hk, rfl, hb⟩
  have H1 := Lib.hid (show Below w.heap.size w w1 by repeat (first | (with_reducible exact Below.refl _ _) | (with_reducible assumption) | ((with_reducible refine bl_alloc ?_ _ ?_); (focus ((first | omega | (simp <;> omega)); done))) | ((with_reducible refine bl_set ?_ _ ?_); (focus ((first | omega | (simp <;> omega)); done))) | (with_reducible refine below_drewN ?_ _) | (with_reducible refine Below.drew ?_) | ((with_reducible refine bl_trans ?_ hb ?_); (focus ((first | omega | (simp <;> omega)); done)))))
  have k0 : (0 : Int) ≤ (k : Int) := Int.natCast_nonneg _
  have k1 : (k : Int) ≤ 283000 := by have := hk.1; omega
  obtain rfl := HS.out k hk
  clear hb hk HS
  by_cases hl : k < 283000
  · by_cases hz : (k : Int) = 0
    · obtain rfl : k = 0 := by omega
      have hd : decide ((0 : Nat) < 283000) = true := rfl
      go_wp2
      go_ret2
      exact ⟨rfl, H1.out⟩
    · have hd : decide (k < 283000) = true := decide_eq_true hl
      have hg : decide ((1 : Int) < 1 + (k : Int)) = true := decide_eq_true (by omega)
      have hg1 : (1 : Int) < 1 + (k : Int) := by omega
      go_wp2
      go_ret2
      refine ⟨?_, H1.out⟩
      show Ending.returned (.tuple #[.int .i64 (1 + (k : Int) - 1), .int .i64 0]) = _
      rw [show (1 : Int) + (k : Int) - 1 = (k : Int) by omega]
  · obtain rfl : k = 283000 := by omega
    have hd : decide ((283000 : Nat) < 283000) = false := rfl
    go_wp2
    go_ret2
    exact ⟨rfl, H1.out⟩
end Go.Proofs.YtbmmgkicgcdpmaaDoor
