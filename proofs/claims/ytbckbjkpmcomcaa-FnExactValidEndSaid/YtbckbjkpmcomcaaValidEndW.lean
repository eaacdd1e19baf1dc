/-
  The walk of FnExactValidEnd: it returns true, and of what was there nothing has turned. The conditions are what its arguments' readings give.
-/
import Derived.Test.YtbckbjkpmcomcaaRows
import Derived.Test.YtbckbjkpmcomcaaLib
import Derived.Test.YtbckbjkpmcomcaaPlaces
namespace Go.Proofs.Ytbckbjkpmcomcaa.fnExactValidEnd
open Go.RowKit Go.ChangeShapes Go.WideShapes Go.ChangeAt
set_option linter.unusedVariables false
set_option linter.unusedSimpArgs false

def okB (x y a : Int) : Bool := decide (0 ≤ x ∧ x ≤ 200000 ∧ 0 ≤ y ∧ y ≤ 200000 ∧ 1 ≤ a ∧ a ≤ 3000)
theorem spec_any (w : World) (x : Int) (ix : In64 x) (y : Int) (iy : In64 y) (a : Int) (ia : In64 a) :
    Calls Try.prog 17 #[.agg #[.int .i64 x, .int .i64 y, .int .i64 a]] w fun e w' => e = .returned (.bool (okB x y a)) ∧ Below w.heap.size w w' := by
  go_enter Try.func17, Try.ntmps17
  go_wp2
  all_goals
    go_ret
    exact ⟨(ret_bool (by unfold okB; first | exact (decide_eq_true (by omega)).symm | exact (decide_eq_false (by omega)).symm | (rw [Bool.eq_iff_iff]; simp only [decide_eq_true_eq, Bool.and_eq_true, Bool.or_eq_true, Bool.not_eq_true', decide_eq_false_iff_not]; omega))), by repeat (first | (with_reducible exact Below.refl _ _) | (with_reducible assumption) | ((with_reducible refine bl_alloc ?_ _ ?_); (focus ((first | omega | (simp <;> omega)); done))) | ((with_reducible refine bl_set ?_ _ ?_); (focus ((first | omega | (simp <;> omega)); done))) | (with_reducible refine below_drewN ?_ _) | (with_reducible refine Below.drew ?_))⟩
theorem impl_any (w : World) (x : Int) (ix : In64 x) (y : Int) (iy : In64 y) (a : Int) (ia : In64 a) :
    Calls Try.prog 19 #[.agg #[.int .i64 x, .int .i64 y, .int .i64 a]] w fun e w' => e = .returned (.bool (okB x y a)) ∧ Below w.heap.size w w' := by
  go_enter Try.func19, Try.ntmps19
  go_wp2
  all_goals
    go_ret
    exact ⟨(ret_bool (by unfold okB; first | exact (decide_eq_true (by omega)).symm | exact (decide_eq_false (by omega)).symm | (rw [Bool.eq_iff_iff]; simp only [decide_eq_true_eq, Bool.and_eq_true, Bool.or_eq_true, Bool.not_eq_true', decide_eq_false_iff_not]; omega))), by repeat (first | (with_reducible exact Below.refl _ _) | (with_reducible assumption) | ((with_reducible refine bl_alloc ?_ _ ?_); (focus ((first | omega | (simp <;> omega)); done))) | ((with_reducible refine bl_set ?_ _ ?_); (focus ((first | omega | (simp <;> omega)); done))) | (with_reducible refine below_drewN ?_ _) | (with_reducible refine Below.drew ?_))⟩
set_option maxHeartbeats 4000000 in
theorem walk (w : World) (a0_0_0 : Int) (ia0_0_0 : In64 a0_0_0) (a0_0_1 : Int) (ia0_0_1 : In64 a0_0_1) (a0_1 : Int) (ia0_1 : In64 a0_1) :
    Calls Try.prog 6 #[.agg #[.int .i64 a0_0_0, .int .i64 a0_0_1, .int .i64 a0_1]] w fun e w' => e = .returned (.bool true) ∧ Below w.heap.size w w' := by
  go_enter Try.func6, Try.ntmps6
  go_wp2_with fail
  refine (toEnd_any a0_0_0 a0_0_1 a0_1 _).mono ?_
  rintro e w1 ⟨rfl, hb⟩
  have zz1 : w.heap.size + 1 ≤ w1.heap.size := (by have := hb.size; ((try simp at this) <;> omega))
  have H1 := Lib.hid (show Below w.heap.size w w1 by repeat (first | (with_reducible exact Below.refl _ _) | (with_reducible assumption) | ((with_reducible refine bl_alloc ?_ _ ?_); (focus ((first | omega | (simp <;> omega)); done))) | ((with_reducible refine bl_set ?_ _ ?_); (focus ((first | omega | (simp <;> omega)); done))) | (with_reducible refine below_drewN ?_ _) | (with_reducible refine Below.drew ?_) | ((with_reducible refine bl_trans ?_ hb ?_); (focus ((first | omega | (simp <;> omega)); done)))))
  have f0_0_1 := keeps hb (p := ⟨w.heap.size, 0, none⟩) (v := .int .i64 a0_0_0) (by simp [go_sem])
  have f0_1_1 := keeps hb (p := ⟨w.heap.size, 1, none⟩) (v := .int .i64 a0_0_1) (by simp [go_sem])
  have f0_2_1 := keeps hb (p := ⟨w.heap.size, 2, none⟩) (v := .int .i64 a0_1) (by simp [go_sem])
  have g0_1 : w.heap.size < w1.heap.size := block_of_cell f0_0_1
  clear hb
  go_wp2_with fail
  refine (spec_any _ a0_0_0 ia0_0_0 a0_0_1 ia0_0_1 a0_1 ia0_1).mono ?_
  rintro e w2 ⟨rfl, hb⟩
  have zz2 : w1.heap.size ≤ w2.heap.size := (by have := hb.size; ((try simp at this) <;> omega))
  have H2 := Lib.hid (show Below w.heap.size w w2 by repeat (first | (with_reducible exact Below.refl _ _) | (with_reducible assumption) | ((with_reducible refine bl_alloc ?_ _ ?_); (focus ((first | omega | (simp <;> omega)); done))) | ((with_reducible refine bl_set ?_ _ ?_); (focus ((first | omega | (simp <;> omega)); done))) | (with_reducible refine below_drewN ?_ _) | (with_reducible refine Below.drew ?_) | ((with_reducible refine bl_trans ?_ hb ?_); (focus ((first | omega | (simp <;> omega)); done))) | ((with_reducible refine bl_trans ?_ H1.out ?_); (focus ((first | omega | (simp <;> omega)); done)))))
  have f0_0_2 := keeps hb f0_0_1
  have f0_1_2 := keeps hb f0_1_1
  have f0_2_2 := keeps hb f0_2_1
  have g0_2 : w.heap.size < w2.heap.size := block_of_cell f0_0_2
  clear hb f0_0_1 f0_1_1 f0_2_1 g0_1 H1
  go_wp2_with fail
  refine (toEnd_any a0_0_0 a0_0_1 a0_1 _).mono ?_
  rintro e w3 ⟨rfl, hb⟩
  have zz3 : w2.heap.size ≤ w3.heap.size := (by have := hb.size; ((try simp at this) <;> omega))
  have H3 := Lib.hid (show Below w.heap.size w w3 by repeat (first | (with_reducible exact Below.refl _ _) | (with_reducible assumption) | ((with_reducible refine bl_alloc ?_ _ ?_); (focus ((first | omega | (simp <;> omega)); done))) | ((with_reducible refine bl_set ?_ _ ?_); (focus ((first | omega | (simp <;> omega)); done))) | (with_reducible refine below_drewN ?_ _) | (with_reducible refine Below.drew ?_) | ((with_reducible refine bl_trans ?_ hb ?_); (focus ((first | omega | (simp <;> omega)); done))) | ((with_reducible refine bl_trans ?_ H2.out ?_); (focus ((first | omega | (simp <;> omega)); done)))))
  clear hb f0_0_2 f0_1_2 f0_2_2 g0_2 H2
  go_wp2_with fail
  refine (impl_any _ a0_0_0 ia0_0_0 a0_0_1 ia0_0_1 a0_1 ia0_1).mono ?_
  rintro e w4 ⟨rfl, hb⟩
  have zz4 : w3.heap.size ≤ w4.heap.size := (by have := hb.size; ((try simp at this) <;> omega))
  have H4 := Lib.hid (show Below w.heap.size w w4 by repeat (first | (with_reducible exact Below.refl _ _) | (with_reducible assumption) | ((with_reducible refine bl_alloc ?_ _ ?_); (focus ((first | omega | (simp <;> omega)); done))) | ((with_reducible refine bl_set ?_ _ ?_); (focus ((first | omega | (simp <;> omega)); done))) | (with_reducible refine below_drewN ?_ _) | (with_reducible refine Below.drew ?_) | ((with_reducible refine bl_trans ?_ hb ?_); (focus ((first | omega | (simp <;> omega)); done))) | ((with_reducible refine bl_trans ?_ H3.out ?_); (focus ((first | omega | (simp <;> omega)); done)))))
  clear hb H3
  go_wp2_with fail
  go_ret
  exact ⟨rfl, (by repeat (first | (with_reducible exact Below.refl _ _) | (with_reducible assumption) | ((with_reducible refine bl_alloc ?_ _ ?_); (focus ((first | omega | (simp <;> omega)); done))) | ((with_reducible refine bl_set ?_ _ ?_); (focus ((first | omega | (simp <;> omega)); done))) | (with_reducible refine below_drewN ?_ _) | (with_reducible refine Below.drew ?_) | ((with_reducible refine bl_trans ?_ H4.out ?_); (focus ((first | omega | (simp <;> omega)); done)))))⟩
end Go.Proofs.Ytbckbjkpmcomcaa.fnExactValidEnd
