/-
  The walk of FnExactStepsFor: it returns true, and of what was there nothing has turned. The conditions are what its arguments' readings give.
-/
import Derived.Test.YticgoicjbjlbbaaRows
import Derived.Test.YticgoicjbjlbbaaLib
import Derived.Test.YticgoicjbjlbbaaInt
import Derived.Test.YticgoicjbjlbbaaInts
import Derived.Test.YticgoicjbjlbbaaIntsB
import Derived.Test.YticgoicjbjlbbaaWithin
import Derived.Test.YticgoicjbjlbbaaMaskB
import Derived.Test.YticgoicjbjlbbaaAll
import Derived.Test.YticgoicjbjlbbaaRises
import Derived.Test.YticgoicjbjlbbaaTable
import Derived.Outline
import Derived.Deep.RegionHeld3
import Derived.Deep.DrawnRows
namespace Go.Proofs.Yticgoicjbjlbbaa.fnExactStepsFor
open Go.RowKit Go.ChangeShapes Go.WideShapes Go.ChangeAt
set_option linter.unusedVariables false
set_option linter.unusedSimpArgs false

attribute [local go_sem ↓] Go.wp_at_zero Go.wp_at_succ
def stepsM (xs : List Int) (need : Int) : Int × Int := if tableB xs = true then (if firstGe need xs < xs.length then ((firstGe need xs : Int), 0) else (0, 3)) else (0, 1)
theorem steps_bad {xs : List Int} {need : Int} (h : tableB xs = false) : stepsM xs need = (0, 1) := if_neg (by rw [h]; decide)
theorem steps_yes {xs : List Int} {need : Int} (h : tableB xs = true) (h1 : firstGe need xs < xs.length) : stepsM xs need = ((firstGe need xs : Int), 0) := by
  unfold stepsM
  rw [if_pos h, if_pos h1]
theorem steps_none {xs : List Int} {need : Int} (h : tableB xs = true) (h1 : ¬ firstGe need xs < xs.length) : stepsM xs need = (0, 3) := by
  unfold stepsM
  rw [if_pos h, if_neg h1]
set_option maxRecDepth 20000 in
set_option maxHeartbeats 2000000 in
theorem spec_any (w : World) (v : Value) (xs : List Int) (p : Nat) (h : Row 2 w p v xs) (ixs : ∀ n ∈ xs, In64 n) (need : Int) (ineed : In64 need) :
    Calls Try.prog 17 #[v, .int .i64 need] w fun e w' => e = .returned (.tuple #[.int .i64 (stepsM xs need).1, .int .i64 (stepsM xs need).2]) ∧ Below w.heap.size w w' := by
  have HR := Lib.hid h
  have hl := h.len
  unfold maxLen at hl
  have hm : (xs.length : Int) ≤ 9223372036854775807 := by omega
  obtain ⟨A, c, rfl⟩ := h.reads.form
  clear h ixs
  have fl := firstGe_le need xs
  rcases bool_tf (tableB xs) with e1 | e1
  rotate_left
  · rw [steps_bad e1]
    have HE := Lib.hid e1
    clear e1
    go_enter Try.func17, Try.ntmps17
    go_wp2_with fail
    refine (l08Table_any _ _ xs p HR.out).mono ?_
    rintro e w1 ⟨he, k, rfl⟩
    rw [HE.out] at he
    subst he
    go_wp2_with fail
    go_ret2
    exact ⟨rfl, by repeat (first | (with_reducible exact Below.refl _ _) | (with_reducible assumption) | ((with_reducible refine bl_alloc ?_ _ ?_); (focus ((first | omega | (simp <;> omega)); done))) | ((with_reducible refine bl_set ?_ _ ?_); (focus ((first | omega | (simp <;> omega)); done))) | (with_reducible refine below_drewN ?_ _) | (with_reducible refine Below.drew ?_))⟩
  have HE := Lib.hid e1
  have HW1 := Lib.hid (where_yes (need := need) (xs := xs))
  have HW2 := Lib.hid (where_no (need := need) (xs := xs))
  by_cases e2 : firstGe need xs < xs.length
  · rw [steps_yes e1 e2]
    have hq : ((firstGe need xs : Int) == (xs.length : Int)) = false := by rw [beq_eq_false_iff_ne]; omega
    have HW := Lib.hid (HW1.out e2)
    obtain ⟨R, hF⟩ : ∃ R, R = firstGe need xs := ⟨_, rfl⟩
    rw [← hF] at hq e2 HW fl ⊢
    have HF := Lib.hid hF
    have r0 : (0 : Int) ≤ (R : Int) := Int.natCast_nonneg _
    have r1 : (R : Int) < (xs.length : Int) := by omega
    clear e1 e2 hF HW1 HW2
    go_enter Try.func17, Try.ntmps17
    go_wp2_with fail
    refine (l08Table_any _ _ xs p HR.out).mono ?_
    rintro e w1 ⟨he, k, rfl⟩
    rw [HE.out] at he
    subst he
    go_wp2_with fail
    refine (l08Steps_any _ _ xs p (HR.out.drewN k) need).mono ?_
    rintro e w1 ⟨he, rfl⟩
    rw [← HF.out] at he
    subst he
    go_wp2_with fail
    go_ret2
    exact ⟨rfl, by repeat (first | (with_reducible exact Below.refl _ _) | (with_reducible assumption) | ((with_reducible refine bl_alloc ?_ _ ?_); (focus ((first | omega | (simp <;> omega)); done))) | ((with_reducible refine bl_set ?_ _ ?_); (focus ((first | omega | (simp <;> omega)); done))) | (with_reducible refine below_drewN ?_ _) | (with_reducible refine Below.drew ?_))⟩
  · rw [steps_none e1 e2]
    have HW := Lib.hid (HW2.out e2)
    obtain ⟨R, hF⟩ : ∃ R, R = firstGe need xs := ⟨_, rfl⟩
    rw [← hF] at e2 fl
    have HF := Lib.hid (show xs.length = firstGe need xs by rw [← hF]; omega)
    have hq : ((xs.length : Int) == (xs.length : Int)) = true := by simp
    clear e1 e2 hF HW1 HW2 fl
    go_enter Try.func17, Try.ntmps17
    go_wp2_with fail
    refine (l08Table_any _ _ xs p HR.out).mono ?_
    rintro e w1 ⟨he, k, rfl⟩
    rw [HE.out] at he
    subst he
    go_wp2_with fail
    refine (l08Steps_any _ _ xs p (HR.out.drewN k) need).mono ?_
    rintro e w1 ⟨he, rfl⟩
    rw [← HF.out] at he
    subst he
    go_wp2_with fail
    go_ret2
    exact ⟨rfl, by repeat (first | (with_reducible exact Below.refl _ _) | (with_reducible assumption) | ((with_reducible refine bl_alloc ?_ _ ?_); (focus ((first | omega | (simp <;> omega)); done))) | ((with_reducible refine bl_set ?_ _ ?_); (focus ((first | omega | (simp <;> omega)); done))) | (with_reducible refine below_drewN ?_ _) | (with_reducible refine Below.drew ?_))⟩
set_option maxRecDepth 20000 in
set_option maxHeartbeats 2000000 in
theorem impl_any (w : World) (v : Value) (xs : List Int) (p : Nat) (h : Row 2 w p v xs) (ixs : ∀ n ∈ xs, In64 n) (need : Int) (ineed : In64 need) :
    Calls Try.prog 19 #[v, .int .i64 need] w fun e w' => e = .returned (.tuple #[.int .i64 (stepsM xs need).1, .int .i64 (stepsM xs need).2]) ∧ Below w.heap.size w w' := by
  have HR := Lib.hid h
  have hl := h.len
  unfold maxLen at hl
  have hm : (xs.length : Int) ≤ 9223372036854775807 := by omega
  obtain ⟨A, c, rfl⟩ := h.reads.form
  clear h ixs
  have fl := firstGe_le need xs
  rcases bool_tf (tableB xs) with e1 | e1
  rotate_left
  · rw [steps_bad e1]
    have HE := Lib.hid e1
    clear e1
    go_enter Try.func19, Try.ntmps19
    go_wp2_with fail
    refine (tableOk_any _ _ xs p (HR.out.alloc_ _)).mono ?_
    rintro e w1 ⟨he, hb⟩
    rw [HE.out] at he
    subst he
    have H1 := Lib.hid (show Below w.heap.size w w1 by repeat (first | (with_reducible exact Below.refl _ _) | (with_reducible assumption) | ((with_reducible refine bl_alloc ?_ _ ?_); (focus ((first | omega | (simp <;> omega)); done))) | ((with_reducible refine bl_set ?_ _ ?_); (focus ((first | omega | (simp <;> omega)); done))) | (with_reducible refine below_drewN ?_ _) | (with_reducible refine Below.drew ?_) | ((with_reducible refine bl_trans ?_ hb ?_); (focus ((first | omega | (simp <;> omega)); done)))))
    clear hb
    go_wp2_with fail
    go_ret2
    exact ⟨rfl, H1.out⟩
  have HE := Lib.hid e1
  have HW1 := Lib.hid (where_yes (need := need) (xs := xs))
  have HW2 := Lib.hid (where_no (need := need) (xs := xs))
  by_cases e2 : firstGe need xs < xs.length
  · rw [steps_yes e1 e2]
    have hq : ((firstGe need xs : Int) == (xs.length : Int)) = false := by rw [beq_eq_false_iff_ne]; omega
    have HW := Lib.hid (HW1.out e2)
    obtain ⟨R, hF⟩ : ∃ R, R = firstGe need xs := ⟨_, rfl⟩
    rw [← hF] at hq e2 HW fl ⊢
    have HF := Lib.hid hF
    have r0 : (0 : Int) ≤ (R : Int) := Int.natCast_nonneg _
    have r1 : (R : Int) < (xs.length : Int) := by omega
    clear e1 e2 hF HW1 HW2
    go_enter Try.func19, Try.ntmps19
    go_wp2_with fail
    refine (tableOk_any _ _ xs p (HR.out.alloc_ _)).mono ?_
    rintro e w1 ⟨he, hb⟩
    rw [HE.out] at he
    subst he
    have H1 := Lib.hid (show Below w.heap.size w w1 by repeat (first | (with_reducible exact Below.refl _ _) | (with_reducible assumption) | ((with_reducible refine bl_alloc ?_ _ ?_); (focus ((first | omega | (simp <;> omega)); done))) | ((with_reducible refine bl_set ?_ _ ?_); (focus ((first | omega | (simp <;> omega)); done))) | (with_reducible refine below_drewN ?_ _) | (with_reducible refine Below.drew ?_) | ((with_reducible refine bl_trans ?_ hb ?_); (focus ((first | omega | (simp <;> omega)); done)))))
    have HR1 := Lib.hid ((HR.out.alloc_ (.cells #[.int .i64 need] 2)).later hb)
    have x0 := keeps hb (p := ⟨w.heap.size, 0, none⟩) (v := .int .i64 need) (by simp [go_sem])
    clear hb
    go_wp2_with fail
    refine (indexGe_any _ _ xs p HR1.out need w.heap.size x0).mono ?_
    rintro e w2 ⟨he, rfl⟩
    rw [HW.out] at he
    subst he
    go_wp2_with (go_at_call 61; go_in)
    go_ret2
    exact ⟨rfl, H1.out⟩
  · rw [steps_none e1 e2]
    have HW := Lib.hid (HW2.out e2)
    obtain ⟨R, hF⟩ : ∃ R, R = firstGe need xs := ⟨_, rfl⟩
    rw [← hF] at e2 fl
    have HF := Lib.hid (show xs.length = firstGe need xs by rw [← hF]; omega)
    have hq : ((xs.length : Int) == (xs.length : Int)) = true := by simp
    clear e1 e2 hF HW1 HW2 fl
    go_enter Try.func19, Try.ntmps19
    go_wp2_with fail
    refine (tableOk_any _ _ xs p (HR.out.alloc_ _)).mono ?_
    rintro e w1 ⟨he, hb⟩
    rw [HE.out] at he
    subst he
    have H1 := Lib.hid (show Below w.heap.size w w1 by repeat (first | (with_reducible exact Below.refl _ _) | (with_reducible assumption) | ((with_reducible refine bl_alloc ?_ _ ?_); (focus ((first | omega | (simp <;> omega)); done))) | ((with_reducible refine bl_set ?_ _ ?_); (focus ((first | omega | (simp <;> omega)); done))) | (with_reducible refine below_drewN ?_ _) | (with_reducible refine Below.drew ?_) | ((with_reducible refine bl_trans ?_ hb ?_); (focus ((first | omega | (simp <;> omega)); done)))))
    have HR1 := Lib.hid ((HR.out.alloc_ (.cells #[.int .i64 need] 2)).later hb)
    have x0 := keeps hb (p := ⟨w.heap.size, 0, none⟩) (v := .int .i64 need) (by simp [go_sem])
    clear hb
    go_wp2_with fail
    refine (indexGe_any _ _ xs p HR1.out need w.heap.size x0).mono ?_
    rintro e w2 ⟨he, rfl⟩
    rw [HW.out] at he
    subst he
    go_wp2_with (go_at_call 61; go_in)
    go_ret2
    exact ⟨rfl, H1.out⟩
set_option maxRecDepth 20000 in
set_option maxHeartbeats 4000000 in
theorem walk (w : World) (v0 : Value) (x0 : List Int) (r0 : Rd w w.heap.size v0 x0) (ix0 : ∀ n ∈ x0, In64 n) (a1 : Int) (ia1 : In64 a1) :
    Calls Try.prog 4 #[v0, .int .i64 a1] w fun e w' => e = .returned (.bool true) ∧ Below w.heap.size w w' := by
  by_cases ht0 : ¬ (x0.length : Int) ≤ 1048576
  · obtain ⟨A0, c0, rfl⟩ := r0.form
    go_enter Try.func4, Try.ntmps4
    go_wp2_with fail
    go_ret
    exact ⟨rfl, Below.refl _ _⟩
  have ht0' : (x0.length : Int) ≤ 1048576 := by omega
  clear ht0
  obtain ⟨A0, c0, rfl⟩ := r0.form
  go_enter Try.func4, Try.ntmps4
  go_wp2_with fail
  refine (to_row _ x0 _ w.heap.size (by first | omega | (simp <;> omega)) (Rd.below r0 (by repeat (first | (with_reducible exact Below.refl _ _) | (with_reducible assumption) | ((with_reducible refine bl_alloc ?_ _ ?_); (focus ((first | omega | (simp <;> omega)); done))) | ((with_reducible refine bl_set ?_ _ ?_); (focus ((first | omega | (simp <;> omega)); done))) | (with_reducible refine below_drewN ?_ _) | (with_reducible refine Below.drew ?_)))) (by omega)).mono ?_
  rintro e w1 ⟨A0, n0, c0, rfl, hr0, hb⟩
  have zz1 : w.heap.size ≤ w1.heap.size := (by have := hb.size; ((try simp at this) <;> omega))
  have H1 := Lib.hid (show Below w.heap.size w w1 by repeat (first | (with_reducible exact Below.refl _ _) | (with_reducible assumption) | ((with_reducible refine bl_alloc ?_ _ ?_); (focus ((first | omega | (simp <;> omega)); done))) | ((with_reducible refine bl_set ?_ _ ?_); (focus ((first | omega | (simp <;> omega)); done))) | (with_reducible refine below_drewN ?_ _) | (with_reducible refine Below.drew ?_) | ((with_reducible refine bl_trans ?_ hb ?_); (focus ((first | omega | (simp <;> omega)); done)))))
  have R0_1 := Lib.hid hr0
  have RL0 := Lib.hid (show ∀ g, Value.ownBlock (.slice A0 n0 c0) = some g → w.heap.size ≤ g ∧ g < w1.heap.size from fun g h => by have l1 := hr0.lt g h; ((try simp at l1) <;> omega))
  clear hb hr0
  go_wp2_with fail
  refine (spec_any _ _ x0 _ R0_1.out ix0 a1 ia1).mono ?_
  rintro e w2 ⟨rfl, hb⟩
  have zz2 : w1.heap.size ≤ w2.heap.size := (by have := hb.size; ((try simp at this) <;> omega))
  have H2 := Lib.hid (show Below w.heap.size w w2 by repeat (first | (with_reducible exact Below.refl _ _) | (with_reducible assumption) | ((with_reducible refine bl_alloc ?_ _ ?_); (focus ((first | omega | (simp <;> omega)); done))) | ((with_reducible refine bl_set ?_ _ ?_); (focus ((first | omega | (simp <;> omega)); done))) | (with_reducible refine below_drewN ?_ _) | (with_reducible refine Below.drew ?_) | ((with_reducible refine bl_trans ?_ hb ?_); (focus ((first | omega | (simp <;> omega)); done))) | ((with_reducible refine bl_trans ?_ H1.out ?_); (focus ((first | omega | (simp <;> omega)); done)))))
  clear hb R0_1 H1
  go_wp2_with fail
  refine (to_row _ x0 _ w.heap.size (by first | omega | (simp <;> omega)) (Rd.below r0 (by repeat (first | (with_reducible exact Below.refl _ _) | (with_reducible assumption) | ((with_reducible refine bl_alloc ?_ _ ?_); (focus ((first | omega | (simp <;> omega)); done))) | ((with_reducible refine bl_set ?_ _ ?_); (focus ((first | omega | (simp <;> omega)); done))) | (with_reducible refine below_drewN ?_ _) | (with_reducible refine Below.drew ?_) | ((with_reducible refine bl_trans ?_ H2.out ?_); (focus ((first | omega | (simp <;> omega)); done)))))) (by omega)).mono ?_
  rintro e w3 ⟨A1, n1, c1, rfl, hr1, hb⟩
  have zz3 : w2.heap.size ≤ w3.heap.size := (by have := hb.size; ((try simp at this) <;> omega))
  have H3 := Lib.hid (show Below w.heap.size w w3 by repeat (first | (with_reducible exact Below.refl _ _) | (with_reducible assumption) | ((with_reducible refine bl_alloc ?_ _ ?_); (focus ((first | omega | (simp <;> omega)); done))) | ((with_reducible refine bl_set ?_ _ ?_); (focus ((first | omega | (simp <;> omega)); done))) | (with_reducible refine below_drewN ?_ _) | (with_reducible refine Below.drew ?_) | ((with_reducible refine bl_trans ?_ hb ?_); (focus ((first | omega | (simp <;> omega)); done))) | ((with_reducible refine bl_trans ?_ H2.out ?_); (focus ((first | omega | (simp <;> omega)); done)))))
  have R1_3 := Lib.hid hr1
  have RL1 := Lib.hid (show ∀ g, Value.ownBlock (.slice A1 n1 c1) = some g → w2.heap.size ≤ g ∧ g < w3.heap.size from fun g h => by have l1 := hr1.lt g h; ((try simp at l1) <;> omega))
  clear hb hr1 H2
  go_wp2_with fail
  refine (impl_any _ _ x0 _ R1_3.out ix0 a1 ia1).mono ?_
  rintro e w4 ⟨rfl, hb⟩
  have zz4 : w3.heap.size ≤ w4.heap.size := (by have := hb.size; ((try simp at this) <;> omega))
  have H4 := Lib.hid (show Below w.heap.size w w4 by repeat (first | (with_reducible exact Below.refl _ _) | (with_reducible assumption) | ((with_reducible refine bl_alloc ?_ _ ?_); (focus ((first | omega | (simp <;> omega)); done))) | ((with_reducible refine bl_set ?_ _ ?_); (focus ((first | omega | (simp <;> omega)); done))) | (with_reducible refine below_drewN ?_ _) | (with_reducible refine Below.drew ?_) | ((with_reducible refine bl_trans ?_ hb ?_); (focus ((first | omega | (simp <;> omega)); done))) | ((with_reducible refine bl_trans ?_ H3.out ?_); (focus ((first | omega | (simp <;> omega)); done)))))
  have R1_4 := Lib.hid (Row.later R1_3.out hb)
  clear hb R1_3 H3
  go_wp2_with fail
  refine (to_row _ x0 _ w.heap.size (by first | omega | (simp <;> omega)) (Rd.below r0 (by repeat (first | (with_reducible exact Below.refl _ _) | (with_reducible assumption) | ((with_reducible refine bl_alloc ?_ _ ?_); (focus ((first | omega | (simp <;> omega)); done))) | ((with_reducible refine bl_set ?_ _ ?_); (focus ((first | omega | (simp <;> omega)); done))) | (with_reducible refine below_drewN ?_ _) | (with_reducible refine Below.drew ?_) | ((with_reducible refine bl_trans ?_ H4.out ?_); (focus ((first | omega | (simp <;> omega)); done)))))) (by omega)).mono ?_
  rintro e w5 ⟨A2, n2, c2, rfl, hr2, hb⟩
  have zz5 : w4.heap.size ≤ w5.heap.size := (by have := hb.size; ((try simp at this) <;> omega))
  have H5 := Lib.hid (show Below w.heap.size w w5 by repeat (first | (with_reducible exact Below.refl _ _) | (with_reducible assumption) | ((with_reducible refine bl_alloc ?_ _ ?_); (focus ((first | omega | (simp <;> omega)); done))) | ((with_reducible refine bl_set ?_ _ ?_); (focus ((first | omega | (simp <;> omega)); done))) | (with_reducible refine below_drewN ?_ _) | (with_reducible refine Below.drew ?_) | ((with_reducible refine bl_trans ?_ hb ?_); (focus ((first | omega | (simp <;> omega)); done))) | ((with_reducible refine bl_trans ?_ H4.out ?_); (focus ((first | omega | (simp <;> omega)); done)))))
  have R1_5 := Lib.hid (Row.later R1_4.out hb)
  have R2_5 := Lib.hid hr2
  have RL2 := Lib.hid (show ∀ g, Value.ownBlock (.slice A2 n2 c2) = some g → w4.heap.size ≤ g ∧ g < w5.heap.size from fun g h => by have l1 := hr2.lt g h; ((try simp at l1) <;> omega))
  clear hb R1_4 hr2 H4
  go_wp2_with fail
  refine (eq_rowsB _ _ x0 _ _ _ R1_5.out R2_5.out).mono ?_
  rintro e w6 ⟨rfl, hb⟩
  have zz6 : w5.heap.size ≤ w6.heap.size := (by have := hb.size; ((try simp at this) <;> omega))
  have H6 := Lib.hid (show Below w.heap.size w w6 by repeat (first | (with_reducible exact Below.refl _ _) | (with_reducible assumption) | ((with_reducible refine bl_alloc ?_ _ ?_); (focus ((first | omega | (simp <;> omega)); done))) | ((with_reducible refine bl_set ?_ _ ?_); (focus ((first | omega | (simp <;> omega)); done))) | (with_reducible refine below_drewN ?_ _) | (with_reducible refine Below.drew ?_) | ((with_reducible refine bl_trans ?_ hb ?_); (focus ((first | omega | (simp <;> omega)); done))) | ((with_reducible refine bl_trans ?_ H5.out ?_); (focus ((first | omega | (simp <;> omega)); done)))))
  clear hb R1_5 R2_5 H5
  go_wp2_with fail
  go_ret
  exact ⟨rfl, (by repeat (first | (with_reducible exact Below.refl _ _) | (with_reducible assumption) | ((with_reducible refine bl_alloc ?_ _ ?_); (focus ((first | omega | (simp <;> omega)); done))) | ((with_reducible refine bl_set ?_ _ ?_); (focus ((first | omega | (simp <;> omega)); done))) | (with_reducible refine below_drewN ?_ _) | (with_reducible refine Below.drew ?_) | ((with_reducible refine bl_trans ?_ H6.out ?_); (focus ((first | omega | (simp <;> omega)); done)))))⟩
end Go.Proofs.Yticgoicjbjlbbaa.fnExactStepsFor
