/-
  Contract of the program's function that says whether a mask is valid. The slices are rows of the call's own.
-/
import Derived.Test.YtampjgfddakdoaaDoorLib
import Derived.Test.YtampjgfddakdoaaDoorRows
import Derived.Test.YtampjgfddakdoaaDoorMaskB
import Derived.Test.YtampjgfddakdoaaDoorWithin
import Derived.Test.YtampjgfddakdoaaDoorInt
import Derived.Test.YtampjgfddakdoaaDoorRises
import Derived.Deep.QuietTactic
import Derived.BigQuiet
namespace Go.Proofs.YtampjgfddakdoaaDoor
open Go.RowKit
set_option linter.unusedSimpArgs false
set_option linter.unusedVariables false
set_option maxHeartbeats 4000000 in
theorem ValidMask_any (w : World) (a : Value) (xs : List Int) (p : Nat) (ha : Row 2 w p a xs) (b : Value) (ys : List Int) (q : Nat) (hb : Row 2 w q b ys) :
    Calls Tryd.prog 46 #[.agg #[a, b]] w fun e w' => e = .returned (.bool (maskB xs ys)) ∧ Below w.heap.size w w' := by
  have HA := Lib.hid ha
  have HB := Lib.hid hb
  have l1 := ha.len
  have l2 := hb.len
  unfold maxLen at l1 l2
  have z1 : (xs.length : Int) ≤ 9223372036854775807 := by omega
  have z2 : (ys.length : Int) ≤ 9223372036854775807 := by omega
  by_cases e1 : 2 ≤ xs.length ∧ xs.length ≤ 12
  rotate_left
  · have HE := Lib.hid (mask_size (ys := ys) e1)
    obtain ⟨A, c, rfl⟩ := ha.reads.form
    obtain ⟨A', c', rfl⟩ := hb.reads.form
    clear ha hb HA HB
    generalize xs.length = n at *
    generalize ys.length = n' at *
    generalize maskB xs ys = R at *
    by_cases e2 : (n : Int) < 2
    · clear e1
      go_enter Tryd.func46, Tryd.ntmps46
      go_wp2_with fail
      go_ret
      exact ⟨ret_bool HE.out.symm, by repeat (first | (with_reducible exact Below.refl _ _) | (with_reducible assumption) | ((with_reducible refine bl_alloc ?_ _ ?_); (focus ((first | omega | (simp <;> omega)); done))) | ((with_reducible refine bl_set ?_ _ ?_); (focus ((first | omega | (simp <;> omega)); done))) | (with_reducible refine below_drewN ?_ _) | (with_reducible refine Below.drew ?_))⟩
    · have e3 : (12 : Int) < (n : Int) := by omega
      clear e1
      go_enter Tryd.func46, Tryd.ntmps46
      go_wp2_with fail
      go_ret
      exact ⟨ret_bool HE.out.symm, by repeat (first | (with_reducible exact Below.refl _ _) | (with_reducible assumption) | ((with_reducible refine bl_alloc ?_ _ ?_); (focus ((first | omega | (simp <;> omega)); done))) | ((with_reducible refine bl_set ?_ _ ?_); (focus ((first | omega | (simp <;> omega)); done))) | (with_reducible refine below_drewN ?_ _) | (with_reducible refine Below.drew ?_))⟩
  obtain ⟨e1, e2⟩ := e1
  by_cases e3 : ys.length = xs.length
  rotate_left
  · have HE := Lib.hid (mask_len e3)
    have hq : ((ys.length : Int) != (xs.length : Int)) = true := by rw [bne_iff_ne]; omega
    have hq2 : ((ys.length : Int) == (xs.length : Int)) = false := by rw [beq_eq_false_iff_ne]; omega
    obtain ⟨A, c, rfl⟩ := ha.reads.form
    obtain ⟨A', c', rfl⟩ := hb.reads.form
    clear ha hb HA HB e3
    generalize xs.length = n at *
    generalize ys.length = n' at *
    generalize maskB xs ys = R at *
    have y1 : (2 : Int) ≤ (n : Int) := by omega
    have y2 : (n : Int) ≤ 12 := by omega
    go_enter Tryd.func46, Tryd.ntmps46
    go_wp2_with fail
    go_ret
    exact ⟨ret_bool HE.out.symm, by repeat (first | (with_reducible exact Below.refl _ _) | (with_reducible assumption) | ((with_reducible refine bl_alloc ?_ _ ?_); (focus ((first | omega | (simp <;> omega)); done))) | ((with_reducible refine bl_set ?_ _ ?_); (focus ((first | omega | (simp <;> omega)); done))) | (with_reducible refine below_drewN ?_ _) | (with_reducible refine Below.drew ?_))⟩
  have F4 := Lib.hid (fun h => mask_o (xs := xs) (ys := ys) h)
  have F5 := Lib.hid (fun h => mask_l (xs := xs) (ys := ys) h)
  have F6 := Lib.hid (fun h => mask_rise (xs := xs) (ys := ys) h)
  have F7 := Lib.hid (fun h => mask_sort (xs := xs) (ys := ys) h)
  have F8 := Lib.hid (fun h4 h5 h6 h7 => mask_yes (xs := xs) (ys := ys) e1 e2 e3 h4 h5 h6 h7)
  have F9 := Lib.hid (fun h => rise_last (xs := xs) (hi := 100000) h (by omega))
  have F10 := Lib.hid (fun h => sort_last (xs := ys) (hi := 120000) h (by omega))
  rcases ha.forms with ⟨_, h0⟩ | ⟨g, c, rfl, _, la, hc, _⟩
  · rw [h0] at e1
    simp at e1
  rcases hb.forms with ⟨_, h0⟩ | ⟨g', c', rfl, _, lb, hc', _⟩
  · rw [← e3, h0] at e1
    simp at e1
  obtain ⟨n, hn⟩ : ∃ n, xs.length = n + 1 := ⟨xs.length - 1, by omega⟩
  rw [e3] at *
  generalize xs.length = N at *
  subst hn
  have y1 : (1 : Int) ≤ (n : Int) := by omega
  have y2 : (n : Int) ≤ 11 := by omega
  have a0 := hc 0 (by omega)
  have a1 := hc n (by omega)
  have b0 := hc' 0 (by omega)
  have b1 := hc' n (by omega)
  rw [Nat.add_sub_cancel] at F9 F10
  generalize maskB xs ys = R at *
  clear ha hb hc hc' e3 l1 l2 z1 z2
  by_cases e4 : xs.getD 0 0 = 0
  rotate_left
  · have HE := Lib.hid (F4.out e4)
    have hq : (xs.getD 0 0 != 0) = true := bne_iff_ne.2 e4
    clear F4 F5 F6 F7 F8 F9 F10 e4
    generalize xs.getD 0 0 = x at *
    generalize xs.getD n 0 = x' at *
    generalize ys.getD 0 0 = y at *
    generalize ys.getD n 0 = y' at *
    go_enter Tryd.func46, Tryd.ntmps46
    go_wp2_with fail
    go_ret
    exact ⟨ret_bool HE.out.symm, by repeat (first | (with_reducible exact Below.refl _ _) | (with_reducible assumption) | ((with_reducible refine bl_alloc ?_ _ ?_); (focus ((first | omega | (simp <;> omega)); done))) | ((with_reducible refine bl_set ?_ _ ?_); (focus ((first | omega | (simp <;> omega)); done))) | (with_reducible refine below_drewN ?_ _) | (with_reducible refine Below.drew ?_))⟩
  by_cases e5 : ys.getD 0 0 = 0
  rotate_left
  · have HE := Lib.hid (F5.out e5)
    have hq : (ys.getD 0 0 != 0) = true := bne_iff_ne.2 e5
    rw [e4] at a0
    clear F4 F5 F6 F7 F8 F9 F10 e4 e5
    generalize xs.getD n 0 = x' at *
    generalize ys.getD 0 0 = y at *
    generalize ys.getD n 0 = y' at *
    go_enter Tryd.func46, Tryd.ntmps46
    go_wp2_with fail
    go_ret
    exact ⟨ret_bool HE.out.symm, by repeat (first | (with_reducible exact Below.refl _ _) | (with_reducible assumption) | ((with_reducible refine bl_alloc ?_ _ ?_); (focus ((first | omega | (simp <;> omega)); done))) | ((with_reducible refine bl_set ?_ _ ?_); (focus ((first | omega | (simp <;> omega)); done))) | (with_reducible refine below_drewN ?_ _) | (with_reducible refine Below.drew ?_))⟩
  have G9 := F9.out e4
  have G10 := F10.out e5
  rw [e4] at a0
  rw [e5] at b0
  have G8 := Lib.hid (F8.out e4 e5)
  clear F4 F5 F8 F9 F10 e4 e5
  generalize xs.getD n 0 = x' at *
  generalize ys.getD n 0 = y' at *
  rcases bool_tf (incB xs) with f1 | f1
  rotate_left
  · have HE := Lib.hid (F6.out (by rw [G9, f1]; rfl))
    have F1 := Lib.hid f1
    clear F6 F7 G8 G9 G10 f1
    go_enter Tryd.func46, Tryd.ntmps46
    go_wp2_with fail
    refine (increasing_any _ _ xs p (HA.out.alloc_ _)).mono ?_
    rintro e w1 ⟨he, k, rfl⟩
    rw [F1.out] at he
    subst he
    go_wp2_with fail
    go_ret
    exact ⟨ret_bool HE.out.symm, by repeat (first | (with_reducible exact Below.refl _ _) | (with_reducible assumption) | ((with_reducible refine bl_alloc ?_ _ ?_); (focus ((first | omega | (simp <;> omega)); done))) | ((with_reducible refine bl_set ?_ _ ?_); (focus ((first | omega | (simp <;> omega)); done))) | (with_reducible refine below_drewN ?_ _) | (with_reducible refine Below.drew ?_))⟩
  by_cases f2 : x' ≤ 100000
  rotate_left
  · have HE := Lib.hid (F6.out (by rw [G9, decide_eq_false f2, Bool.and_false]))
    have F1 := Lib.hid f1
    have f2' : decide (x' ≤ 100000) = false := decide_eq_false f2
    clear F6 F7 G8 G9 G10 f1 f2
    go_enter Tryd.func46, Tryd.ntmps46
    go_wp2_with fail
    refine (increasing_any _ _ xs p (HA.out.alloc_ _)).mono ?_
    rintro e w1 ⟨he, k, rfl⟩
    rw [F1.out] at he
    subst he
    go_wp2_with fail
    go_ret
    exact ⟨ret_bool HE.out.symm, by repeat (first | (with_reducible exact Below.refl _ _) | (with_reducible assumption) | ((with_reducible refine bl_alloc ?_ _ ?_); (focus ((first | omega | (simp <;> omega)); done))) | ((with_reducible refine bl_set ?_ _ ?_); (focus ((first | omega | (simp <;> omega)); done))) | (with_reducible refine below_drewN ?_ _) | (with_reducible refine Below.drew ?_))⟩
  have G9' := Lib.hid (show riseB xs 100000 = true by rw [G9, f1, decide_eq_true f2]; rfl)
  clear G9
  rcases bool_tf (ascB ys) with f3 | f3
  rotate_left
  · have HE := Lib.hid (F7.out (by rw [G10, f3]; rfl))
    have F1 := Lib.hid f1
    have F3 := Lib.hid f3
    clear F6 F7 G8 G10 f1 f3
    go_enter Tryd.func46, Tryd.ntmps46
    go_wp2_with fail
    refine (increasing_any _ _ xs p (HA.out.alloc_ _)).mono ?_
    rintro e w1 ⟨he, k, rfl⟩
    rw [F1.out] at he
    subst he
    go_wp2_with fail
    refine (isSorted_any _ _ ys q ((HB.out.alloc_ _).drewN k)).mono ?_
    rintro e w1 ⟨he, k', rfl⟩
    rw [F3.out] at he
    subst he
    go_wp2_with fail
    go_ret
    exact ⟨ret_bool HE.out.symm, by repeat (first | (with_reducible exact Below.refl _ _) | (with_reducible assumption) | ((with_reducible refine bl_alloc ?_ _ ?_); (focus ((first | omega | (simp <;> omega)); done))) | ((with_reducible refine bl_set ?_ _ ?_); (focus ((first | omega | (simp <;> omega)); done))) | (with_reducible refine below_drewN ?_ _) | (with_reducible refine Below.drew ?_))⟩
  by_cases f4 : y' ≤ 120000
  rotate_left
  · have HE := Lib.hid (F7.out (by rw [G10, decide_eq_false f4, Bool.and_false]))
    have F1 := Lib.hid f1
    have F3 := Lib.hid f3
    have f4' : decide (y' ≤ 120000) = false := decide_eq_false f4
    clear F6 F7 G8 G10 f1 f3 f4
    go_enter Tryd.func46, Tryd.ntmps46
    go_wp2_with fail
    refine (increasing_any _ _ xs p (HA.out.alloc_ _)).mono ?_
    rintro e w1 ⟨he, k, rfl⟩
    rw [F1.out] at he
    subst he
    go_wp2_with fail
    refine (isSorted_any _ _ ys q ((HB.out.alloc_ _).drewN k)).mono ?_
    rintro e w1 ⟨he, k', rfl⟩
    rw [F3.out] at he
    subst he
    go_wp2_with fail
    go_ret
    exact ⟨ret_bool HE.out.symm, by repeat (first | (with_reducible exact Below.refl _ _) | (with_reducible assumption) | ((with_reducible refine bl_alloc ?_ _ ?_); (focus ((first | omega | (simp <;> omega)); done))) | ((with_reducible refine bl_set ?_ _ ?_); (focus ((first | omega | (simp <;> omega)); done))) | (with_reducible refine below_drewN ?_ _) | (with_reducible refine Below.drew ?_))⟩
  have HE := Lib.hid (G8.out G9'.out (by rw [G10, f3, decide_eq_true f4]; rfl))
  have F1 := Lib.hid f1
  have F3 := Lib.hid f3
  clear F6 F7 G8 G10 f1 f3
  go_enter Tryd.func46, Tryd.ntmps46
  go_wp2_with fail
  refine (increasing_any _ _ xs p (HA.out.alloc_ _)).mono ?_
  rintro e w1 ⟨he, k, rfl⟩
  rw [F1.out] at he
  subst he
  go_wp2_with fail
  refine (isSorted_any _ _ ys q ((HB.out.alloc_ _).drewN k)).mono ?_
  rintro e w1 ⟨he, k', rfl⟩
  rw [F3.out] at he
  subst he
  go_wp2_with fail
  go_ret
  exact ⟨ret_bool HE.out.symm, by repeat (first | (with_reducible exact Below.refl _ _) | (with_reducible assumption) | ((with_reducible refine bl_alloc ?_ _ ?_); (focus ((first | omega | (simp <;> omega)); done))) | ((with_reducible refine bl_set ?_ _ ?_); (focus ((first | omega | (simp <;> omega)); done))) | (with_reducible refine below_drewN ?_ _) | (with_reducible refine Below.drew ?_))⟩
end Go.Proofs.YtampjgfddakdoaaDoor
