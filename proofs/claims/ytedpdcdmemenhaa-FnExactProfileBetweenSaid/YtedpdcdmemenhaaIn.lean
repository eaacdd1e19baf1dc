/-
  A place in a terrain: the reference's test and the program's, one model. The conditions are the hypotheses.
-/
import Derived.Test.YtedpdcdmemenhaaRows
import Derived.Test.YtedpdcdmemenhaaLib
import Derived.Test.YtedpdcdmemenhaaInt
import Derived.Test.YtedpdcdmemenhaaWithin
import Derived.Test.YtedpdcdmemenhaaAll
import Derived.Test.YtedpdcdmemenhaaOwn
import Derived.Test.YtedpdcdmemenhaaField
import Derived.Test.YtedpdcdmemenhaaTer
import Derived.Shelf.Abstract
import Derived.Outline
import Derived.Deep.DeepCutAuto
import Derived.Deep.QuietTactic
import Derived.BigQuiet
import Derived.Deep.RegionHeld3
import Derived.Deep.DrawnRows
namespace Go.Proofs.Ytedpdcdmemenhaa
open Go.RowKit
set_option linter.unusedSimpArgs false
set_option linter.unusedVariables false
attribute [local go_sem ↓] Go.wp_at_zero Go.wp_at_succ
def hasB (st wd ht X Y : Int) : Bool := inB X 0 ((wd - 1) * st) && inB Y 0 ((ht - 1) * st)
theorem has_parts {st wd ht X Y : Int} (h : hasB st wd ht X Y = true) : (0 ≤ X ∧ X ≤ (wd - 1) * st) ∧ (0 ≤ Y ∧ Y ≤ (ht - 1) * st) := by
  unfold hasB at h
  simp only [Bool.and_eq_true] at h
  exact ⟨inB_out h.1, inB_out h.2⟩
set_option maxRecDepth 20000 in
set_option maxHeartbeats 4000000 in
theorem l04In_any (w : World) (o : Nat) (st wd ht X Y : Int) (hz : sizeB st wd ht = true) (c0 : w.cell? ⟨o, 0, none⟩ = some (.int .i64 st)) (c1 : w.cell? ⟨o, 1, none⟩ = some (.int .i64 wd)) (c2 : w.cell? ⟨o, 2, none⟩ = some (.int .i64 ht)) :
    Calls Try.prog 68 #[.pointer (some ⟨o, 0, none⟩), .agg #[.int .i64 X, .int .i64 Y]] w fun e w' => e = .returned (.bool (hasB st wd ht X Y)) ∧ Below w.heap.size w w' := by
  obtain ⟨s0, w0, t0, q1, q2⟩ := size_parts hz
  obtain ⟨p0, _⟩ := size_mul s0.1 s0.2 w0.1 w0.2
  obtain ⟨p1, _⟩ := size_mul s0.1 s0.2 t0.1 t0.2
  have HB : Hid (hasB st wd ht X Y = (inB X 0 ((wd - 1) * st) && inB Y 0 ((ht - 1) * st))) := rfl
  obtain ⟨P, hP⟩ : ∃ P, P = (wd - 1) * st := ⟨_, rfl⟩
  obtain ⟨Q, hQ⟩ : ∃ Q, Q = (ht - 1) * st := ⟨_, rfl⟩
  rw [← hP] at p0 q1 HB
  rw [← hQ] at p1 q2 HB
  have i1 : IntKind.i64.wrap (wd - 1) = wd - 1 := by rw [IntKind.wrap_i64]; omega
  have i2 : IntKind.i64.wrap (ht - 1) = ht - 1 := by rw [IntKind.wrap_i64]; omega
  have i3 : IntKind.i64.wrap ((wd - 1) * st) = P := by rw [← hP, IntKind.wrap_i64]; omega
  have i4 : IntKind.i64.wrap ((ht - 1) * st) = Q := by rw [← hQ, IntKind.wrap_i64]; omega
  obtain ⟨R, hR⟩ : ∃ R, R = hasB st wd ht X Y := ⟨_, rfl⟩
  rw [← hR] at HB ⊢
  clear hR hP hQ hz
  rcases bool_tf (inB X 0 P) with e1 | e1
  rotate_left
  · have HE : Hid (R = false) := by show _ = _; rw [HB.out, e1]; rfl
    have HI1 : Hid (∀ W : World, Calls Try.prog 60 #[.int .i64 X, .int .i64 0, .int .i64 P] W fun e w' => e = .returned (.bool false) ∧ W = w') := fun W => by have h := l00In_any W X 0 P; rw [e1] at h; exact h
    have HI2 : Hid True := trivial
    clear HB e1
    obtain ⟨W0, hW0⟩ : ∃ W, W = w.alloc (.cells #[.int .i64 X, .int .i64 Y] 64) := ⟨_, rfl⟩
    have HW0 := Lib.hid (show Below w.heap.size w W0 by rw [hW0]; repeat (first | (with_reducible exact Below.refl _ _) | (with_reducible assumption) | ((with_reducible refine bl_alloc ?_ _ ?_); (focus ((first | omega | (simp <;> omega)); done))) | ((with_reducible refine bl_set ?_ _ ?_); (focus ((first | omega | (simp <;> omega)); done))) | (with_reducible refine below_drewN ?_ _) | (with_reducible refine Below.drew ?_)))
    have bx0 : W0.cell? ⟨w.heap.size, 0, none⟩ = some (.int .i64 X) := by rw [hW0]; simp [go_sem]
    have bx1 : W0.cell? ⟨w.heap.size, 1, none⟩ = some (.int .i64 Y) := by rw [hW0]; simp [go_sem]
    have e0 := keeps HW0.out c0
    have e1 := keeps HW0.out c1
    have e2 := keeps HW0.out c2
    clear c0 c1 c2
    go_enter Try.func68, Try.ntmps68
    (go_upto_region 1 with fail; rw [← hW0]; clear hW0)
    go_quiet ((go_at_call 60; first | (with_reducible exact quiet_left (HI1.out _)) | (with_reducible exact quiet_left (HI2.out _))))
    go_wp2_with fail
    go_ret
    exact ⟨ret_bool HE.out.symm, by repeat (first | (with_reducible exact Below.refl _ _) | (with_reducible assumption) | ((with_reducible refine bl_alloc ?_ _ ?_); (focus ((first | omega | (simp <;> omega)); done))) | ((with_reducible refine bl_set ?_ _ ?_); (focus ((first | omega | (simp <;> omega)); done))) | (with_reducible refine below_drewN ?_ _) | (with_reducible refine Below.drew ?_) | ((with_reducible refine bl_trans ?_ HW0.out ?_); (focus ((first | omega | (simp <;> omega)); done))))⟩
  have HE : Hid (R = inB Y 0 Q) := by show _ = _; rw [HB.out, e1]; rfl
  have HI1 : Hid (∀ W : World, Calls Try.prog 60 #[.int .i64 X, .int .i64 0, .int .i64 P] W fun e w' => e = .returned (.bool true) ∧ W = w') := fun W => by have h := l00In_any W X 0 P; rw [e1] at h; exact h
  have HI2 : Hid (∀ W : World, Calls Try.prog 60 #[.int .i64 Y, .int .i64 0, .int .i64 Q] W fun e w' => e = .returned (.bool (inB Y 0 Q)) ∧ W = w') := fun W => by have h := l00In_any W Y 0 Q; exact h
  obtain ⟨b2, hb2⟩ : ∃ b, b = inB Y 0 Q := ⟨_, rfl⟩
  rw [← hb2] at HE HI2
  clear HB e1 hb2
  obtain ⟨W0, hW0⟩ : ∃ W, W = w.alloc (.cells #[.int .i64 X, .int .i64 Y] 64) := ⟨_, rfl⟩
  have HW0 := Lib.hid (show Below w.heap.size w W0 by rw [hW0]; repeat (first | (with_reducible exact Below.refl _ _) | (with_reducible assumption) | ((with_reducible refine bl_alloc ?_ _ ?_); (focus ((first | omega | (simp <;> omega)); done))) | ((with_reducible refine bl_set ?_ _ ?_); (focus ((first | omega | (simp <;> omega)); done))) | (with_reducible refine below_drewN ?_ _) | (with_reducible refine Below.drew ?_)))
  have bx0 : W0.cell? ⟨w.heap.size, 0, none⟩ = some (.int .i64 X) := by rw [hW0]; simp [go_sem]
  have bx1 : W0.cell? ⟨w.heap.size, 1, none⟩ = some (.int .i64 Y) := by rw [hW0]; simp [go_sem]
  have e0 := keeps HW0.out c0
  have e1 := keeps HW0.out c1
  have e2 := keeps HW0.out c2
  clear c0 c1 c2
  go_enter Try.func68, Try.ntmps68
  (go_upto_region 1 with fail; rw [← hW0]; clear hW0)
  go_quiet ((go_at_call 60; first | (with_reducible exact quiet_left (HI1.out _)) | (with_reducible exact quiet_left (HI2.out _))))
  go_wp2_with fail
  go_ret
  exact ⟨ret_bool HE.out.symm, by repeat (first | (with_reducible exact Below.refl _ _) | (with_reducible assumption) | ((with_reducible refine bl_alloc ?_ _ ?_); (focus ((first | omega | (simp <;> omega)); done))) | ((with_reducible refine bl_set ?_ _ ?_); (focus ((first | omega | (simp <;> omega)); done))) | (with_reducible refine below_drewN ?_ _) | (with_reducible refine Below.drew ?_) | ((with_reducible refine bl_trans ?_ HW0.out ?_); (focus ((first | omega | (simp <;> omega)); done))))⟩
set_option maxRecDepth 20000 in
set_option maxHeartbeats 4000000 in
theorem has_any (w : World) (st wd ht X Y : Int) (v u : Value) (hz : sizeB st wd ht = true) :
    Calls Try.prog 105 #[.agg #[.int .i64 st, .int .i64 wd, .int .i64 ht, v, u], .agg #[.int .i64 X, .int .i64 Y]] w fun e w' => e = .returned (.bool (hasB st wd ht X Y)) ∧ Below w.heap.size w w' := by
  obtain ⟨s0, w0, t0, q1, q2⟩ := size_parts hz
  obtain ⟨p0, _⟩ := size_mul s0.1 s0.2 w0.1 w0.2
  obtain ⟨p1, _⟩ := size_mul s0.1 s0.2 t0.1 t0.2
  have HB : Hid (hasB st wd ht X Y = (inB X 0 ((wd - 1) * st) && inB Y 0 ((ht - 1) * st))) := rfl
  obtain ⟨P, hP⟩ : ∃ P, P = (wd - 1) * st := ⟨_, rfl⟩
  obtain ⟨Q, hQ⟩ : ∃ Q, Q = (ht - 1) * st := ⟨_, rfl⟩
  rw [← hP] at p0 q1 HB
  rw [← hQ] at p1 q2 HB
  have i1 : IntKind.i64.wrap (wd - 1) = wd - 1 := by rw [IntKind.wrap_i64]; omega
  have i2 : IntKind.i64.wrap (ht - 1) = ht - 1 := by rw [IntKind.wrap_i64]; omega
  have i3 : IntKind.i64.wrap ((wd - 1) * st) = P := by rw [← hP, IntKind.wrap_i64]; omega
  have i4 : IntKind.i64.wrap ((ht - 1) * st) = Q := by rw [← hQ, IntKind.wrap_i64]; omega
  obtain ⟨R, hR⟩ : ∃ R, R = hasB st wd ht X Y := ⟨_, rfl⟩
  rw [← hR] at HB ⊢
  clear hR hP hQ hz
  rcases bool_tf (inB X 0 P) with e1 | e1
  rotate_left
  · have HE : Hid (R = false) := by show _ = _; rw [HB.out, e1]; rfl
    have HI1 : Hid (∀ W : World, Calls Try.prog 63 #[.int .i64 X, .int .i64 0, .int .i64 P] W fun e w' => e = .returned (.bool false) ∧ W = w') := fun W => by have h := within_any W X 0 P; rw [e1] at h; exact h
    have HI2 : Hid True := trivial
    clear HB e1
    go_enter Try.func105, Try.ntmps105
    go_wp2_with (first | (go_at_call 63; first | ((with_reducible refine (HI1.out _).mono ?_); rintro e w1 ⟨rfl, rfl⟩) | ((with_reducible refine (HI2.out _).mono ?_); rintro e w1 ⟨rfl, rfl⟩)))
    go_ret
    exact ⟨ret_bool HE.out.symm, by repeat (first | (with_reducible exact Below.refl _ _) | (with_reducible assumption) | ((with_reducible refine bl_alloc ?_ _ ?_); (focus ((first | omega | (simp <;> omega)); done))) | ((with_reducible refine bl_set ?_ _ ?_); (focus ((first | omega | (simp <;> omega)); done))) | (with_reducible refine below_drewN ?_ _) | (with_reducible refine Below.drew ?_))⟩
  have HE : Hid (R = inB Y 0 Q) := by show _ = _; rw [HB.out, e1]; rfl
  have HI1 : Hid (∀ W : World, Calls Try.prog 63 #[.int .i64 X, .int .i64 0, .int .i64 P] W fun e w' => e = .returned (.bool true) ∧ W = w') := fun W => by have h := within_any W X 0 P; rw [e1] at h; exact h
  have HI2 : Hid (∀ W : World, Calls Try.prog 63 #[.int .i64 Y, .int .i64 0, .int .i64 Q] W fun e w' => e = .returned (.bool (inB Y 0 Q)) ∧ W = w') := fun W => by have h := within_any W Y 0 Q; exact h
  obtain ⟨b2, hb2⟩ : ∃ b, b = inB Y 0 Q := ⟨_, rfl⟩
  rw [← hb2] at HE HI2
  clear HB e1 hb2
  go_enter Try.func105, Try.ntmps105
  go_wp2_with (first | (go_at_call 63; first | ((with_reducible refine (HI1.out _).mono ?_); rintro e w1 ⟨rfl, rfl⟩) | ((with_reducible refine (HI2.out _).mono ?_); rintro e w1 ⟨rfl, rfl⟩)))
  go_ret
  exact ⟨ret_bool HE.out.symm, by repeat (first | (with_reducible exact Below.refl _ _) | (with_reducible assumption) | ((with_reducible refine bl_alloc ?_ _ ?_); (focus ((first | omega | (simp <;> omega)); done))) | ((with_reducible refine bl_set ?_ _ ?_); (focus ((first | omega | (simp <;> omega)); done))) | (with_reducible refine below_drewN ?_ _) | (with_reducible refine Below.drew ?_))⟩
end Go.Proofs.Ytedpdcdmemenhaa
