/-
  The walk of FnExactSameMask: it returns true, and of what was there nothing has turned. The conditions are what its arguments' readings give.
-/
import Derived.Test.YtbckbjkpmcomcaaRows
import Derived.Test.YtbckbjkpmcomcaaLib
import Derived.Test.YtbckbjkpmcomcaaInts
import Derived.Test.YtbckbjkpmcomcaaMask
import Derived.Test.YtbckbjkpmcomcaaSame
import Derived.Outline
import Derived.Deep.RegionHeld3
import Derived.Deep.DrawnRows
namespace Go.Proofs.Ytbckbjkpmcomcaa.fnExactSameMask
open Go.RowKit Go.ChangeShapes Go.WideShapes Go.ChangeAt
set_option linter.unusedVariables false
set_option linter.unusedSimpArgs false

attribute [local go_sem ↓] Go.wp_at_zero Go.wp_at_succ
def sameB (x1 x2 y1 y2 : List Int) : Bool := decide (x1 = y1) && decide (x2 = y2)
theorem spec_any (w : World) (a1 : Value) (x1 : List Int) (p1 : Nat) (h1 : Row 2 w p1 a1 x1) (i1 : ∀ n ∈ x1, In64 n) (a2 : Value) (x2 : List Int) (p2 : Nat) (h2 : Row 2 w p2 a2 x2) (i2 : ∀ n ∈ x2, In64 n)
    (b1 : Value) (y1 : List Int) (q1 : Nat) (k1 : Row 2 w q1 b1 y1) (i3 : ∀ n ∈ y1, In64 n) (b2 : Value) (y2 : List Int) (q2 : Nat) (k2 : Row 2 w q2 b2 y2) (i4 : ∀ n ∈ y2, In64 n) :
    Calls Try.prog 28 #[.agg #[a1, a2], .agg #[b1, b2]] w fun e w' => e = .returned (.bool (sameB x1 x2 y1 y2)) ∧ Below w.heap.size w w' := by
  have H1 := Lib.hid h1
  have H2 := Lib.hid h2
  have K1 := Lib.hid k1
  have K2 := Lib.hid k2
  clear h1 h2 k1 k2 i1 i2 i3 i4
  by_cases e1 : x1 = y1
  · by_cases e2 : x2 = y2
    · subst e1 e2
      rw [show sameB x1 x2 x1 x2 = true by simp [sameB]]
      go_enter Try.func28, Try.ntmps28
      go_wp2_with fail
      refine (same_yes _ _ x1 p1 q1 _ ((H1.out.alloc_ _).alloc_ _) ((K1.out.alloc_ _).alloc_ _)).mono ?_
      rintro e w1 ⟨rfl, m, rfl⟩
      go_wp2_with fail
      refine (same_yes _ _ x2 p2 q2 _ (((H2.out.alloc_ _).alloc_ _).drewN m) (((K2.out.alloc_ _).alloc_ _).drewN m)).mono ?_
      rintro e w2 ⟨rfl, m', rfl⟩
      go_wp2_with fail
      go_ret
      exact ⟨rfl, by repeat (first | (with_reducible exact Below.refl _ _) | (with_reducible assumption) | ((with_reducible refine bl_alloc ?_ _ ?_); (focus ((first | omega | (simp <;> omega)); done))) | ((with_reducible refine bl_set ?_ _ ?_); (focus ((first | omega | (simp <;> omega)); done))) | (with_reducible refine below_drewN ?_ _) | (with_reducible refine Below.drew ?_))⟩
    · subst e1
      rw [show sameB x1 x2 x1 y2 = false by simp [sameB, e2]]
      have E2 := Lib.hid e2
      clear e2
      go_enter Try.func28, Try.ntmps28
      go_wp2_with fail
      refine (same_yes _ _ x1 p1 q1 _ ((H1.out.alloc_ _).alloc_ _) ((K1.out.alloc_ _).alloc_ _)).mono ?_
      rintro e w1 ⟨rfl, m, rfl⟩
      go_wp2_with fail
      refine (same_no _ _ x2 y2 p2 q2 _ (((H2.out.alloc_ _).alloc_ _).drewN m) (((K2.out.alloc_ _).alloc_ _).drewN m) E2.out).mono ?_
      rintro e w2 ⟨rfl, m', rfl⟩
      go_wp2_with fail
      go_ret
      exact ⟨rfl, by repeat (first | (with_reducible exact Below.refl _ _) | (with_reducible assumption) | ((with_reducible refine bl_alloc ?_ _ ?_); (focus ((first | omega | (simp <;> omega)); done))) | ((with_reducible refine bl_set ?_ _ ?_); (focus ((first | omega | (simp <;> omega)); done))) | (with_reducible refine below_drewN ?_ _) | (with_reducible refine Below.drew ?_))⟩
  · rw [show sameB x1 x2 y1 y2 = false by simp [sameB, e1]]
    have E1 := Lib.hid e1
    clear e1
    go_enter Try.func28, Try.ntmps28
    go_wp2_with fail
    refine (same_no _ _ x1 y1 p1 q1 _ ((H1.out.alloc_ _).alloc_ _) ((K1.out.alloc_ _).alloc_ _) E1.out).mono ?_
    rintro e w1 ⟨rfl, m, rfl⟩
    go_wp2_with fail
    go_ret
    exact ⟨rfl, by repeat (first | (with_reducible exact Below.refl _ _) | (with_reducible assumption) | ((with_reducible refine bl_alloc ?_ _ ?_); (focus ((first | omega | (simp <;> omega)); done))) | ((with_reducible refine bl_set ?_ _ ?_); (focus ((first | omega | (simp <;> omega)); done))) | (with_reducible refine below_drewN ?_ _) | (with_reducible refine Below.drew ?_))⟩
theorem impl_any (w : World) (a1 : Value) (x1 : List Int) (p1 : Nat) (h1 : Row 2 w p1 a1 x1) (i1 : ∀ n ∈ x1, In64 n) (a2 : Value) (x2 : List Int) (p2 : Nat) (h2 : Row 2 w p2 a2 x2) (i2 : ∀ n ∈ x2, In64 n)
    (b1 : Value) (y1 : List Int) (q1 : Nat) (k1 : Row 2 w q1 b1 y1) (i3 : ∀ n ∈ y1, In64 n) (b2 : Value) (y2 : List Int) (q2 : Nat) (k2 : Row 2 w q2 b2 y2) (i4 : ∀ n ∈ y2, In64 n) :
    Calls Try.prog 30 #[.agg #[a1, a2], .agg #[b1, b2]] w fun e w' => e = .returned (.bool (sameB x1 x2 y1 y2)) ∧ Below w.heap.size w w' := by
  have H1 := Lib.hid h1
  have H2 := Lib.hid h2
  have K1 := Lib.hid k1
  have K2 := Lib.hid k2
  clear h1 h2 k1 k2 i1 i2 i3 i4
  by_cases e1 : x1 = y1
  · by_cases e2 : x2 = y2
    · subst e1 e2
      rw [show sameB x1 x2 x1 x2 = true by simp [sameB]]
      go_enter Try.func30, Try.ntmps30
      go_wp2_with fail
      refine (equal_yes _ _ x1 p1 q1 _ ((H1.out.alloc_ _).alloc_ _) ((K1.out.alloc_ _).alloc_ _)).mono ?_
      rintro e w1 ⟨rfl, m, rfl⟩
      go_wp2_with fail
      refine (equal_yes _ _ x2 p2 q2 _ (((H2.out.alloc_ _).alloc_ _).drewN m) (((K2.out.alloc_ _).alloc_ _).drewN m)).mono ?_
      rintro e w2 ⟨rfl, m', rfl⟩
      go_wp2_with fail
      go_ret
      exact ⟨rfl, by repeat (first | (with_reducible exact Below.refl _ _) | (with_reducible assumption) | ((with_reducible refine bl_alloc ?_ _ ?_); (focus ((first | omega | (simp <;> omega)); done))) | ((with_reducible refine bl_set ?_ _ ?_); (focus ((first | omega | (simp <;> omega)); done))) | (with_reducible refine below_drewN ?_ _) | (with_reducible refine Below.drew ?_))⟩
    · subst e1
      rw [show sameB x1 x2 x1 y2 = false by simp [sameB, e2]]
      have E2 := Lib.hid e2
      clear e2
      go_enter Try.func30, Try.ntmps30
      go_wp2_with fail
      refine (equal_yes _ _ x1 p1 q1 _ ((H1.out.alloc_ _).alloc_ _) ((K1.out.alloc_ _).alloc_ _)).mono ?_
      rintro e w1 ⟨rfl, m, rfl⟩
      go_wp2_with fail
      refine (equal_no _ _ x2 y2 p2 q2 _ (((H2.out.alloc_ _).alloc_ _).drewN m) (((K2.out.alloc_ _).alloc_ _).drewN m) E2.out).mono ?_
      rintro e w2 ⟨rfl, m', rfl⟩
      go_wp2_with fail
      go_ret
      exact ⟨rfl, by repeat (first | (with_reducible exact Below.refl _ _) | (with_reducible assumption) | ((with_reducible refine bl_alloc ?_ _ ?_); (focus ((first | omega | (simp <;> omega)); done))) | ((with_reducible refine bl_set ?_ _ ?_); (focus ((first | omega | (simp <;> omega)); done))) | (with_reducible refine below_drewN ?_ _) | (with_reducible refine Below.drew ?_))⟩
  · rw [show sameB x1 x2 y1 y2 = false by simp [sameB, e1]]
    have E1 := Lib.hid e1
    clear e1
    go_enter Try.func30, Try.ntmps30
    go_wp2_with fail
    refine (equal_no _ _ x1 y1 p1 q1 _ ((H1.out.alloc_ _).alloc_ _) ((K1.out.alloc_ _).alloc_ _) E1.out).mono ?_
    rintro e w1 ⟨rfl, m, rfl⟩
    go_wp2_with fail
    go_ret
    exact ⟨rfl, by repeat (first | (with_reducible exact Below.refl _ _) | (with_reducible assumption) | ((with_reducible refine bl_alloc ?_ _ ?_); (focus ((first | omega | (simp <;> omega)); done))) | ((with_reducible refine bl_set ?_ _ ?_); (focus ((first | omega | (simp <;> omega)); done))) | (with_reducible refine below_drewN ?_ _) | (with_reducible refine Below.drew ?_))⟩
set_option maxHeartbeats 4000000 in
theorem walk (w : World) (v0_0 : Value) (x0_0 : List Int) (r0_0 : Rd w w.heap.size v0_0 x0_0) (ix0_0 : ∀ n ∈ x0_0, In64 n) (v0_1 : Value) (x0_1 : List Int) (r0_1 : Rd w w.heap.size v0_1 x0_1) (ix0_1 : ∀ n ∈ x0_1, In64 n) (v1_0 : Value) (x1_0 : List Int) (r1_0 : Rd w w.heap.size v1_0 x1_0) (ix1_0 : ∀ n ∈ x1_0, In64 n) (v1_1 : Value) (x1_1 : List Int) (r1_1 : Rd w w.heap.size v1_1 x1_1) (ix1_1 : ∀ n ∈ x1_1, In64 n) :
    Calls Try.prog 9 #[.agg #[v0_0, v0_1], .agg #[v1_0, v1_1]] w fun e w' => e = .returned (.bool true) ∧ Below w.heap.size w w' := by
  by_cases hs0 : ¬ (x0_0.length : Int) + (x0_1.length : Int) ≤ 1048576
  · go_enter Try.func9, Try.ntmps9
    go_wp2_with fail
    refine (szMask_not  _ x0_0 _ x0_1 _ w.heap.size (by first | omega | (simp <;> omega)) (Rd.below r0_0 (by repeat (first | (with_reducible exact Below.refl _ _) | (with_reducible assumption) | ((with_reducible refine bl_alloc ?_ _ ?_); (focus ((first | omega | (simp <;> omega)); done))) | ((with_reducible refine bl_set ?_ _ ?_); (focus ((first | omega | (simp <;> omega)); done))) | (with_reducible refine below_drewN ?_ _) | (with_reducible refine Below.drew ?_)))) (Rd.below r0_1 (by repeat (first | (with_reducible exact Below.refl _ _) | (with_reducible assumption) | ((with_reducible refine bl_alloc ?_ _ ?_); (focus ((first | omega | (simp <;> omega)); done))) | ((with_reducible refine bl_set ?_ _ ?_); (focus ((first | omega | (simp <;> omega)); done))) | (with_reducible refine below_drewN ?_ _) | (with_reducible refine Below.drew ?_))))  _ (by omega) (by omega) (by omega)).mono ?_
    rintro e w1 ⟨rfl, hb⟩
    have zz1 : w.heap.size + 1 + 1 ≤ w1.heap.size := (by have := hb.size; (try simp at this); omega)
    have H1 := Lib.hid (show Below w.heap.size w w1 by repeat (first | (with_reducible exact Below.refl _ _) | (with_reducible assumption) | ((with_reducible refine bl_alloc ?_ _ ?_); (focus ((first | omega | (simp <;> omega)); done))) | ((with_reducible refine bl_set ?_ _ ?_); (focus ((first | omega | (simp <;> omega)); done))) | (with_reducible refine below_drewN ?_ _) | (with_reducible refine Below.drew ?_) | ((with_reducible refine bl_trans ?_ hb ?_); (focus ((first | omega | (simp <;> omega)); done)))))
    have f0_0_1 := keeps hb (p := ⟨w.heap.size, 0, none⟩) (v := v0_0) (by simp [go_sem])
    have f0_1_1 := keeps hb (p := ⟨w.heap.size, 1, none⟩) (v := v0_1) (by simp [go_sem])
    have g0_1 : w.heap.size < w1.heap.size := block_of_cell f0_0_1
    have f1_0_1 := keeps hb (p := ⟨w.heap.size + 1, 0, none⟩) (v := v1_0) (by simp [go_sem])
    have f1_1_1 := keeps hb (p := ⟨w.heap.size + 1, 1, none⟩) (v := v1_1) (by simp [go_sem])
    have g1_1 : w.heap.size + 1 < w1.heap.size := block_of_cell f1_0_1
    clear hb
    go_wp2_with fail
    go_ret
    exact ⟨rfl, (by repeat (first | (with_reducible exact Below.refl _ _) | (with_reducible assumption) | ((with_reducible refine bl_alloc ?_ _ ?_); (focus ((first | omega | (simp <;> omega)); done))) | ((with_reducible refine bl_set ?_ _ ?_); (focus ((first | omega | (simp <;> omega)); done))) | (with_reducible refine below_drewN ?_ _) | (with_reducible refine Below.drew ?_) | ((with_reducible refine bl_trans ?_ H1.out ?_); (focus ((first | omega | (simp <;> omega)); done)))))⟩
  have hs0' : (x0_0.length : Int) + (x0_1.length : Int) ≤ 1048576 := by omega
  clear hs0
  by_cases hs1 : ¬ (x1_0.length : Int) + (x1_1.length : Int) ≤ 1048576 - (x0_0.length : Int) - (x0_1.length : Int)
  · go_enter Try.func9, Try.ntmps9
    go_wp2_with fail
    refine (szMask_fits  _ x0_0 _ x0_1 _ w.heap.size (by first | omega | (simp <;> omega)) (Rd.below r0_0 (by repeat (first | (with_reducible exact Below.refl _ _) | (with_reducible assumption) | ((with_reducible refine bl_alloc ?_ _ ?_); (focus ((first | omega | (simp <;> omega)); done))) | ((with_reducible refine bl_set ?_ _ ?_); (focus ((first | omega | (simp <;> omega)); done))) | (with_reducible refine below_drewN ?_ _) | (with_reducible refine Below.drew ?_)))) (Rd.below r0_1 (by repeat (first | (with_reducible exact Below.refl _ _) | (with_reducible assumption) | ((with_reducible refine bl_alloc ?_ _ ?_); (focus ((first | omega | (simp <;> omega)); done))) | ((with_reducible refine bl_set ?_ _ ?_); (focus ((first | omega | (simp <;> omega)); done))) | (with_reducible refine below_drewN ?_ _) | (with_reducible refine Below.drew ?_))))  _ (by omega) (by omega)).mono ?_
    rintro e w1 ⟨rfl, hb⟩
    have zz1 : w.heap.size + 1 + 1 ≤ w1.heap.size := (by have := hb.size; (try simp at this); omega)
    have H1 := Lib.hid (show Below w.heap.size w w1 by repeat (first | (with_reducible exact Below.refl _ _) | (with_reducible assumption) | ((with_reducible refine bl_alloc ?_ _ ?_); (focus ((first | omega | (simp <;> omega)); done))) | ((with_reducible refine bl_set ?_ _ ?_); (focus ((first | omega | (simp <;> omega)); done))) | (with_reducible refine below_drewN ?_ _) | (with_reducible refine Below.drew ?_) | ((with_reducible refine bl_trans ?_ hb ?_); (focus ((first | omega | (simp <;> omega)); done)))))
    have f0_0_1 := keeps hb (p := ⟨w.heap.size, 0, none⟩) (v := v0_0) (by simp [go_sem])
    have f0_1_1 := keeps hb (p := ⟨w.heap.size, 1, none⟩) (v := v0_1) (by simp [go_sem])
    have g0_1 : w.heap.size < w1.heap.size := block_of_cell f0_0_1
    have f1_0_1 := keeps hb (p := ⟨w.heap.size + 1, 0, none⟩) (v := v1_0) (by simp [go_sem])
    have f1_1_1 := keeps hb (p := ⟨w.heap.size + 1, 1, none⟩) (v := v1_1) (by simp [go_sem])
    have g1_1 : w.heap.size + 1 < w1.heap.size := block_of_cell f1_0_1
    clear hb
    go_wp2_with fail
    refine (szMask_not  _ x1_0 _ x1_1 _ w.heap.size (by first | omega | (simp <;> omega)) (Rd.below r1_0 (by repeat (first | (with_reducible exact Below.refl _ _) | (with_reducible assumption) | ((with_reducible refine bl_alloc ?_ _ ?_); (focus ((first | omega | (simp <;> omega)); done))) | ((with_reducible refine bl_set ?_ _ ?_); (focus ((first | omega | (simp <;> omega)); done))) | (with_reducible refine below_drewN ?_ _) | (with_reducible refine Below.drew ?_) | ((with_reducible refine bl_trans ?_ H1.out ?_); (focus ((first | omega | (simp <;> omega)); done)))))) (Rd.below r1_1 (by repeat (first | (with_reducible exact Below.refl _ _) | (with_reducible assumption) | ((with_reducible refine bl_alloc ?_ _ ?_); (focus ((first | omega | (simp <;> omega)); done))) | ((with_reducible refine bl_set ?_ _ ?_); (focus ((first | omega | (simp <;> omega)); done))) | (with_reducible refine below_drewN ?_ _) | (with_reducible refine Below.drew ?_) | ((with_reducible refine bl_trans ?_ H1.out ?_); (focus ((first | omega | (simp <;> omega)); done))))))  _ (by omega) (by omega) (by omega)).mono ?_
    rintro e w2 ⟨rfl, hb⟩
    have zz2 : w1.heap.size ≤ w2.heap.size := (by have := hb.size; (try simp at this); omega)
    have H2 := Lib.hid (show Below w.heap.size w w2 by repeat (first | (with_reducible exact Below.refl _ _) | (with_reducible assumption) | ((with_reducible refine bl_alloc ?_ _ ?_); (focus ((first | omega | (simp <;> omega)); done))) | ((with_reducible refine bl_set ?_ _ ?_); (focus ((first | omega | (simp <;> omega)); done))) | (with_reducible refine below_drewN ?_ _) | (with_reducible refine Below.drew ?_) | ((with_reducible refine bl_trans ?_ hb ?_); (focus ((first | omega | (simp <;> omega)); done))) | ((with_reducible refine bl_trans ?_ H1.out ?_); (focus ((first | omega | (simp <;> omega)); done)))))
    have f0_0_2 := keeps hb f0_0_1
    have f0_1_2 := keeps hb f0_1_1
    have g0_2 : w.heap.size < w2.heap.size := block_of_cell f0_0_2
    have f1_0_2 := keeps hb f1_0_1
    have f1_1_2 := keeps hb f1_1_1
    have g1_2 : w.heap.size + 1 < w2.heap.size := block_of_cell f1_0_2
    clear hb f0_0_1 f0_1_1 g0_1 f1_0_1 f1_1_1 g1_1 H1
    go_wp2_with fail
    go_ret
    exact ⟨rfl, (by repeat (first | (with_reducible exact Below.refl _ _) | (with_reducible assumption) | ((with_reducible refine bl_alloc ?_ _ ?_); (focus ((first | omega | (simp <;> omega)); done))) | ((with_reducible refine bl_set ?_ _ ?_); (focus ((first | omega | (simp <;> omega)); done))) | (with_reducible refine below_drewN ?_ _) | (with_reducible refine Below.drew ?_) | ((with_reducible refine bl_trans ?_ H2.out ?_); (focus ((first | omega | (simp <;> omega)); done)))))⟩
  have hs1' : (x1_0.length : Int) + (x1_1.length : Int) ≤ 1048576 - (x0_0.length : Int) - (x0_1.length : Int) := by omega
  clear hs1
  go_enter Try.func9, Try.ntmps9
  go_wp2_with fail
  refine (szMask_fits  _ x0_0 _ x0_1 _ w.heap.size (by first | omega | (simp <;> omega)) (Rd.below r0_0 (by repeat (first | (with_reducible exact Below.refl _ _) | (with_reducible assumption) | ((with_reducible refine bl_alloc ?_ _ ?_); (focus ((first | omega | (simp <;> omega)); done))) | ((with_reducible refine bl_set ?_ _ ?_); (focus ((first | omega | (simp <;> omega)); done))) | (with_reducible refine below_drewN ?_ _) | (with_reducible refine Below.drew ?_)))) (Rd.below r0_1 (by repeat (first | (with_reducible exact Below.refl _ _) | (with_reducible assumption) | ((with_reducible refine bl_alloc ?_ _ ?_); (focus ((first | omega | (simp <;> omega)); done))) | ((with_reducible refine bl_set ?_ _ ?_); (focus ((first | omega | (simp <;> omega)); done))) | (with_reducible refine below_drewN ?_ _) | (with_reducible refine Below.drew ?_))))  _ (by omega) (by omega)).mono ?_
  rintro e w1 ⟨rfl, hb⟩
  have zz1 : w.heap.size + 1 + 1 ≤ w1.heap.size := (by have := hb.size; (try simp at this); omega)
  have H1 := Lib.hid (show Below w.heap.size w w1 by repeat (first | (with_reducible exact Below.refl _ _) | (with_reducible assumption) | ((with_reducible refine bl_alloc ?_ _ ?_); (focus ((first | omega | (simp <;> omega)); done))) | ((with_reducible refine bl_set ?_ _ ?_); (focus ((first | omega | (simp <;> omega)); done))) | (with_reducible refine below_drewN ?_ _) | (with_reducible refine Below.drew ?_) | ((with_reducible refine bl_trans ?_ hb ?_); (focus ((first | omega | (simp <;> omega)); done)))))
  have f0_0_1 := keeps hb (p := ⟨w.heap.size, 0, none⟩) (v := v0_0) (by simp [go_sem])
  have f0_1_1 := keeps hb (p := ⟨w.heap.size, 1, none⟩) (v := v0_1) (by simp [go_sem])
  have g0_1 : w.heap.size < w1.heap.size := block_of_cell f0_0_1
  have f1_0_1 := keeps hb (p := ⟨w.heap.size + 1, 0, none⟩) (v := v1_0) (by simp [go_sem])
  have f1_1_1 := keeps hb (p := ⟨w.heap.size + 1, 1, none⟩) (v := v1_1) (by simp [go_sem])
  have g1_1 : w.heap.size + 1 < w1.heap.size := block_of_cell f1_0_1
  clear hb
  go_wp2_with fail
  refine (szMask_fits  _ x1_0 _ x1_1 _ w.heap.size (by first | omega | (simp <;> omega)) (Rd.below r1_0 (by repeat (first | (with_reducible exact Below.refl _ _) | (with_reducible assumption) | ((with_reducible refine bl_alloc ?_ _ ?_); (focus ((first | omega | (simp <;> omega)); done))) | ((with_reducible refine bl_set ?_ _ ?_); (focus ((first | omega | (simp <;> omega)); done))) | (with_reducible refine below_drewN ?_ _) | (with_reducible refine Below.drew ?_) | ((with_reducible refine bl_trans ?_ H1.out ?_); (focus ((first | omega | (simp <;> omega)); done)))))) (Rd.below r1_1 (by repeat (first | (with_reducible exact Below.refl _ _) | (with_reducible assumption) | ((with_reducible refine bl_alloc ?_ _ ?_); (focus ((first | omega | (simp <;> omega)); done))) | ((with_reducible refine bl_set ?_ _ ?_); (focus ((first | omega | (simp <;> omega)); done))) | (with_reducible refine below_drewN ?_ _) | (with_reducible refine Below.drew ?_) | ((with_reducible refine bl_trans ?_ H1.out ?_); (focus ((first | omega | (simp <;> omega)); done))))))  _ (by omega) (by omega)).mono ?_
  rintro e w2 ⟨rfl, hb⟩
  have zz2 : w1.heap.size ≤ w2.heap.size := (by have := hb.size; (try simp at this); omega)
  have H2 := Lib.hid (show Below w.heap.size w w2 by repeat (first | (with_reducible exact Below.refl _ _) | (with_reducible assumption) | ((with_reducible refine bl_alloc ?_ _ ?_); (focus ((first | omega | (simp <;> omega)); done))) | ((with_reducible refine bl_set ?_ _ ?_); (focus ((first | omega | (simp <;> omega)); done))) | (with_reducible refine below_drewN ?_ _) | (with_reducible refine Below.drew ?_) | ((with_reducible refine bl_trans ?_ hb ?_); (focus ((first | omega | (simp <;> omega)); done))) | ((with_reducible refine bl_trans ?_ H1.out ?_); (focus ((first | omega | (simp <;> omega)); done)))))
  have f0_0_2 := keeps hb f0_0_1
  have f0_1_2 := keeps hb f0_1_1
  have g0_2 : w.heap.size < w2.heap.size := block_of_cell f0_0_2
  have f1_0_2 := keeps hb f1_0_1
  have f1_1_2 := keeps hb f1_1_1
  have g1_2 : w.heap.size + 1 < w2.heap.size := block_of_cell f1_0_2
  clear hb f0_0_1 f0_1_1 g0_1 f1_0_1 f1_1_1 g1_1 H1
  go_wp2_with fail
  go_region_held3 (fun w' => w'.cell? ⟨w.heap.size, 0, none⟩ = some (v0_0) ∧ w'.cell? ⟨w.heap.size, 1, none⟩ = some (v0_1) ∧ w'.cell? ⟨w.heap.size + 1, 0, none⟩ = some (v1_0) ∧ w'.cell? ⟨w.heap.size + 1, 1, none⟩ = some (v1_1))
    (first | (refine ⟨?_, ?_, ?_, ?_⟩ <;> assumption) | (go_split_ands; (refine ⟨?_, ?_, ?_, ?_⟩ <;> first | assumption | (refine keeps hb ?_; assumption))))
    (first
      | (go_at_call 29; ((with_reducible refine (toMask_any  v0_0 x0_0 v0_1 x0_1 _ w.heap.size (by first | omega | (simp <;> omega)) (Rd.below r0_0 (by repeat (first | (with_reducible exact Below.refl _ _) | (with_reducible assumption) | ((with_reducible refine bl_alloc ?_ _ ?_); (focus ((first | omega | (simp <;> omega)); done))) | ((with_reducible refine bl_set ?_ _ ?_); (focus ((first | omega | (simp <;> omega)); done))) | (with_reducible refine below_drewN ?_ _) | (with_reducible refine Below.drew ?_) | ((with_reducible refine bl_trans ?_ H2.out ?_); (focus ((first | omega | (simp <;> omega)); done)))))) (by omega) (Rd.below r0_1 (by repeat (first | (with_reducible exact Below.refl _ _) | (with_reducible assumption) | ((with_reducible refine bl_alloc ?_ _ ?_); (focus ((first | omega | (simp <;> omega)); done))) | ((with_reducible refine bl_set ?_ _ ?_); (focus ((first | omega | (simp <;> omega)); done))) | (with_reducible refine below_drewN ?_ _) | (with_reducible refine Below.drew ?_) | ((with_reducible refine bl_trans ?_ H2.out ?_); (focus ((first | omega | (simp <;> omega)); done)))))) (by omega)).mono ?_); rintro e w3 ⟨A0, n0, c0, A1, n1, c1, rfl, hr0, hr1, ha0_1, hb⟩; have zz3 : w2.heap.size ≤ w3.heap.size := (by have := hb.size; (try simp at this); omega); have H3 := Lib.hid (show Below w.heap.size w w3 by repeat (first | (with_reducible exact Below.refl _ _) | (with_reducible assumption) | ((with_reducible refine bl_alloc ?_ _ ?_); (focus ((first | omega | (simp <;> omega)); done))) | ((with_reducible refine bl_set ?_ _ ?_); (focus ((first | omega | (simp <;> omega)); done))) | (with_reducible refine below_drewN ?_ _) | (with_reducible refine Below.drew ?_) | ((with_reducible refine bl_trans ?_ hb ?_); (focus ((first | omega | (simp <;> omega)); done))) | ((with_reducible refine bl_trans ?_ H2.out ?_); (focus ((first | omega | (simp <;> omega)); done))))); have f0_0_3 := keeps1 hb f0_0_2; have f0_1_3 := keeps1 hb f0_1_2; have g0_3 : w.heap.size < w3.heap.size := block_of_cell f0_0_3; have f1_0_3 := keeps1 hb f1_0_2; have f1_1_3 := keeps1 hb f1_1_2; have g1_3 : w.heap.size + 1 < w3.heap.size := block_of_cell f1_0_3; have R0_3 := Lib.hid hr0; have RL0 := Lib.hid (show ∀ g, Value.ownBlock (.slice A0 n0 c0) = some g → w2.heap.size ≤ g ∧ g < w3.heap.size from fun g h => by have l1 := hr0.lt g h; (try simp at l1); omega); have RA0_1 := Lib.hid ha0_1; have R1_3 := Lib.hid hr1; have RL1 := Lib.hid (show ∀ g, Value.ownBlock (.slice A1 n1 c1) = some g → w2.heap.size ≤ g ∧ g < w3.heap.size from fun g h => by have l1 := hr1.lt g h; (try simp at l1); omega); clear f0_0_2 f0_1_2 g0_2 f1_0_2 f1_1_2 g1_2 hr0 ha0_1 hr1 H2))
      | (go_at_call 29; ((with_reducible refine (toMask_any  v1_0 x1_0 v1_1 x1_1 _ w.heap.size (by first | omega | (simp <;> omega)) (Rd.below r1_0 (by repeat (first | (with_reducible exact Below.refl _ _) | (with_reducible assumption) | ((with_reducible refine bl_alloc ?_ _ ?_); (focus ((first | omega | (simp <;> omega)); done))) | ((with_reducible refine bl_set ?_ _ ?_); (focus ((first | omega | (simp <;> omega)); done))) | (with_reducible refine below_drewN ?_ _) | (with_reducible refine Below.drew ?_) | ((with_reducible refine bl_trans ?_ H3.out ?_); (focus ((first | omega | (simp <;> omega)); done)))))) (by omega) (Rd.below r1_1 (by repeat (first | (with_reducible exact Below.refl _ _) | (with_reducible assumption) | ((with_reducible refine bl_alloc ?_ _ ?_); (focus ((first | omega | (simp <;> omega)); done))) | ((with_reducible refine bl_set ?_ _ ?_); (focus ((first | omega | (simp <;> omega)); done))) | (with_reducible refine below_drewN ?_ _) | (with_reducible refine Below.drew ?_) | ((with_reducible refine bl_trans ?_ H3.out ?_); (focus ((first | omega | (simp <;> omega)); done)))))) (by omega)).mono ?_); rintro e w4 ⟨A2, n2, c2, A3, n3, c3, rfl, hr2, hr3, ha2_3, hb⟩; have zz4 : w3.heap.size ≤ w4.heap.size := (by have := hb.size; (try simp at this); omega); have H4 := Lib.hid (show Below w.heap.size w w4 by repeat (first | (with_reducible exact Below.refl _ _) | (with_reducible assumption) | ((with_reducible refine bl_alloc ?_ _ ?_); (focus ((first | omega | (simp <;> omega)); done))) | ((with_reducible refine bl_set ?_ _ ?_); (focus ((first | omega | (simp <;> omega)); done))) | (with_reducible refine below_drewN ?_ _) | (with_reducible refine Below.drew ?_) | ((with_reducible refine bl_trans ?_ hb ?_); (focus ((first | omega | (simp <;> omega)); done))) | ((with_reducible refine bl_trans ?_ H3.out ?_); (focus ((first | omega | (simp <;> omega)); done))))); have f0_0_4 := keeps hb f0_0_3; have f0_1_4 := keeps hb f0_1_3; have g0_4 : w.heap.size < w4.heap.size := block_of_cell f0_0_4; have f1_0_4 := keeps hb f1_0_3; have f1_1_4 := keeps hb f1_1_3; have g1_4 : w.heap.size + 1 < w4.heap.size := block_of_cell f1_0_4; have R0_4 := Lib.hid (Row.later R0_3.out hb); have R1_4 := Lib.hid (Row.later R1_3.out hb); have R2_4 := Lib.hid hr2; have RL2 := Lib.hid (show ∀ g, Value.ownBlock (.slice A2 n2 c2) = some g → w3.heap.size ≤ g ∧ g < w4.heap.size from fun g h => by have l1 := hr2.lt g h; (try simp at l1); omega); have RA2_3 := Lib.hid ha2_3; have R3_4 := Lib.hid hr3; have RL3 := Lib.hid (show ∀ g, Value.ownBlock (.slice A3 n3 c3) = some g → w3.heap.size ≤ g ∧ g < w4.heap.size from fun g h => by have l1 := hr3.lt g h; (try simp at l1); omega); clear f0_0_3 f0_1_3 g0_3 f1_0_3 f1_1_3 g1_3 R0_3 R1_3 hr2 ha2_3 hr3 H3))
      | (go_at_call 28; ((with_reducible refine (spec_any _ _ x0_0 _ R0_4.out ix0_0 _ x0_1 _ R1_4.out ix0_1 _ x1_0 _ R2_4.out ix1_0 _ x1_1 _ R3_4.out ix1_1).mono ?_); rintro e w5 ⟨rfl, hb⟩; have zz5 : w4.heap.size ≤ w5.heap.size := (by have := hb.size; (try simp at this); omega); have H5 := Lib.hid (show Below w.heap.size w w5 by repeat (first | (with_reducible exact Below.refl _ _) | (with_reducible assumption) | ((with_reducible refine bl_alloc ?_ _ ?_); (focus ((first | omega | (simp <;> omega)); done))) | ((with_reducible refine bl_set ?_ _ ?_); (focus ((first | omega | (simp <;> omega)); done))) | (with_reducible refine below_drewN ?_ _) | (with_reducible refine Below.drew ?_) | ((with_reducible refine bl_trans ?_ hb ?_); (focus ((first | omega | (simp <;> omega)); done))) | ((with_reducible refine bl_trans ?_ H4.out ?_); (focus ((first | omega | (simp <;> omega)); done))))); have f0_0_5 := keeps hb f0_0_4; have f0_1_5 := keeps hb f0_1_4; have g0_5 : w.heap.size < w5.heap.size := block_of_cell f0_0_5; have f1_0_5 := keeps hb f1_0_4; have f1_1_5 := keeps hb f1_1_4; have g1_5 : w.heap.size + 1 < w5.heap.size := block_of_cell f1_0_5; clear f0_0_4 f0_1_4 g0_4 f1_0_4 f1_1_4 g1_4 R0_4 R1_4 R2_4 R3_4 H4)))
  go_wp2_with fail
  refine (toMask_any  v0_0 x0_0 v0_1 x0_1 _ w.heap.size (by first | omega | (simp <;> omega)) (Rd.below r0_0 (by repeat (first | (with_reducible exact Below.refl _ _) | (with_reducible assumption) | ((with_reducible refine bl_alloc ?_ _ ?_); (focus ((first | omega | (simp <;> omega)); done))) | ((with_reducible refine bl_set ?_ _ ?_); (focus ((first | omega | (simp <;> omega)); done))) | (with_reducible refine below_drewN ?_ _) | (with_reducible refine Below.drew ?_) | ((with_reducible refine bl_trans ?_ H5.out ?_); (focus ((first | omega | (simp <;> omega)); done)))))) (by omega) (Rd.below r0_1 (by repeat (first | (with_reducible exact Below.refl _ _) | (with_reducible assumption) | ((with_reducible refine bl_alloc ?_ _ ?_); (focus ((first | omega | (simp <;> omega)); done))) | ((with_reducible refine bl_set ?_ _ ?_); (focus ((first | omega | (simp <;> omega)); done))) | (with_reducible refine below_drewN ?_ _) | (with_reducible refine Below.drew ?_) | ((with_reducible refine bl_trans ?_ H5.out ?_); (focus ((first | omega | (simp <;> omega)); done)))))) (by omega)).mono ?_
  rintro e w6 ⟨A4, n4, c4, A5, n5, c5, rfl, hr4, hr5, ha4_5, hb⟩
  have zz6 : w5.heap.size ≤ w6.heap.size := (by have := hb.size; (try simp at this); omega)
  have H6 := Lib.hid (show Below w.heap.size w w6 by repeat (first | (with_reducible exact Below.refl _ _) | (with_reducible assumption) | ((with_reducible refine bl_alloc ?_ _ ?_); (focus ((first | omega | (simp <;> omega)); done))) | ((with_reducible refine bl_set ?_ _ ?_); (focus ((first | omega | (simp <;> omega)); done))) | (with_reducible refine below_drewN ?_ _) | (with_reducible refine Below.drew ?_) | ((with_reducible refine bl_trans ?_ hb ?_); (focus ((first | omega | (simp <;> omega)); done))) | ((with_reducible refine bl_trans ?_ H5.out ?_); (focus ((first | omega | (simp <;> omega)); done)))))
  have f0_0_6 := keeps hb f0_0_5
  have f0_1_6 := keeps hb f0_1_5
  have g0_6 : w.heap.size < w6.heap.size := block_of_cell f0_0_6
  have f1_0_6 := keeps hb f1_0_5
  have f1_1_6 := keeps hb f1_1_5
  have g1_6 : w.heap.size + 1 < w6.heap.size := block_of_cell f1_0_6
  have R4_6 := Lib.hid hr4
  have RL4 := Lib.hid (show ∀ g, Value.ownBlock (.slice A4 n4 c4) = some g → w5.heap.size ≤ g ∧ g < w6.heap.size from fun g h => by have l1 := hr4.lt g h; (try simp at l1); omega)
  have RA4_5 := Lib.hid ha4_5
  have R5_6 := Lib.hid hr5
  have RL5 := Lib.hid (show ∀ g, Value.ownBlock (.slice A5 n5 c5) = some g → w5.heap.size ≤ g ∧ g < w6.heap.size from fun g h => by have l1 := hr5.lt g h; (try simp at l1); omega)
  clear hb f0_0_5 f0_1_5 g0_5 f1_0_5 f1_1_5 g1_5 hr4 ha4_5 hr5 H5
  go_wp2_with fail
  refine (toMask_any  v1_0 x1_0 v1_1 x1_1 _ w.heap.size (by first | omega | (simp <;> omega)) (Rd.below r1_0 (by repeat (first | (with_reducible exact Below.refl _ _) | (with_reducible assumption) | ((with_reducible refine bl_alloc ?_ _ ?_); (focus ((first | omega | (simp <;> omega)); done))) | ((with_reducible refine bl_set ?_ _ ?_); (focus ((first | omega | (simp <;> omega)); done))) | (with_reducible refine below_drewN ?_ _) | (with_reducible refine Below.drew ?_) | ((with_reducible refine bl_trans ?_ H6.out ?_); (focus ((first | omega | (simp <;> omega)); done)))))) (by omega) (Rd.below r1_1 (by repeat (first | (with_reducible exact Below.refl _ _) | (with_reducible assumption) | ((with_reducible refine bl_alloc ?_ _ ?_); (focus ((first | omega | (simp <;> omega)); done))) | ((with_reducible refine bl_set ?_ _ ?_); (focus ((first | omega | (simp <;> omega)); done))) | (with_reducible refine below_drewN ?_ _) | (with_reducible refine Below.drew ?_) | ((with_reducible refine bl_trans ?_ H6.out ?_); (focus ((first | omega | (simp <;> omega)); done)))))) (by omega)).mono ?_
  rintro e w7 ⟨A6, n6, c6, A7, n7, c7, rfl, hr6, hr7, ha6_7, hb⟩
  have zz7 : w6.heap.size + 1 ≤ w7.heap.size := (by have := hb.size; (try simp at this); omega)
  have H7 := Lib.hid (show Below w.heap.size w w7 by repeat (first | (with_reducible exact Below.refl _ _) | (with_reducible assumption) | ((with_reducible refine bl_alloc ?_ _ ?_); (focus ((first | omega | (simp <;> omega)); done))) | ((with_reducible refine bl_set ?_ _ ?_); (focus ((first | omega | (simp <;> omega)); done))) | (with_reducible refine below_drewN ?_ _) | (with_reducible refine Below.drew ?_) | ((with_reducible refine bl_trans ?_ hb ?_); (focus ((first | omega | (simp <;> omega)); done))) | ((with_reducible refine bl_trans ?_ H6.out ?_); (focus ((first | omega | (simp <;> omega)); done)))))
  have f0_0_7 := keeps hb (cell_alloc f0_0_6 _)
  have f0_1_7 := keeps hb (cell_alloc f0_1_6 _)
  have g0_7 : w.heap.size < w7.heap.size := block_of_cell f0_0_7
  have f1_0_7 := keeps hb (cell_alloc f1_0_6 _)
  have f1_1_7 := keeps hb (cell_alloc f1_1_6 _)
  have g1_7 : w.heap.size + 1 < w7.heap.size := block_of_cell f1_0_7
  have f2_0_7 := keeps hb (p := ⟨w6.heap.size, 0, none⟩) (v := (.slice A4 n4 c4)) (by simp [go_sem])
  have f2_1_7 := keeps hb (p := ⟨w6.heap.size, 1, none⟩) (v := (.slice A5 n5 c5)) (by simp [go_sem])
  have g2_7 : w6.heap.size < w7.heap.size := block_of_cell f2_0_7
  have R4_7 := Lib.hid (Row.later (R4_6.out.alloc_ _) hb)
  have R5_7 := Lib.hid (Row.later (R5_6.out.alloc_ _) hb)
  have R6_7 := Lib.hid hr6
  have RL6 := Lib.hid (show ∀ g, Value.ownBlock (.slice A6 n6 c6) = some g → w6.heap.size ≤ g ∧ g < w7.heap.size from fun g h => by have l1 := hr6.lt g h; (try simp at l1); omega)
  have RA6_7 := Lib.hid ha6_7
  have R7_7 := Lib.hid hr7
  have RL7 := Lib.hid (show ∀ g, Value.ownBlock (.slice A7 n7 c7) = some g → w6.heap.size ≤ g ∧ g < w7.heap.size from fun g h => by have l1 := hr7.lt g h; (try simp at l1); omega)
  clear hb f0_0_6 f0_1_6 g0_6 f1_0_6 f1_1_6 g1_6 R4_6 R5_6 hr6 ha6_7 hr7 H6
  go_wp2_with fail
  refine (impl_any _ _ x0_0 _ (R4_7.out.alloc_ _) ix0_0 _ x0_1 _ (R5_7.out.alloc_ _) ix0_1 _ x1_0 _ (R6_7.out.alloc_ _) ix1_0 _ x1_1 _ (R7_7.out.alloc_ _) ix1_1).mono ?_
  rintro e w8 ⟨rfl, hb⟩
  have zz8 : w7.heap.size + 1 ≤ w8.heap.size := (by have := hb.size; (try simp at this); omega)
  have H8 := Lib.hid (show Below w.heap.size w w8 by repeat (first | (with_reducible exact Below.refl _ _) | (with_reducible assumption) | ((with_reducible refine bl_alloc ?_ _ ?_); (focus ((first | omega | (simp <;> omega)); done))) | ((with_reducible refine bl_set ?_ _ ?_); (focus ((first | omega | (simp <;> omega)); done))) | (with_reducible refine below_drewN ?_ _) | (with_reducible refine Below.drew ?_) | ((with_reducible refine bl_trans ?_ hb ?_); (focus ((first | omega | (simp <;> omega)); done))) | ((with_reducible refine bl_trans ?_ H7.out ?_); (focus ((first | omega | (simp <;> omega)); done)))))
  have f0_0_8 := keeps hb (cell_alloc f0_0_7 _)
  have f0_1_8 := keeps hb (cell_alloc f0_1_7 _)
  have g0_8 : w.heap.size < w8.heap.size := block_of_cell f0_0_8
  have f1_0_8 := keeps hb (cell_alloc f1_0_7 _)
  have f1_1_8 := keeps hb (cell_alloc f1_1_7 _)
  have g1_8 : w.heap.size + 1 < w8.heap.size := block_of_cell f1_0_8
  have f2_0_8 := keeps hb (cell_alloc f2_0_7 _)
  have f2_1_8 := keeps hb (cell_alloc f2_1_7 _)
  have g2_8 : w6.heap.size < w8.heap.size := block_of_cell f2_0_8
  have f3_0_8 := keeps hb (p := ⟨w7.heap.size, 0, none⟩) (v := (.slice A6 n6 c6)) (by simp [go_sem])
  have f3_1_8 := keeps hb (p := ⟨w7.heap.size, 1, none⟩) (v := (.slice A7 n7 c7)) (by simp [go_sem])
  have g3_8 : w7.heap.size < w8.heap.size := block_of_cell f3_0_8
  have R4_8 := Lib.hid (Row.later (R4_7.out.alloc_ _) hb)
  have R5_8 := Lib.hid (Row.later (R5_7.out.alloc_ _) hb)
  have R6_8 := Lib.hid (Row.later (R6_7.out.alloc_ _) hb)
  have R7_8 := Lib.hid (Row.later (R7_7.out.alloc_ _) hb)
  clear hb f0_0_7 f0_1_7 g0_7 f1_0_7 f1_1_7 g1_7 f2_0_7 f2_1_7 g2_7 R4_7 R5_7 R6_7 R7_7 H7
  go_wp2_with fail
  go_region_held3 (fun w' => w'.cell? ⟨w6.heap.size, 0, none⟩ = some ((.slice A4 n4 c4)) ∧ w'.cell? ⟨w6.heap.size, 1, none⟩ = some ((.slice A5 n5 c5)) ∧ w'.cell? ⟨w.heap.size, 0, none⟩ = some (v0_0) ∧ w'.cell? ⟨w.heap.size, 1, none⟩ = some (v0_1))
    (first | (refine ⟨?_, ?_, ?_, ?_⟩ <;> assumption) | (go_split_ands; (refine ⟨?_, ?_, ?_, ?_⟩ <;> first | assumption | (refine keeps hb ?_; assumption))))
    (first
      | (go_at_call 29; ((with_reducible refine (toMask_any  v0_0 x0_0 v0_1 x0_1 _ w.heap.size (by first | omega | (simp <;> omega)) (Rd.below r0_0 (by repeat (first | (with_reducible exact Below.refl _ _) | (with_reducible assumption) | ((with_reducible refine bl_alloc ?_ _ ?_); (focus ((first | omega | (simp <;> omega)); done))) | ((with_reducible refine bl_set ?_ _ ?_); (focus ((first | omega | (simp <;> omega)); done))) | (with_reducible refine below_drewN ?_ _) | (with_reducible refine Below.drew ?_) | ((with_reducible refine bl_trans ?_ H8.out ?_); (focus ((first | omega | (simp <;> omega)); done)))))) (by omega) (Rd.below r0_1 (by repeat (first | (with_reducible exact Below.refl _ _) | (with_reducible assumption) | ((with_reducible refine bl_alloc ?_ _ ?_); (focus ((first | omega | (simp <;> omega)); done))) | ((with_reducible refine bl_set ?_ _ ?_); (focus ((first | omega | (simp <;> omega)); done))) | (with_reducible refine below_drewN ?_ _) | (with_reducible refine Below.drew ?_) | ((with_reducible refine bl_trans ?_ H8.out ?_); (focus ((first | omega | (simp <;> omega)); done)))))) (by omega)).mono ?_); rintro e w9 ⟨A8, n8, c8, A9, n9, c9, rfl, hr8, hr9, ha8_9, hb⟩; have zz9 : w8.heap.size ≤ w9.heap.size := (by have := hb.size; (try simp at this); omega); have H9 := Lib.hid (show Below w.heap.size w w9 by repeat (first | (with_reducible exact Below.refl _ _) | (with_reducible assumption) | ((with_reducible refine bl_alloc ?_ _ ?_); (focus ((first | omega | (simp <;> omega)); done))) | ((with_reducible refine bl_set ?_ _ ?_); (focus ((first | omega | (simp <;> omega)); done))) | (with_reducible refine below_drewN ?_ _) | (with_reducible refine Below.drew ?_) | ((with_reducible refine bl_trans ?_ hb ?_); (focus ((first | omega | (simp <;> omega)); done))) | ((with_reducible refine bl_trans ?_ H8.out ?_); (focus ((first | omega | (simp <;> omega)); done))))); have f1_0_9 := keeps1 hb f1_0_8; have f1_1_9 := keeps1 hb f1_1_8; have g1_9 : w.heap.size + 1 < w9.heap.size := block_of_cell f1_0_9; have f3_0_9 := keeps1 hb f3_0_8; have f3_1_9 := keeps1 hb f3_1_8; have g3_9 : w7.heap.size < w9.heap.size := block_of_cell f3_0_9; have R4_9 := Lib.hid (Row.later1 R4_8.out hb); have R5_9 := Lib.hid (Row.later1 R5_8.out hb); have R6_9 := Lib.hid (Row.later1 R6_8.out hb); have R7_9 := Lib.hid (Row.later1 R7_8.out hb); have R8_9 := Lib.hid hr8; have RL8 := Lib.hid (show ∀ g, Value.ownBlock (.slice A8 n8 c8) = some g → w8.heap.size ≤ g ∧ g < w9.heap.size from fun g h => by have l1 := hr8.lt g h; (try simp at l1); omega); have RA8_9 := Lib.hid ha8_9; have R9_9 := Lib.hid hr9; have RL9 := Lib.hid (show ∀ g, Value.ownBlock (.slice A9 n9 c9) = some g → w8.heap.size ≤ g ∧ g < w9.heap.size from fun g h => by have l1 := hr9.lt g h; (try simp at l1); omega); clear f0_0_8 f0_1_8 g0_8 f1_0_8 f1_1_8 g1_8 f2_0_8 f2_1_8 g2_8 f3_0_8 f3_1_8 g3_8 R4_8 R5_8 R6_8 R7_8 hr8 ha8_9 hr9 H8))
      | (go_at_call 24; ((with_reducible refine (eqMask_any  _ _ _ (x0_0) _ _ R4_9.out R8_9.out _ _ (x0_1) _ _ R5_9.out R9_9.out).mono ?_); rintro e w10 ⟨rfl, hb⟩; have zz10 : w9.heap.size ≤ w10.heap.size := (by have := hb.size; (try simp at this); omega); have H10 := Lib.hid (show Below w.heap.size w w10 by repeat (first | (with_reducible exact Below.refl _ _) | (with_reducible assumption) | ((with_reducible refine bl_alloc ?_ _ ?_); (focus ((first | omega | (simp <;> omega)); done))) | ((with_reducible refine bl_set ?_ _ ?_); (focus ((first | omega | (simp <;> omega)); done))) | (with_reducible refine below_drewN ?_ _) | (with_reducible refine Below.drew ?_) | ((with_reducible refine bl_trans ?_ hb ?_); (focus ((first | omega | (simp <;> omega)); done))) | ((with_reducible refine bl_trans ?_ H9.out ?_); (focus ((first | omega | (simp <;> omega)); done))))); have f1_0_10 := keeps hb f1_0_9; have f1_1_10 := keeps hb f1_1_9; have g1_10 : w.heap.size + 1 < w10.heap.size := block_of_cell f1_0_10; have f3_0_10 := keeps hb f3_0_9; have f3_1_10 := keeps hb f3_1_9; have g3_10 : w7.heap.size < w10.heap.size := block_of_cell f3_0_10; have R6_10 := Lib.hid (Row.later R6_9.out hb); have R7_10 := Lib.hid (Row.later R7_9.out hb); clear f1_0_9 f1_1_9 g1_9 f3_0_9 f3_1_9 g3_9 R4_9 R5_9 R6_9 R7_9 R8_9 R9_9 H9)))
  go_wp2_with fail
  go_region_held3 (fun w' => w'.cell? ⟨w7.heap.size, 0, none⟩ = some ((.slice A6 n6 c6)) ∧ w'.cell? ⟨w7.heap.size, 1, none⟩ = some ((.slice A7 n7 c7)) ∧ w'.cell? ⟨w.heap.size + 1, 0, none⟩ = some (v1_0) ∧ w'.cell? ⟨w.heap.size + 1, 1, none⟩ = some (v1_1))
    (first | (refine ⟨?_, ?_, ?_, ?_⟩ <;> assumption) | (go_split_ands; (refine ⟨?_, ?_, ?_, ?_⟩ <;> first | assumption | (refine keeps hb ?_; assumption))))
    (first
      | (go_at_call 29; ((with_reducible refine (toMask_any  v1_0 x1_0 v1_1 x1_1 _ w.heap.size (by first | omega | (simp <;> omega)) (Rd.below r1_0 (by repeat (first | (with_reducible exact Below.refl _ _) | (with_reducible assumption) | ((with_reducible refine bl_alloc ?_ _ ?_); (focus ((first | omega | (simp <;> omega)); done))) | ((with_reducible refine bl_set ?_ _ ?_); (focus ((first | omega | (simp <;> omega)); done))) | (with_reducible refine below_drewN ?_ _) | (with_reducible refine Below.drew ?_) | ((with_reducible refine bl_trans ?_ H10.out ?_); (focus ((first | omega | (simp <;> omega)); done)))))) (by omega) (Rd.below r1_1 (by repeat (first | (with_reducible exact Below.refl _ _) | (with_reducible assumption) | ((with_reducible refine bl_alloc ?_ _ ?_); (focus ((first | omega | (simp <;> omega)); done))) | ((with_reducible refine bl_set ?_ _ ?_); (focus ((first | omega | (simp <;> omega)); done))) | (with_reducible refine below_drewN ?_ _) | (with_reducible refine Below.drew ?_) | ((with_reducible refine bl_trans ?_ H10.out ?_); (focus ((first | omega | (simp <;> omega)); done)))))) (by omega)).mono ?_); rintro e w11 ⟨A10, n10, c10, A11, n11, c11, rfl, hr10, hr11, ha10_11, hb⟩; have zz11 : w10.heap.size ≤ w11.heap.size := (by have := hb.size; (try simp at this); omega); have H11 := Lib.hid (show Below w.heap.size w w11 by repeat (first | (with_reducible exact Below.refl _ _) | (with_reducible assumption) | ((with_reducible refine bl_alloc ?_ _ ?_); (focus ((first | omega | (simp <;> omega)); done))) | ((with_reducible refine bl_set ?_ _ ?_); (focus ((first | omega | (simp <;> omega)); done))) | (with_reducible refine below_drewN ?_ _) | (with_reducible refine Below.drew ?_) | ((with_reducible refine bl_trans ?_ hb ?_); (focus ((first | omega | (simp <;> omega)); done))) | ((with_reducible refine bl_trans ?_ H10.out ?_); (focus ((first | omega | (simp <;> omega)); done))))); have R6_11 := Lib.hid (Row.later1 R6_10.out hb); have R7_11 := Lib.hid (Row.later1 R7_10.out hb); have R10_11 := Lib.hid hr10; have RL10 := Lib.hid (show ∀ g, Value.ownBlock (.slice A10 n10 c10) = some g → w10.heap.size ≤ g ∧ g < w11.heap.size from fun g h => by have l1 := hr10.lt g h; (try simp at l1); omega); have RA10_11 := Lib.hid ha10_11; have R11_11 := Lib.hid hr11; have RL11 := Lib.hid (show ∀ g, Value.ownBlock (.slice A11 n11 c11) = some g → w10.heap.size ≤ g ∧ g < w11.heap.size from fun g h => by have l1 := hr11.lt g h; (try simp at l1); omega); clear f1_0_10 f1_1_10 g1_10 f3_0_10 f3_1_10 g3_10 R6_10 R7_10 hr10 ha10_11 hr11 H10))
      | (go_at_call 24; ((with_reducible refine (eqMask_any  _ _ _ (x1_0) _ _ R6_11.out R10_11.out _ _ (x1_1) _ _ R7_11.out R11_11.out).mono ?_); rintro e w12 ⟨rfl, hb⟩; have zz12 : w11.heap.size ≤ w12.heap.size := (by have := hb.size; (try simp at this); omega); have H12 := Lib.hid (show Below w.heap.size w w12 by repeat (first | (with_reducible exact Below.refl _ _) | (with_reducible assumption) | ((with_reducible refine bl_alloc ?_ _ ?_); (focus ((first | omega | (simp <;> omega)); done))) | ((with_reducible refine bl_set ?_ _ ?_); (focus ((first | omega | (simp <;> omega)); done))) | (with_reducible refine below_drewN ?_ _) | (with_reducible refine Below.drew ?_) | ((with_reducible refine bl_trans ?_ hb ?_); (focus ((first | omega | (simp <;> omega)); done))) | ((with_reducible refine bl_trans ?_ H11.out ?_); (focus ((first | omega | (simp <;> omega)); done))))); clear R6_11 R7_11 R10_11 R11_11 H11)))
  go_wp2_with fail
  go_ret
  exact ⟨rfl, (by repeat (first | (with_reducible exact Below.refl _ _) | (with_reducible assumption) | ((with_reducible refine bl_alloc ?_ _ ?_); (focus ((first | omega | (simp <;> omega)); done))) | ((with_reducible refine bl_set ?_ _ ?_); (focus ((first | omega | (simp <;> omega)); done))) | (with_reducible refine below_drewN ?_ _) | (with_reducible refine Below.drew ?_) | ((with_reducible refine bl_trans ?_ H12.out ?_); (focus ((first | omega | (simp <;> omega)); done)))))⟩
end Go.Proofs.Ytbckbjkpmcomcaa.fnExactSameMask
