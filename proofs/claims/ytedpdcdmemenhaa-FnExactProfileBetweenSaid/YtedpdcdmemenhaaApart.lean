/-
  The distance of two places: the reference's and the program's, one model. The conditions are the hypotheses.
-/
import Derived.Test.YtedpdcdmemenhaaRows
import Derived.Test.YtedpdcdmemenhaaLib
import Derived.Test.YtedpdcdmemenhaaMath
import Derived.Test.YtedpdcdmemenhaaRootMath
import Derived.Test.YtedpdcdmemenhaaRoot
import Derived.Shelf.Abstract
import Derived.Outline
import Derived.Deep.DeepCutAuto
import Derived.Deep.QuietTactic
import Derived.BigQuiet
import Derived.Deep.RegionHeld3
import Derived.Deep.DrawnRows
namespace Go.Proofs.Ytedpdcdmemenhaa
open Go.RowKit
set_option linter.unusedSimpArgs false
set_option linter.unusedVariables false
attribute [local go_sem ↓] Go.wp_at_zero Go.wp_at_succ
def apartV (x y u v : Int) : Int := rootV ((u - x) * (u - x) + (v - y) * (v - y))
theorem sq_bd {a : Int} (h0 : -200000 ≤ a) (h1 : a ≤ 200000) : 0 ≤ a * a ∧ a * a ≤ 40000000000 := by
  refine ⟨?_, (mul_bd (A := 200000) (B := 200000) h0 h1 h0 h1).2⟩
  rcases Int.le_total 0 a with h | h
  · exact Int.mul_nonneg h h
  · have := Int.mul_nonneg (show 0 ≤ -a by omega) (show 0 ≤ -a by omega)
    rwa [Int.neg_mul_neg] at this
theorem apart_bd {x y u v : Int} (a0 : 0 ≤ x ∧ x ≤ 200000) (a1 : 0 ≤ y ∧ y ≤ 200000) (a2 : 0 ≤ u ∧ u ≤ 200000) (a3 : 0 ≤ v ∧ v ≤ 200000) : 0 ≤ apartV x y u v ∧ apartV x y u v ≤ 282843 := by
  have s1 := sq_bd (a := u - x) (by omega) (by omega)
  have s2 := sq_bd (a := v - y) (by omega) (by omega)
  have hr := rootV_is (n := (u - x) * (u - x) + (v - y) * (v - y)) (by omega) (by omega)
  obtain ⟨h0, h1, _⟩ := hr
  refine ⟨h0, ?_⟩
  by_cases h : apartV x y u v ≤ 282843
  · exact h
  · exfalso
    have := sq_le (a := 282844) (b := rootV ((u - x) * (u - x) + (v - y) * (v - y))) (by omega) (by unfold apartV at h; omega)
    omega
set_option maxRecDepth 20000 in
theorem l03Apart_any (w : World) (x y u v : Int) (a0 : 0 ≤ x ∧ x ≤ 200000) (a1 : 0 ≤ y ∧ y ≤ 200000) (a2 : 0 ≤ u ∧ u ≤ 200000) (a3 : 0 ≤ v ∧ v ≤ 200000) :
    Calls Try.prog 107 #[.agg #[.int .i64 x, .int .i64 y], .agg #[.int .i64 u, .int .i64 v]] w fun e w' => e = .returned (.int .i64 (apartV x y u v)) ∧ Below w.heap.size w w' := by
  have s1 := sq_bd (a := u - x) (by omega) (by omega)
  have s2 := sq_bd (a := v - y) (by omega) (by omega)
  obtain ⟨P, hP⟩ : ∃ P, P = (u - x) * (u - x) := ⟨_, rfl⟩
  obtain ⟨Q, hQ⟩ : ∃ Q, Q = (v - y) * (v - y) := ⟨_, rfl⟩
  have f1 : (u - x) * (u - x) = P := hP.symm
  have f2 : (v - y) * (v - y) = Q := hQ.symm
  rw [← hP] at s1
  rw [← hQ] at s2
  have v1 : IntKind.i64.wrap ((u - x) * (u - x)) = P := by rw [f1, IntKind.wrap_i64]; omega
  have v2 : IntKind.i64.wrap ((v - y) * (v - y)) = Q := by rw [f2, IntKind.wrap_i64]; omega
  have HR : Hid (∀ W : World, Calls Try.prog 130 #[.int .i64 (P + Q)] W fun e w' => e = .returned (.int .i64 (apartV x y u v)) ∧ Below W.heap.size W w') := fun W => by
    unfold apartV
    rw [← hP, ← hQ]
    exact (l01Root_any W _).mono fun e w' ⟨h, hw⟩ => ⟨h, by rw [← hw]; exact Below.refl _ _⟩
  obtain ⟨K, hK⟩ : ∃ K, K = apartV x y u v := ⟨_, rfl⟩
  rw [← hK] at HR ⊢
  clear hK hP hQ
  go_enter Try.func107, Try.ntmps107
  go_wp2_with fail
  refine (HR.out _).mono ?_
  rintro e w1 ⟨rfl, hb⟩
  have H1 := Lib.hid (show Below w.heap.size w w1 by repeat (first | (with_reducible exact Below.refl _ _) | (with_reducible assumption) | ((with_reducible refine bl_alloc ?_ _ ?_); (focus ((first | omega | (simp <;> omega)); done))) | ((with_reducible refine bl_set ?_ _ ?_); (focus ((first | omega | (simp <;> omega)); done))) | (with_reducible refine below_drewN ?_ _) | (with_reducible refine Below.drew ?_) | ((with_reducible refine bl_trans ?_ hb ?_); (focus ((first | omega | (simp <;> omega)); done)))))
  clear hb
  go_wp2_with fail
  go_ret
  exact ⟨rfl, H1.out⟩
set_option maxRecDepth 20000 in
theorem distanceOf_any (w : World) (x y u v : Int) (a0 : 0 ≤ x ∧ x ≤ 200000) (a1 : 0 ≤ y ∧ y ≤ 200000) (a2 : 0 ≤ u ∧ u ≤ 200000) (a3 : 0 ≤ v ∧ v ≤ 200000) :
    Calls Try.prog 109 #[.agg #[.int .i64 x, .int .i64 y], .agg #[.int .i64 u, .int .i64 v]] w fun e w' => e = .returned (.int .i64 (apartV x y u v)) ∧ Below w.heap.size w w' := by
  have s1 := sq_bd (a := u - x) (by omega) (by omega)
  have s2 := sq_bd (a := v - y) (by omega) (by omega)
  obtain ⟨P, hP⟩ : ∃ P, P = (u - x) * (u - x) := ⟨_, rfl⟩
  obtain ⟨Q, hQ⟩ : ∃ Q, Q = (v - y) * (v - y) := ⟨_, rfl⟩
  have f1 : (x - u) * (x - u) = P := by rw [hP, show x - u = -(u - x) by omega, Int.neg_mul_neg]
  have f2 : (y - v) * (y - v) = Q := by rw [hQ, show y - v = -(v - y) by omega, Int.neg_mul_neg]
  rw [← hP] at s1
  rw [← hQ] at s2
  have v1 : IntKind.i64.wrap ((x - u) * (x - u)) = P := by rw [f1, IntKind.wrap_i64]; omega
  have v2 : IntKind.i64.wrap ((y - v) * (y - v)) = Q := by rw [f2, IntKind.wrap_i64]; omega
  have HR : Hid (∀ W : World, Calls Try.prog 132 #[.int .i64 (P + Q)] W fun e w' => e = .returned (.int .i64 (apartV x y u v)) ∧ Below W.heap.size W w') := fun W => by
    unfold apartV
    rw [← hP, ← hQ]
    exact RootOf_any W _ (by omega) (by omega)
  obtain ⟨K, hK⟩ : ∃ K, K = apartV x y u v := ⟨_, rfl⟩
  rw [← hK] at HR ⊢
  clear hK hP hQ
  go_enter Try.func109, Try.ntmps109
  go_wp2_with fail
  refine (HR.out _).mono ?_
  rintro e w1 ⟨rfl, hb⟩
  have H1 := Lib.hid (show Below w.heap.size w w1 by repeat (first | (with_reducible exact Below.refl _ _) | (with_reducible assumption) | ((with_reducible refine bl_alloc ?_ _ ?_); (focus ((first | omega | (simp <;> omega)); done))) | ((with_reducible refine bl_set ?_ _ ?_); (focus ((first | omega | (simp <;> omega)); done))) | (with_reducible refine below_drewN ?_ _) | (with_reducible refine Below.drew ?_) | ((with_reducible refine bl_trans ?_ hb ?_); (focus ((first | omega | (simp <;> omega)); done)))))
  clear hb
  go_wp2_with fail
  go_ret
  exact ⟨rfl, H1.out⟩
end Go.Proofs.Ytedpdcdmemenhaa
