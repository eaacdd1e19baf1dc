/-
  Contracts of the functions that give the value of a line through two points. The numbers are at most two millions in size.
-/
import Derived.Test.YtgbehaapmnmifaaInt
namespace Go.Proofs.Ytgbehaapmnmifaa
open Go.RowKit
set_option linter.unusedSimpArgs false
set_option linter.unusedVariables false
def Mid (x : Int) : Prop := -2000000 ≤ x ∧ x ≤ 2000000
theorem blend_any (x0 y0 x1 y1 x : Int) (h0 : Mid x0) (h1 : Mid y0) (h2 : Mid x1) (h3 : Mid y1) (h4 : Mid x) (w : World) :
    Calls Try.prog 35 #[.int .i64 x0, .int .i64 y0, .int .i64 x1, .int .i64 y1, .int .i64 x] w fun e w' => e = .returned (.int .i64 (line x0 y0 x1 y1 x)) ∧ ∃ n, w' = w.drewN n := by
  obtain ⟨a0, b0⟩ := h0
  obtain ⟨a1, b1⟩ := h1
  obtain ⟨a2, b2⟩ := h2
  obtain ⟨a3, b3⟩ := h3
  obtain ⟨a4, b4⟩ := h4
  by_cases g1 : x ≤ x0
  · have e := Lib.hid (line_lo (y0 := y0) (y1 := y1) (x1 := x1) (Or.inl g1))
    go_enter Try.func35, Try.ntmps35
    go_wp2_with fail
    go_ret
    exact ⟨ret_int e.out.symm, 0, rfl⟩
  by_cases g2 : x1 ≤ x0
  · have e := Lib.hid (line_lo (x := x) (y0 := y0) (y1 := y1) (x0 := x0) (x1 := x1) (Or.inr g2))
    go_enter Try.func35, Try.ntmps35
    go_wp2_with fail
    go_ret
    exact ⟨ret_int e.out.symm, 0, rfl⟩
  by_cases g3 : x1 ≤ x
  · have e := Lib.hid (line_hi (y0 := y0) (y1 := y1) (show ¬ (x ≤ x0 ∨ x1 ≤ x0) by omega) g3)
    go_enter Try.func35, Try.ntmps35
    go_wp2_with fail
    go_ret
    exact ⟨ret_int e.out.symm, 0, rfl⟩
  · have e := Lib.hid (line_mid (y0 := y0) (y1 := y1) (show ¬ (x ≤ x0 ∨ x1 ≤ x0) by omega) g3)
    have m := mul_bd (a := y1 - y0) (b := x - x0) (A := 4000000) (B := 4000000) (by omega) (by omega) (by omega) (by omega)
    have hp := rdiv_part (d := y1 - y0) (t := x - x0) (e := x1 - x0) (by omega) (by omega) (by omega)
    have hq : -4000000 ≤ rdiv ((y1 - y0) * (x - x0)) (x1 - x0) ∧ rdiv ((y1 - y0) * (x - x0)) (x1 - x0) ≤ 4000000 := by
      by_cases hd : 0 ≤ y1 - y0
      · have := hp.1 hd; omega
      · have := hp.2 (by omega); omega
    obtain ⟨q1, q2⟩ := hq
    obtain ⟨m1, m2⟩ := m
    clear hp
    go_enter Try.func35, Try.ntmps35
    go_wp2_with fail
    refine (divRound_any _ _ (by omega) (by omega) _).mono ?_
    rintro e w1 ⟨rfl, n, rfl⟩
    go_wp2_with fail
    go_ret
    exact ⟨ret_int e.out.symm, _, rfl⟩
theorem l01Line_any (x0 y0 x1 y1 x : Int) (h0 : Mid x0) (h1 : Mid y0) (h2 : Mid x1) (h3 : Mid y1) (h4 : Mid x) (w : World) :
    Calls Try.prog 28 #[.int .i64 x0, .int .i64 y0, .int .i64 x1, .int .i64 y1, .int .i64 x] w fun e w' => e = .returned (.int .i64 (line x0 y0 x1 y1 x)) ∧ w = w' := by
  obtain ⟨a0, b0⟩ := h0
  obtain ⟨a1, b1⟩ := h1
  obtain ⟨a2, b2⟩ := h2
  obtain ⟨a3, b3⟩ := h3
  obtain ⟨a4, b4⟩ := h4
  by_cases g1 : x ≤ x0
  · have e := Lib.hid (line_lo (y0 := y0) (y1 := y1) (x1 := x1) (Or.inl g1))
    go_enter Try.func28, Try.ntmps28
    go_wp2_with fail
    go_ret
    exact ⟨ret_int e.out.symm, rfl⟩
  by_cases g2 : x1 ≤ x0
  · have e := Lib.hid (line_lo (x := x) (y0 := y0) (y1 := y1) (x0 := x0) (x1 := x1) (Or.inr g2))
    go_enter Try.func28, Try.ntmps28
    go_wp2_with fail
    go_ret
    exact ⟨ret_int e.out.symm, rfl⟩
  by_cases g3 : x1 ≤ x
  · have e := Lib.hid (line_hi (y0 := y0) (y1 := y1) (show ¬ (x ≤ x0 ∨ x1 ≤ x0) by omega) g3)
    go_enter Try.func28, Try.ntmps28
    go_wp2_with fail
    go_ret
    exact ⟨ret_int e.out.symm, rfl⟩
  · have e := Lib.hid (line_mid (y0 := y0) (y1 := y1) (show ¬ (x ≤ x0 ∨ x1 ≤ x0) by omega) g3)
    have m := mul_bd (a := y1 - y0) (b := x - x0) (A := 4000000) (B := 4000000) (by omega) (by omega) (by omega) (by omega)
    have hp := rdiv_part (d := y1 - y0) (t := x - x0) (e := x1 - x0) (by omega) (by omega) (by omega)
    have hq : -4000000 ≤ rdiv ((y1 - y0) * (x - x0)) (x1 - x0) ∧ rdiv ((y1 - y0) * (x - x0)) (x1 - x0) ≤ 4000000 := by
      by_cases hd : 0 ≤ y1 - y0
      · have := hp.1 hd; omega
      · have := hp.2 (by omega); omega
    obtain ⟨q1, q2⟩ := hq
    obtain ⟨m1, m2⟩ := m
    clear hp
    go_enter Try.func28, Try.ntmps28
    go_wp2_with fail
    refine (l01Div_any _ _ (by omega) (by omega) _).mono ?_
    rintro e w1 ⟨rfl, rfl⟩
    go_wp2_with fail
    go_ret
    exact ⟨ret_int e.out.symm, rfl⟩
end Go.Proofs.Ytgbehaapmnmifaa
