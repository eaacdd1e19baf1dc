/-
  The height at a place: the reference's. The conditions are the hypotheses.
-/
import Derived.Test.YtedpdcdmemenhaaRows
import Derived.Test.YtedpdcdmemenhaaLib
import Derived.Test.YtedpdcdmemenhaaInt
import Derived.Test.YtedpdcdmemenhaaWithin
import Derived.Test.YtedpdcdmemenhaaAll
import Derived.Test.YtedpdcdmemenhaaOwn
import Derived.Test.YtedpdcdmemenhaaField
import Derived.Test.YtedpdcdmemenhaaTer
import Derived.Test.YtedpdcdmemenhaaMinMax
import Derived.Test.YtedpdcdmemenhaaHgtP
import Derived.Outline
import Derived.Deep.DeepCutAuto
import Derived.Deep.QuietTactic
import Derived.BigQuiet
import Derived.Deep.RegionHeld3
import Derived.Deep.DrawnRows
namespace Go.Proofs.Ytedpdcdmemenhaa
open Go.RowKit
set_option linter.unusedSimpArgs false
set_option linter.unusedVariables false
attribute [local go_sem ↓] Go.wp_at_zero Go.wp_at_succ
set_option maxRecDepth 20000 in
set_option maxHeartbeats 4000000 in
theorem l04HeightAt_any (w : World) (o : Nat) (st wd ht X Y : Int) (v : Value) (hs : List Int) (p : Nat) (hr : Row 2 w p v hs) (hz : sizeB st wd ht = true) (hl : (hs.length : Int) = wd * ht) (hb : ∀ k, k < hs.length → 0 ≤ hs.getD k 0 ∧ hs.getD k 0 ≤ 90000) (x0 : 0 ≤ X) (x1 : X ≤ (wd - 1) * st) (y0 : 0 ≤ Y) (y1 : Y ≤ (ht - 1) * st) (c0 : w.cell? ⟨o, 0, none⟩ = some (.int .i64 st)) (c1 : w.cell? ⟨o, 1, none⟩ = some (.int .i64 wd)) (c2 : w.cell? ⟨o, 2, none⟩ = some (.int .i64 ht)) (c3 : w.cell? ⟨o, 3, none⟩ = some (v)) :
    Calls Try.prog 98 #[.pointer (some ⟨o, 0, none⟩), .agg #[.int .i64 X, .int .i64 Y]] w fun e w' => e = .returned (.int .i64 (heightB st wd ht hs X Y)) ∧ Below w.heap.size w w' := by
  have HR := Lib.hid hr
  clear hr
  obtain ⟨s0, w0, t0, q1, q2⟩ := size_parts hz
  obtain ⟨D, E, I, K, P, Q, U, V, M, m, m1, m2, m3, h1, h2, h3, h4, fa, fb, ga, gb, ja, jb, ka, kb, R, H⟩ := hgt_letters s0.1 s0.2 w0.1 w0.2 t0.1 t0.2 x0 x1 y0 y1 hl hb
  have BD0 := H.D0
  have BE0 := H.E0
  have BI0 := H.I0
  have BK0 := H.K0
  have BP0 := H.P0
  have BQ0 := H.Q0
  have BU0 := H.U0
  have BV0 := H.V0
  have BM0 := H.M0
  have Blt := H.lt
  have Bmb := H.mb
  have Bn1 := H.n1
  have Bn2 := H.n2
  have Bn3 := H.n3
  have Bn4 := H.n4
  have Bl1 := H.l1
  have Bl2 := H.l2
  have Bl3 := H.l3
  have Bl4 := H.l4
  have Bl5 := H.l5
  have Bl6 := H.l6
  have Bl7 := H.l7
  have Bl8 := H.l8
  have BR0 := H.R0
  have HD := H.eD
  have HE := H.eE
  have HD' : X.tdiv st = D := by rw [Int.tdiv_eq_ediv_of_nonneg x0]; exact HD
  have HE' : Y.tdiv st = E := by rw [Int.tdiv_eq_ediv_of_nonneg y0]; exact HE
  have w1 : IntKind.i64.wrap (I * st) = P := by rw [H.eP, IntKind.wrap_i64]; omega
  have w2 : IntKind.i64.wrap (K * st) = Q := by rw [H.eQ, IntKind.wrap_i64]; omega
  have w3 : IntKind.i64.wrap (X - P) = U := by rw [H.eU, IntKind.wrap_i64]; omega
  have w4 : IntKind.i64.wrap (Y - Q) = V := by rw [H.eV, IntKind.wrap_i64]; omega
  have w5 : IntKind.i64.wrap (K * wd) = M := by rw [H.eM, IntKind.wrap_i64]; omega
  have w6 : IntKind.i64.wrap (M + I) = (m : Int) := by rw [H.em, IntKind.wrap_i64]; omega
  have w7 : IntKind.i64.wrap ((m : Int) + 1) = (m1 : Int) := by rw [H.em1, IntKind.wrap_i64]; omega
  have w8 : IntKind.i64.wrap ((m : Int) + wd) = (m2 : Int) := by rw [H.em2, IntKind.wrap_i64]; omega
  have w9 : IntKind.i64.wrap ((m2 : Int) + 1) = (m3 : Int) := by rw [H.em3, IntKind.wrap_i64]; omega
  have w10 : IntKind.i64.wrap (h1 * (st - U)) = fa := by rw [H.f1, IntKind.wrap_i64]; omega
  have w11 : IntKind.i64.wrap (fa * (st - V)) = fb := by rw [H.f2, IntKind.wrap_i64]; omega
  have w12 : IntKind.i64.wrap (h2 * U) = ga := by rw [H.f3, IntKind.wrap_i64]; omega
  have w13 : IntKind.i64.wrap (ga * (st - V)) = gb := by rw [H.f4, IntKind.wrap_i64]; omega
  have w14 : IntKind.i64.wrap (h3 * (st - U)) = ja := by rw [H.f5, IntKind.wrap_i64]; omega
  have w15 : IntKind.i64.wrap (ja * V) = jb := by rw [H.f6, IntKind.wrap_i64]; omega
  have w16 : IntKind.i64.wrap (h4 * U) = ka := by rw [H.f7, IntKind.wrap_i64]; omega
  have w17 : IntKind.i64.wrap (ka * V) = kb := by rw [H.f8, IntKind.wrap_i64]; omega
  have w18 : IntKind.i64.wrap (st * st) = R := by rw [H.eR, IntKind.wrap_i64]; omega
  have w19 : IntKind.i64.wrap (st - U) = st - U := by rw [IntKind.wrap_i64]; omega
  have w20 : IntKind.i64.wrap (st - V) = st - V := by rw [IntKind.wrap_i64]; omega
  have w21 : IntKind.i64.wrap (wd - 2) = wd - 2 := by rw [IntKind.wrap_i64]; omega
  have w22 : IntKind.i64.wrap (ht - 2) = ht - 2 := by rw [IntKind.wrap_i64]; omega
  have w23 : IntKind.i64.wrap (D) = D := by rw [IntKind.wrap_i64]; omega
  have w24 : IntKind.i64.wrap (E) = E := by rw [IntKind.wrap_i64]; omega
  have HA : Hid (∀ W : World, Calls Try.prog 80 #[.int .i64 D, .int .i64 (wd - 2)] W fun e w' => e = .returned (.int .i64 I) ∧ W = w') := fun W => by have h := cMin_any W D (wd - 2); rw [H.eI] at h; exact h
  have HB : Hid (∀ W : World, Calls Try.prog 80 #[.int .i64 E, .int .i64 (ht - 2)] W fun e w' => e = .returned (.int .i64 K) ∧ W = w') := fun W => by have h := cMin_any W E (ht - 2); rw [H.eK] at h; exact h
  have R2 : 2 * st * st = 2 * R := by rw [Int.mul_assoc, H.eR]
  have w25 : IntKind.i64.wrap (2 * st * st) = 2 * R := by rw [R2, IntKind.wrap_i64]; omega
  have hbd := height_bd s0.1 w0.1 t0.1 x0 x1 y0 y1 hl hb
  have hq : (2 * (fb + gb + jb + kb) + R).tdiv (2 * R) = heightB st wd ht hs X Y := by rw [Int.tdiv_eq_ediv_of_nonneg (by omega)]; exact (H.res.trans (rdiv_two (by omega))).symm
  have hq' : (2 * (fb + gb + jb + kb) + R) / (2 * R) = heightB st wd ht hs X Y := (H.res.trans (rdiv_two (by omega))).symm
  have G1 := Lib.hid H.g1
  have G2 := Lib.hid H.g2
  have G3 := Lib.hid H.g3
  have G4 := Lib.hid H.g4
  have HLT := Lib.hid H.lt
  obtain ⟨RR, hRR⟩ : ∃ RR, RR = heightB st wd ht hs X Y := ⟨_, rfl⟩
  rw [← hRR] at hbd hq hq' ⊢
  clear hRR hb hl hz x1 y1 q1 q2 H
  rcases HR.out.forms with ⟨_, hz⟩ | ⟨g, ca, rfl, _, lg, hx, _⟩
  · exfalso; rw [hz] at Blt; simp at Blt
  have z1 := hx m Blt.1
  have z2 := hx m1 Blt.2.1
  have z3 := hx m2 Blt.2.2.1
  have z4 := hx m3 Blt.2.2.2
  rw [G1.out] at z1
  rw [G2.out] at z2
  rw [G3.out] at z3
  rw [G4.out] at z4
  clear hx G1 G2 G3 G4
  obtain ⟨n, hn⟩ : ∃ n, n = hs.length := ⟨_, rfl⟩
  rw [← hn] at Blt c3
  clear hn
  obtain ⟨L1, L2, L3, L4⟩ := Blt
  obtain ⟨W0, hW0⟩ : ∃ W, W = w.alloc (.cells #[.int .i64 X, .int .i64 Y] 64) := ⟨_, rfl⟩
  have HW0 := Lib.hid (show Below w.heap.size w W0 by rw [hW0]; repeat (first | (with_reducible exact Below.refl _ _) | (with_reducible assumption) | ((with_reducible refine bl_alloc ?_ _ ?_); (focus ((first | omega | (simp <;> omega)); done))) | ((with_reducible refine bl_set ?_ _ ?_); (focus ((first | omega | (simp <;> omega)); done))) | (with_reducible refine below_drewN ?_ _) | (with_reducible refine Below.drew ?_)))
  have bx0 : W0.cell? ⟨w.heap.size, 0, none⟩ = some (.int .i64 X) := by rw [hW0]; simp [go_sem]
  have bx1 : W0.cell? ⟨w.heap.size, 1, none⟩ = some (.int .i64 Y) := by rw [hW0]; simp [go_sem]
  have e0 := keeps HW0.out c0
  have e1 := keeps HW0.out c1
  have e2 := keeps HW0.out c2
  have e3 := keeps HW0.out c3
  have z1 := keeps HW0.out z1
  have z2 := keeps HW0.out z2
  have z3 := keeps HW0.out z3
  have z4 := keeps HW0.out z4
  clear c0 c1 c2 c3 HLT
  go_enter Try.func98, Try.ntmps98
  (go_upto_region 1 with fail; rw [← hW0]; clear hW0)
  go_quiet ((go_at_call 80; exact quiet_left (HA.out _)))
  go_wp2_with fail
  go_quiet ((go_at_call 80; first | exact quiet_left (HB.out _) | exact quiet_addl (HB.out _)))
  go_wp2_with fail
  go_quiet (fail)
  go_wp2_with fail
  go_quiet (fail)
  go_wp2_with fail
  go_quiet (fail)
  go_wp2_with fail
  go_ret
  exact ⟨rfl, by repeat (first | (with_reducible exact Below.refl _ _) | (with_reducible assumption) | ((with_reducible refine bl_alloc ?_ _ ?_); (focus ((first | omega | (simp <;> omega)); done))) | ((with_reducible refine bl_set ?_ _ ?_); (focus ((first | omega | (simp <;> omega)); done))) | (with_reducible refine below_drewN ?_ _) | (with_reducible refine Below.drew ?_) | ((with_reducible refine bl_trans ?_ HW0.out ?_); (focus ((first | omega | (simp <;> omega)); done))))⟩
end Go.Proofs.Ytedpdcdmemenhaa
