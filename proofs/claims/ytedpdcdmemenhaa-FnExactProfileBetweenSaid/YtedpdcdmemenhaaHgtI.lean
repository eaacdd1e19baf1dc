/-
  The height at a place: the program's. The conditions are the hypotheses.
-/
import Derived.Test.YtedpdcdmemenhaaRows
import Derived.Test.YtedpdcdmemenhaaLib
import Derived.Test.YtedpdcdmemenhaaInt
import Derived.Test.YtedpdcdmemenhaaWithin
import Derived.Test.YtedpdcdmemenhaaAll
import Derived.Test.YtedpdcdmemenhaaOwn
import Derived.Test.YtedpdcdmemenhaaField
import Derived.Test.YtedpdcdmemenhaaTer
import Derived.Test.YtedpdcdmemenhaaMinMax
import Derived.Test.YtedpdcdmemenhaaHgtP
import Derived.Shelf.Abstract
import Derived.Outline
import Derived.Deep.DeepCutAuto
import Derived.Deep.QuietTactic
import Derived.BigQuiet
import Derived.Deep.RegionHeld3
import Derived.Deep.DrawnRows
namespace Go.Proofs.Ytedpdcdmemenhaa
open Go.RowKit
set_option linter.unusedSimpArgs false
set_option linter.unusedVariables false
attribute [local go_sem ↓] Go.wp_at_zero Go.wp_at_succ
set_option maxRecDepth 20000 in
theorem hgt_cell (w : World) (b g ca n m : Nat) (x y wd M h : Int) (c1 : w.cell? ⟨b, 1, none⟩ = some (.int .i64 wd)) (c3 : w.cell? ⟨b, 3, none⟩ = some (.slice (some ⟨g, 0, none⟩) n ca)) (z : w.cell? ⟨g, m, none⟩ = some (.int .i64 h)) (e1 : IntKind.i64.wrap (y * wd) = M) (e2 : IntKind.i64.wrap (M + x) = (m : Int)) (lt : m < n) :
    Calls Try.prog 129 #[.int .i64 x, .int .i64 y, .pointer (some ⟨b, 0, none⟩)] w fun e w' => e = .returned (.int .i64 h) ∧ w = w' := by
  have m0 : (0 : Int) ≤ (m : Int) := Int.natCast_nonneg _
  have m1 : (m : Int) < (n : Int) := by omega
  go_enter Try.func129, Try.ntmps129
  go_wp2_with fail
  go_ret
  exact ⟨rfl, rfl⟩
set_option maxRecDepth 20000 in
set_option maxHeartbeats 4000000 in
theorem heightAt_any (w : World) (st wd ht X Y : Int) (v u : Value) (hs : List Int) (p : Nat) (hr : Row 2 w p v hs) (hz : sizeB st wd ht = true) (hl : (hs.length : Int) = wd * ht) (hb : ∀ k, k < hs.length → 0 ≤ hs.getD k 0 ∧ hs.getD k 0 ≤ 90000) (x0 : 0 ≤ X) (x1 : X ≤ (wd - 1) * st) (y0 : 0 ≤ Y) (y1 : Y ≤ (ht - 1) * st) :
    Calls Try.prog 106 #[.agg #[.int .i64 st, .int .i64 wd, .int .i64 ht, v, u], .agg #[.int .i64 X, .int .i64 Y]] w fun e w' => e = .returned (.int .i64 (heightB st wd ht hs X Y)) ∧ Below w.heap.size w w' := by
  have HR := Lib.hid hr
  clear hr
  obtain ⟨s0, w0, t0, q1, q2⟩ := size_parts hz
  obtain ⟨D, E, I, K, P, Q, U, V, M, m, m1, m2, m3, h1, h2, h3, h4, fa, fb, ga, gb, ja, jb, ka, kb, R, H⟩ := hgt_letters s0.1 s0.2 w0.1 w0.2 t0.1 t0.2 x0 x1 y0 y1 hl hb
  have BD0 := H.D0
  have BE0 := H.E0
  have BI0 := H.I0
  have BK0 := H.K0
  have BP0 := H.P0
  have BQ0 := H.Q0
  have BU0 := H.U0
  have BV0 := H.V0
  have BM0 := H.M0
  have Blt := H.lt
  have Bmb := H.mb
  have Bn1 := H.n1
  have Bn2 := H.n2
  have Bn3 := H.n3
  have Bn4 := H.n4
  have Bl1 := H.l1
  have Bl2 := H.l2
  have Bl3 := H.l3
  have Bl4 := H.l4
  have Bl5 := H.l5
  have Bl6 := H.l6
  have Bl7 := H.l7
  have Bl8 := H.l8
  have BR0 := H.R0
  have HD := H.eD
  have HE := H.eE
  have HD' : X.tdiv st = D := by rw [Int.tdiv_eq_ediv_of_nonneg x0]; exact HD
  have HE' : Y.tdiv st = E := by rw [Int.tdiv_eq_ediv_of_nonneg y0]; exact HE
  have w1 : IntKind.i64.wrap (I * st) = P := by rw [H.eP, IntKind.wrap_i64]; omega
  have w2 : IntKind.i64.wrap (K * st) = Q := by rw [H.eQ, IntKind.wrap_i64]; omega
  have w3 : IntKind.i64.wrap (X - P) = U := by rw [H.eU, IntKind.wrap_i64]; omega
  have w4 : IntKind.i64.wrap (Y - Q) = V := by rw [H.eV, IntKind.wrap_i64]; omega
  have w5 : IntKind.i64.wrap (K * wd) = M := by rw [H.eM, IntKind.wrap_i64]; omega
  have w10 : IntKind.i64.wrap (h1 * (st - U)) = fa := by rw [H.f1, IntKind.wrap_i64]; omega
  have w11 : IntKind.i64.wrap (fa * (st - V)) = fb := by rw [H.f2, IntKind.wrap_i64]; omega
  have w12 : IntKind.i64.wrap (h2 * U) = ga := by rw [H.f3, IntKind.wrap_i64]; omega
  have w13 : IntKind.i64.wrap (ga * (st - V)) = gb := by rw [H.f4, IntKind.wrap_i64]; omega
  have w14 : IntKind.i64.wrap (h3 * (st - U)) = ja := by rw [H.f5, IntKind.wrap_i64]; omega
  have w15 : IntKind.i64.wrap (ja * V) = jb := by rw [H.f6, IntKind.wrap_i64]; omega
  have w16 : IntKind.i64.wrap (h4 * U) = ka := by rw [H.f7, IntKind.wrap_i64]; omega
  have w17 : IntKind.i64.wrap (ka * V) = kb := by rw [H.f8, IntKind.wrap_i64]; omega
  have w18 : IntKind.i64.wrap (st * st) = R := by rw [H.eR, IntKind.wrap_i64]; omega
  have w19 : IntKind.i64.wrap (st - U) = st - U := by rw [IntKind.wrap_i64]; omega
  have w20 : IntKind.i64.wrap (st - V) = st - V := by rw [IntKind.wrap_i64]; omega
  have w21 : IntKind.i64.wrap (wd - 2) = wd - 2 := by rw [IntKind.wrap_i64]; omega
  have w22 : IntKind.i64.wrap (ht - 2) = ht - 2 := by rw [IntKind.wrap_i64]; omega
  have w23 : IntKind.i64.wrap (D) = D := by rw [IntKind.wrap_i64]; omega
  have w24 : IntKind.i64.wrap (E) = E := by rw [IntKind.wrap_i64]; omega
  have em := H.em
  have em1 := H.em1
  have em2 := H.em2
  have em3 := H.em3
  have EI := H.eI
  have EK := H.eK
  have w30 : IntKind.i64.wrap (I + 1) = I + 1 := by rw [IntKind.wrap_i64]; omega
  have w31 : IntKind.i64.wrap (K + 1) = K + 1 := by rw [IntKind.wrap_i64]; omega
  have v1 := Lib.hid (show IntKind.i64.wrap (K * wd) = M from w5)
  have v2 : Hid (IntKind.i64.wrap ((K + 1) * wd) = M + wd) := by show _ = _; rw [H.eM', IntKind.wrap_i64]; omega
  have v3 : Hid (IntKind.i64.wrap (M + I) = (m : Int)) := by show _ = _; rw [IntKind.wrap_i64]; omega
  have v4 : Hid (IntKind.i64.wrap (M + (I + 1)) = (m1 : Int)) := by show _ = _; rw [IntKind.wrap_i64]; omega
  have v5 : Hid (IntKind.i64.wrap (M + wd + I) = (m2 : Int)) := by show _ = _; rw [IntKind.wrap_i64]; omega
  have v6 : Hid (IntKind.i64.wrap (M + wd + (I + 1)) = (m3 : Int)) := by show _ = _; rw [IntKind.wrap_i64]; omega
  have s1 : fa + 0 = fa := by omega
  clear s1
  have a1 : IntKind.i64.wrap (fb + gb) = fb + gb := by rw [IntKind.wrap_i64]; omega
  have a2 : IntKind.i64.wrap (fb + gb + jb) = fb + gb + jb := by rw [IntKind.wrap_i64]; omega
  have a3 : IntKind.i64.wrap (fb + gb + jb + kb) = fb + gb + jb + kb := by rw [IntKind.wrap_i64]; omega
  have HRES := Lib.hid H.res
  have G1 := Lib.hid H.g1
  have G2 := Lib.hid H.g2
  have G3 := Lib.hid H.g3
  have G4 := Lib.hid H.g4
  have HLT := Lib.hid H.lt
  obtain ⟨RR, hRR⟩ : ∃ RR, RR = heightB st wd ht hs X Y := ⟨_, rfl⟩
  rw [← hRR] at HRES ⊢
  have HDV : Hid (∀ W : World, Calls Try.prog 125 #[.int .i64 (fb + gb + jb + kb), .int .i64 R] W fun e w' => e = .returned (.int .i64 RR) ∧ ∃ n, w' = W.drewN n) := fun W => by rw [HRES.out]; exact divRound_any _ _ (by omega) (by omega) W
  clear hRR hb hl hz x1 y1 q1 q2 em em1 em2 em3 w5
  rcases HR.out.forms with ⟨_, hz⟩ | ⟨g, ca, rfl, _, lg, hx, _⟩
  · exfalso; rw [hz] at Blt; simp at Blt
  have z1 := hx m Blt.1
  have z2 := hx m1 Blt.2.1
  have z3 := hx m2 Blt.2.2.1
  have z4 := hx m3 Blt.2.2.2
  rw [G1.out] at z1
  rw [G2.out] at z2
  rw [G3.out] at z3
  rw [G4.out] at z4
  clear hx G1 G2 G3 G4
  obtain ⟨n, hn⟩ : ∃ n, n = hs.length := ⟨_, rfl⟩
  rw [← hn] at Blt ⊢
  clear hn
  obtain ⟨L1, L2, L3, L4⟩ := Blt
  obtain ⟨W0, hW0⟩ : ∃ W, W = (w.alloc (.cells #[.int .i64 st, .int .i64 wd, .int .i64 ht, .slice (some ⟨g, 0, none⟩) n ca, u] 62)).alloc (.cells #[.int .i64 X, .int .i64 Y] 64) := ⟨_, rfl⟩
  have HW0 := Lib.hid (show Below w.heap.size w W0 by rw [hW0]; repeat (first | (with_reducible exact Below.refl _ _) | (with_reducible assumption) | ((with_reducible refine bl_alloc ?_ _ ?_); (focus ((first | omega | (simp <;> omega)); done))) | ((with_reducible refine bl_set ?_ _ ?_); (focus ((first | omega | (simp <;> omega)); done))) | (with_reducible refine below_drewN ?_ _) | (with_reducible refine Below.drew ?_)))
  have e0 : W0.cell? ⟨w.heap.size, 0, none⟩ = some (.int .i64 st) := by rw [hW0]; simp [go_sem]
  have e1 : W0.cell? ⟨w.heap.size, 1, none⟩ = some (.int .i64 wd) := by rw [hW0]; simp [go_sem]
  have e2 : W0.cell? ⟨w.heap.size, 2, none⟩ = some (.int .i64 ht) := by rw [hW0]; simp [go_sem]
  have e3 : W0.cell? ⟨w.heap.size, 3, none⟩ = some (.slice (some ⟨g, 0, none⟩) n ca) := by rw [hW0]; simp [go_sem]
  have bx0 : W0.cell? ⟨w.heap.size + 1, 0, none⟩ = some (.int .i64 X) := by rw [hW0]; simp [go_sem]
  have bx1 : W0.cell? ⟨w.heap.size + 1, 1, none⟩ = some (.int .i64 Y) := by rw [hW0]; simp [go_sem]
  have z1 := keeps HW0.out z1
  have z2 := keeps HW0.out z2
  have z3 := keeps HW0.out z3
  have z4 := keeps HW0.out z4
  have ef : ∀ args w, (callFunc 129 args).run Try.prog w = .ok (.enter 129 args) w := enters_of Try.func129 (by kernel_rfl) rfl
  have HF1 : Hid (∀ q : Nat, Calls Try.prog 129 #[.int .i64 I, .int .i64 K, .pointer (some ⟨w.heap.size, 0, none⟩)] (W0.drewN q) fun e w' => e = .returned (.int .i64 h1) ∧ W0.drewN q = w') := fun q => hgt_cell _ _ g ca n m I K wd M h1 e1 e3 z1 v1.out v3.out L1
  have HF2 : Hid (∀ q : Nat, Calls Try.prog 129 #[.int .i64 (I + 1), .int .i64 K, .pointer (some ⟨w.heap.size, 0, none⟩)] (W0.drewN q) fun e w' => e = .returned (.int .i64 h2) ∧ W0.drewN q = w') := fun q => hgt_cell _ _ g ca n m1 (I + 1) K wd M h2 e1 e3 z2 v1.out v4.out L2
  have HF3 : Hid (∀ q : Nat, Calls Try.prog 129 #[.int .i64 I, .int .i64 (K + 1), .pointer (some ⟨w.heap.size, 0, none⟩)] (W0.drewN q) fun e w' => e = .returned (.int .i64 h3) ∧ W0.drewN q = w') := fun q => hgt_cell _ _ g ca n m2 I (K + 1) wd (M + wd) h3 e1 e3 z3 v2.out v5.out L3
  have HF4 : Hid (∀ q : Nat, Calls Try.prog 129 #[.int .i64 (I + 1), .int .i64 (K + 1), .pointer (some ⟨w.heap.size, 0, none⟩)] (W0.drewN q) fun e w' => e = .returned (.int .i64 h4) ∧ W0.drewN q = w') := fun q => hgt_cell _ _ g ca n m3 (I + 1) (K + 1) wd (M + wd) h4 e1 e3 z4 v2.out v6.out L4
  have m1D : ∀ (ts : Array TypeId) (t : TypeId) (W : World), (Builtin.min_ ts t #[.int .i64 D, .int .i64 (wd - 2)]).run Try.prog W = .ok (.int .i64 I) W := fun ts t W => by simp only [go_sem]; rw [← EI]; congr 2; by_cases h : wd - 2 < D <;> simp [h] <;> omega
  have m1E : ∀ (ts : Array TypeId) (t : TypeId) (W : World), (Builtin.min_ ts t #[.int .i64 E, .int .i64 (ht - 2)]).run Try.prog W = .ok (.int .i64 K) W := fun ts t W => by simp only [go_sem]; rw [← EK]; congr 2; by_cases h : ht - 2 < E <;> simp [h] <;> omega
  have i1D : (if wd - 2 < D then wd - 2 else D) = I := by rw [← EI]; by_cases h : wd - 2 < D <;> simp [h] <;> omega
  have i1E : (if ht - 2 < E then ht - 2 else E) = K := by rw [← EK]; by_cases h : ht - 2 < E <;> simp [h] <;> omega
  clear EI EK HLT z1 z2 z3 z4
  go_enter Try.func106, Try.ntmps106
  (go_upto_region 1 with fail; rw [← hW0]; clear hW0)
  go_quiet (fail)
  go_wp2_with fail
  go_quiet (fail)
  go_wp2_with fail
  go_quiet ((go_at_fn 129; first | (with_reducible exact quiet_addl (HF1.out _)) | (with_reducible exact quiet_addl (HF2.out _)) | (with_reducible exact quiet_addl (HF3.out _)) | (with_reducible exact quiet_addl (HF4.out _))))
  go_wp2_with fail
  refine (HDV.out _).mono ?_
  rintro e w5 ⟨rfl, kd, hw⟩
  have z0 := HW0.out.size
  have hb : Below W0.heap.size W0 w5 := by rw [hw]; exact below_drewN (below_drewN (Below.refl _ _) _) _
  have H5 := Lib.hid (show Below w.heap.size w w5 by repeat (first | (with_reducible exact Below.refl _ _) | (with_reducible assumption) | ((with_reducible refine bl_alloc ?_ _ ?_); (focus ((first | omega | (simp <;> omega)); done))) | ((with_reducible refine bl_set ?_ _ ?_); (focus ((first | omega | (simp <;> omega)); done))) | (with_reducible refine below_drewN ?_ _) | (with_reducible refine Below.drew ?_) | ((with_reducible refine bl_trans ?_ hb ?_); (focus ((first | omega | (simp <;> omega)); done))) | ((with_reducible refine bl_trans ?_ HW0.out ?_); (focus ((first | omega | (simp <;> omega)); done)))))
  clear hw hb
  go_wp2_with fail
  go_ret
  exact ⟨rfl, H5.out⟩
end Go.Proofs.Ytedpdcdmemenhaa
