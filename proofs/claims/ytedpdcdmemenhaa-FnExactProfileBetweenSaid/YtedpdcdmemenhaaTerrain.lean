/-
  Contracts of the laws' own helpers over Terrain values: copy, size, comparison, marking. The conditions are the hypotheses.
-/
import Derived.Test.YtedpdcdmemenhaaRows
import Derived.Test.YtedpdcdmemenhaaLib
import Derived.Test.YtedpdcdmemenhaaInts
namespace Go.Proofs.Ytedpdcdmemenhaa
open Go.RowKit
set_option linter.unusedSimpArgs false
set_option linter.unusedVariables false
theorem toTerrain_any (a0 : Int) (a1 : Int) (a2 : Int) (v3 : Value) (x3 : List Int) (v4 : Value) (x4 : List Int) (w : World) (B : Nat) (hB : B ≤ w.heap.size) (r3 : Rd w B v3 x3) (h3 : x3.length ≤ 1048576) (r4 : Rd w B v4 x4) (h4 : x4.length ≤ 1048576) :
    Calls Try.prog 31 #[.agg #[.int .i64 a0, .int .i64 a1, .int .i64 a2, v3, v4]] w fun e w' => ∃ A3 n3 c3 A4 n4 c4, e = .returned (.agg #[.int .i64 a0, .int .i64 a1, .int .i64 a2, .slice A3 n3 c3, .slice A4 n4 c4]) ∧ Row 2 w' w.heap.size (.slice A3 n3 c3) x3 ∧ Row 2 w' w.heap.size (.slice A4 n4 c4) x4 ∧ Apart (.slice A3 n3 c3) (.slice A4 n4 c4) ∧ Below w.heap.size w w' := by
  go_enter Try.func31, Try.ntmps31
  go_wp2_with fail
  refine (to_row v3 x3 _ B (by simp <;> omega) (Rd.below r3 (Below.mono (by repeat (first | (with_reducible exact Below.refl _ _) | (with_reducible assumption) | ((with_reducible refine bl_alloc ?_ _ ?_); (focus ((first | omega | (simp <;> omega)); done))) | ((with_reducible refine bl_set ?_ _ ?_); (focus ((first | omega | (simp <;> omega)); done))) | (with_reducible refine below_drewN ?_ _) | (with_reducible refine Below.drew ?_))) hB)) h3).mono ?_
  rintro e w0 ⟨A3, n3, c3, rfl, hr, hb⟩
  have HR3 := Lib.hid (Row.base_le (b' := w.heap.size + 1 + 1 + 1) hr (by simp <;> omega))
  have HB0 := Lib.hid (show Below w.heap.size w w0 by repeat (first | (with_reducible exact Below.refl _ _) | (with_reducible assumption) | ((with_reducible refine bl_alloc ?_ _ ?_); (focus ((first | omega | (simp <;> omega)); done))) | ((with_reducible refine bl_set ?_ _ ?_); (focus ((first | omega | (simp <;> omega)); done))) | (with_reducible refine below_drewN ?_ _) | (with_reducible refine Below.drew ?_) | ((with_reducible refine bl_trans ?_ hb ?_); (focus ((first | omega | (simp <;> omega)); done)))))
  have zc : w.heap.size + 1 + 1 < w0.heap.size := by have := hb.size; simp at this; omega
  have zb : w.heap.size + 1 < w0.heap.size := by omega
  have za : w.heap.size < w0.heap.size := by omega
  obtain ⟨hc, hf⟩ := bcell hb
  clear hr hb
  go_wp2_with fail
  refine (to_row v4 x4 _ B (by simp <;> omega) (Rd.below r4 (Below.mono (by repeat (first | (with_reducible exact Below.refl _ _) | (with_reducible assumption) | ((with_reducible refine bl_alloc ?_ _ ?_); (focus ((first | omega | (simp <;> omega)); done))) | ((with_reducible refine bl_set ?_ _ ?_); (focus ((first | omega | (simp <;> omega)); done))) | (with_reducible refine below_drewN ?_ _) | (with_reducible refine Below.drew ?_) | ((with_reducible refine bl_trans ?_ HB0.out ?_); (focus ((first | omega | (simp <;> omega)); done))))) hB)) h4).mono ?_
  rintro e w1 ⟨A4, n4, c4, rfl, hr, hb⟩
  have HR4 := Lib.hid (Row.base_le (b' := w.heap.size + 1 + 1 + 1) hr (by simp <;> omega))
  have HB1 := Lib.hid (show Below w.heap.size w w1 by repeat (first | (with_reducible exact Below.refl _ _) | (with_reducible assumption) | ((with_reducible refine bl_alloc ?_ _ ?_); (focus ((first | omega | (simp <;> omega)); done))) | ((with_reducible refine bl_set ?_ _ ?_); (focus ((first | omega | (simp <;> omega)); done))) | (with_reducible refine below_drewN ?_ _) | (with_reducible refine Below.drew ?_) | ((with_reducible refine bl_trans ?_ hb ?_); (focus ((first | omega | (simp <;> omega)); done))) | ((with_reducible refine bl_trans ?_ HB0.out ?_); (focus ((first | omega | (simp <;> omega)); done)))))
  have HQ3 := Lib.hid (Row.later (Row.low (p := ⟨w.heap.size + 1 + 1, 3, none⟩) (by simp) (.slice A3 n3 c3) HR3.out) hb)
  have HA := Lib.hid (show Apart (.slice A3 n3 c3) (.slice A4 n4 c4) from fun g h h' => by have l1 := HR3.out.lt g h; have l2 := hr.lt g h'; simp at l2; omega)
  have zc : w.heap.size + 1 + 1 < w1.heap.size := by have := hb.size; simp at this; omega
  have zb : w.heap.size + 1 < w1.heap.size := by omega
  have za : w.heap.size < w1.heap.size := by omega
  obtain ⟨hc, hf⟩ := bcell hb
  clear hr hb
  go_wp2_with fail
  refine bodyPost_ret (v := .agg #[.int .i64 a0, .int .i64 a1, .int .i64 a2, .slice A3 n3 c3, .slice A4 n4 c4]) ?_ rfl ?_
  · simp [results, Try.results31, go_sem, *]
  refine ⟨A3, n3, c3, A4, n4, c4, rfl, ?_, ?_, HA.out, ?_⟩
  · refine Row.base_le (base := w.heap.size + 1 + 1 + 1) ?_ (by omega)
    repeat (first | (with_reducible exact HQ3.out) | ((with_reducible refine Row.low ?_ _ ?_); (focus ((first | omega | (simp <;> omega)); done))))
  · refine Row.base_le (base := w.heap.size + 1 + 1 + 1) ?_ (by omega)
    repeat (first | (with_reducible exact HR4.out) | ((with_reducible refine Row.low ?_ _ ?_); (focus ((first | omega | (simp <;> omega)); done))))
  · repeat (first | (with_reducible exact Below.refl _ _) | (with_reducible assumption) | ((with_reducible refine bl_alloc ?_ _ ?_); (focus ((first | omega | (simp <;> omega)); done))) | ((with_reducible refine bl_set ?_ _ ?_); (focus ((first | omega | (simp <;> omega)); done))) | (with_reducible refine below_drewN ?_ _) | (with_reducible refine Below.drew ?_) | ((with_reducible refine bl_trans ?_ HB1.out ?_); (focus ((first | omega | (simp <;> omega)); done))))
theorem eqTerrain_any (a0 : Int) (a1 : Int) (a2 : Int) (w : World) (a3' b3' : Value) (x3 : List Int) (p3 q3 : Nat) (h3 : Row 2 w p3 a3' x3) (k3 : Row 2 w q3 b3' x3) (a4' b4' : Value) (x4 : List Int) (p4 q4 : Nat) (h4 : Row 2 w p4 a4' x4) (k4 : Row 2 w q4 b4' x4) :
    Calls Try.prog 34 #[.agg #[.int .i64 a0, .int .i64 a1, .int .i64 a2, a3', a4'], .agg #[.int .i64 a0, .int .i64 a1, .int .i64 a2, b3', b4']] w fun e w' => e = .returned (.bool true) ∧ Below w.heap.size w w' := by
  have H3 := Lib.hid h3
  have K3 := Lib.hid k3
  clear h3 k3
  have H4 := Lib.hid h4
  have K4 := Lib.hid k4
  clear h4 k4
  go_enter Try.func34, Try.ntmps34
  go_wp2_with fail
  refine (eq_rows _ _ x3 p3 q3 _ ((H3.out.alloc_ _).alloc_ _) ((K3.out.alloc_ _).alloc_ _)).mono ?_
  rintro e w0 ⟨rfl, m0, rfl⟩
  go_wp2_with fail
  refine (eq_rows _ _ x4 p4 q4 _ (((H4.out.alloc_ _).alloc_ _).drewN m0) (((K4.out.alloc_ _).alloc_ _).drewN m0)).mono ?_
  rintro e w1 ⟨rfl, m1, rfl⟩
  go_wp2_with fail
  go_ret
  exact ⟨rfl, by repeat (first | (with_reducible exact Below.refl _ _) | (with_reducible assumption) | ((with_reducible refine bl_alloc ?_ _ ?_); (focus ((first | omega | (simp <;> omega)); done))) | ((with_reducible refine bl_set ?_ _ ?_); (focus ((first | omega | (simp <;> omega)); done))) | (with_reducible refine below_drewN ?_ _) | (with_reducible refine Below.drew ?_))⟩
theorem markTerrain_any (a0 : Int) (a1 : Int) (a2 : Int) (w : World) (K : Int) (a3' : Value) (x3 : List Int) (p3 : Nat) (h3 : Row 2 w p3 a3' x3) (a4' : Value) (x4 : List Int) (p4 : Nat) (h4 : Row 2 w p4 a4' x4) (hA : Apart a3' a4') (hK0 : 0 ≤ K) (hK : K + x3.length + x4.length ≤ 1000000000) :
    Calls Try.prog 37 #[.agg #[.int .i64 a0, .int .i64 a1, .int .i64 a2, a3', a4'], .int .i64 K] w fun e w' => e = .returned (.int .i64 (K + x3.length + x4.length)) ∧ Row 2 w' p3 a3' (seqFrom (K) x3.length) ∧ Row 2 w' p4 a4' (seqFrom (K + x3.length) x4.length) ∧ Writes w w' (fun g => a3'.ownBlock = some g ∨ a4'.ownBlock = some g) := by
  have H3 := Lib.hid h3
  clear h3
  have H4 := Lib.hid h4
  clear h4
  have HA := Lib.hid hA
  clear hA
  go_enter Try.func37, Try.ntmps37
  go_wp2_with fail
  refine (mark_row _ x3 K p3 _ (H3.out.alloc_ _) hK0 (by omega)).mono ?_
  rintro e w1 ⟨rfl, r1, g1⟩
  have R3 := Lib.hid r1
  have G1 : Hid (Writes w w1 (fun g => a3'.ownBlock = some g ∨ a4'.ownBlock = some g)) := Writes.trans (Writes.of_below (by repeat (first | (with_reducible exact Below.refl _ _) | (with_reducible assumption) | ((with_reducible refine bl_alloc ?_ _ ?_); (focus ((first | omega | (simp <;> omega)); done))) | ((with_reducible refine bl_set ?_ _ ?_); (focus ((first | omega | (simp <;> omega)); done))) | (with_reducible refine below_drewN ?_ _) | (with_reducible refine Below.drew ?_))) _) (Writes.of_grown g1 (fun g h => .inl h))
  have l1 := H3.out.lt
  have c1 : w1.cell? ⟨w.heap.size, 4, none⟩ = some a4' := g1.cell (by simp) (fun h => by have := l1 _ h.symm; simp at this)
  have R4 := Lib.hid ((H4.out.alloc_ (.cells #[.int .i64 a0, .int .i64 a1, .int .i64 a2, a3', a4'] 62)).writes (Writes.of_grown g1 (S := fun g => a3'.ownBlock = some g) (fun g h => h)) (fun g h h' => HA.out g h' h))
  clear r1 g1 l1
  go_wp2_with fail
  refine (mark_row _ x4 (K + x3.length) p4 _ R4.out (by omega) (by omega)).mono ?_
  rintro e w2 ⟨rfl, r2, g2⟩
  have R3' := Lib.hid (R3.out.writes (Writes.of_grown g2 (S := fun g => a4'.ownBlock = some g) (fun g h => h)) (fun g h h' => HA.out g h h'))
  have G2 : Hid (Writes w w2 (fun g => a3'.ownBlock = some g ∨ a4'.ownBlock = some g)) := Writes.trans G1.out (Writes.of_grown g2 (fun g h => .inr h))
  have R4' := Lib.hid r2
  clear r2 g2
  go_wp2_with fail
  go_ret
  exact ⟨rfl, R3'.out, R4'.out, G2.out⟩
theorem szTerrain_fits (a0 : Int) (a1 : Int) (a2 : Int) (v3 : Value) (x3 : List Int) (v4 : Value) (x4 : List Int) (w : World) (B : Nat) (hB : B ≤ w.heap.size) (r3 : Rd w B v3 x3) (r4 : Rd w B v4 x4) (L : Int) (hL0 : (x3.length : Int) + (x4.length : Int) ≤ L) (hL1 : L ≤ 1048576) :
    Calls Try.prog 29 #[.agg #[.int .i64 a0, .int .i64 a1, .int .i64 a2, v3, v4], .int .i64 L] w fun e w' => e = .returned (.int .i64 (L - x3.length - x4.length)) ∧ Below w.heap.size w w' := by
  go_enter Try.func29, Try.ntmps29
  go_wp2_with fail
  refine (sz_fits _ x3 B _ (Rd.below r3 (Below.mono (by repeat (first | (with_reducible exact Below.refl _ _) | (with_reducible assumption) | ((with_reducible refine bl_alloc ?_ _ ?_); (focus ((first | omega | (simp <;> omega)); done))) | ((with_reducible refine bl_set ?_ _ ?_); (focus ((first | omega | (simp <;> omega)); done))) | (with_reducible refine below_drewN ?_ _) | (with_reducible refine Below.drew ?_))) hB)) _ (by omega) (by omega)).mono ?_
  rintro e w1 ⟨rfl, rfl⟩
  go_wp2_with fail
  refine (sz_fits _ x4 B _ (Rd.below r4 (Below.mono (by repeat (first | (with_reducible exact Below.refl _ _) | (with_reducible assumption) | ((with_reducible refine bl_alloc ?_ _ ?_); (focus ((first | omega | (simp <;> omega)); done))) | ((with_reducible refine bl_set ?_ _ ?_); (focus ((first | omega | (simp <;> omega)); done))) | (with_reducible refine below_drewN ?_ _) | (with_reducible refine Below.drew ?_))) hB)) _ (by omega) (by omega)).mono ?_
  rintro e w1 ⟨rfl, rfl⟩
  go_wp2_with fail
  go_ret
  exact ⟨rfl, by repeat (first | (with_reducible exact Below.refl _ _) | (with_reducible assumption) | ((with_reducible refine bl_alloc ?_ _ ?_); (focus ((first | omega | (simp <;> omega)); done))) | ((with_reducible refine bl_set ?_ _ ?_); (focus ((first | omega | (simp <;> omega)); done))) | (with_reducible refine below_drewN ?_ _) | (with_reducible refine Below.drew ?_))⟩
theorem szTerrain_not (a0 : Int) (a1 : Int) (a2 : Int) (v3 : Value) (x3 : List Int) (v4 : Value) (x4 : List Int) (w : World) (B : Nat) (hB : B ≤ w.heap.size) (r3 : Rd w B v3 x3) (r4 : Rd w B v4 x4) (L : Int) (hL0 : L < (x3.length : Int) + (x4.length : Int)) (hL1 : L ≤ 1048576) (hL2 : 0 ≤ L) :
    Calls Try.prog 29 #[.agg #[.int .i64 a0, .int .i64 a1, .int .i64 a2, v3, v4], .int .i64 L] w fun e w' => e = .returned (.int .i64 (-1)) ∧ Below w.heap.size w w' := by
  by_cases g0 : L < (x3.length : Int)
  · go_enter Try.func29, Try.ntmps29
    go_wp2_with fail
    refine (sz_not _ x3 B _ (Rd.below r3 (Below.mono (by repeat (first | (with_reducible exact Below.refl _ _) | (with_reducible assumption) | ((with_reducible refine bl_alloc ?_ _ ?_); (focus ((first | omega | (simp <;> omega)); done))) | ((with_reducible refine bl_set ?_ _ ?_); (focus ((first | omega | (simp <;> omega)); done))) | (with_reducible refine below_drewN ?_ _) | (with_reducible refine Below.drew ?_))) hB)) _ (by omega) (by omega)).mono ?_
    rintro e w1 ⟨rfl, rfl⟩
    go_wp2_with fail
    go_ret
    exact ⟨rfl, by repeat (first | (with_reducible exact Below.refl _ _) | (with_reducible assumption) | ((with_reducible refine bl_alloc ?_ _ ?_); (focus ((first | omega | (simp <;> omega)); done))) | ((with_reducible refine bl_set ?_ _ ?_); (focus ((first | omega | (simp <;> omega)); done))) | (with_reducible refine below_drewN ?_ _) | (with_reducible refine Below.drew ?_))⟩
  go_enter Try.func29, Try.ntmps29
  go_wp2_with fail
  refine (sz_fits _ x3 B _ (Rd.below r3 (Below.mono (by repeat (first | (with_reducible exact Below.refl _ _) | (with_reducible assumption) | ((with_reducible refine bl_alloc ?_ _ ?_); (focus ((first | omega | (simp <;> omega)); done))) | ((with_reducible refine bl_set ?_ _ ?_); (focus ((first | omega | (simp <;> omega)); done))) | (with_reducible refine below_drewN ?_ _) | (with_reducible refine Below.drew ?_))) hB)) _ (by omega) (by omega)).mono ?_
  rintro e w1 ⟨rfl, rfl⟩
  go_wp2_with fail
  refine (sz_not _ x4 B _ (Rd.below r4 (Below.mono (by repeat (first | (with_reducible exact Below.refl _ _) | (with_reducible assumption) | ((with_reducible refine bl_alloc ?_ _ ?_); (focus ((first | omega | (simp <;> omega)); done))) | ((with_reducible refine bl_set ?_ _ ?_); (focus ((first | omega | (simp <;> omega)); done))) | (with_reducible refine below_drewN ?_ _) | (with_reducible refine Below.drew ?_))) hB)) _ (by omega) (by omega)).mono ?_
  rintro e w1 ⟨rfl, rfl⟩
  go_wp2_with fail
  go_ret
  exact ⟨rfl, by repeat (first | (with_reducible exact Below.refl _ _) | (with_reducible assumption) | ((with_reducible refine bl_alloc ?_ _ ?_); (focus ((first | omega | (simp <;> omega)); done))) | ((with_reducible refine bl_set ?_ _ ?_); (focus ((first | omega | (simp <;> omega)); done))) | (with_reducible refine below_drewN ?_ _) | (with_reducible refine Below.drew ?_))⟩
end Go.Proofs.Ytedpdcdmemenhaa
