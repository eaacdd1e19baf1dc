/-
  Contracts of the laws' own helpers over Profile values: copy, size, comparison, marking. The conditions are the hypotheses.
-/
import Derived.Test.YtedpdcdmemenhaaRows
import Derived.Test.YtedpdcdmemenhaaLib
import Derived.Test.YtedpdcdmemenhaaInts
namespace Go.Proofs.Ytedpdcdmemenhaa
open Go.RowKit
set_option linter.unusedSimpArgs false
set_option linter.unusedVariables false
theorem toProfile_any (a0 : Int) (a1 : Int) (a2 : Int) (v3 : Value) (x3 : List Int) (w : World) (B : Nat) (hB : B ≤ w.heap.size) (r3 : Rd w B v3 x3) (h3 : x3.length ≤ 1048576) :
    Calls Try.prog 24 #[.agg #[.int .i64 a0, .int .i64 a1, .int .i64 a2, v3]] w fun e w' => ∃ A3 n3 c3, e = .returned (.agg #[.int .i64 a0, .int .i64 a1, .int .i64 a2, .slice A3 n3 c3]) ∧ Row 2 w' w.heap.size (.slice A3 n3 c3) x3 ∧ Below w.heap.size w w' := by
  go_enter Try.func24, Try.ntmps24
  go_wp2_with fail
  refine (to_row v3 x3 _ B (by simp <;> omega) (Rd.below r3 (Below.mono (by repeat (first | (with_reducible exact Below.refl _ _) | (with_reducible assumption) | ((with_reducible refine bl_alloc ?_ _ ?_); (focus ((first | omega | (simp <;> omega)); done))) | ((with_reducible refine bl_set ?_ _ ?_); (focus ((first | omega | (simp <;> omega)); done))) | (with_reducible refine below_drewN ?_ _) | (with_reducible refine Below.drew ?_))) hB)) h3).mono ?_
  rintro e w0 ⟨A3, n3, c3, rfl, hr, hb⟩
  have HR3 := Lib.hid (Row.base_le (b' := w.heap.size + 1 + 1 + 1) hr (by simp <;> omega))
  have HB0 := Lib.hid (show Below w.heap.size w w0 by repeat (first | (with_reducible exact Below.refl _ _) | (with_reducible assumption) | ((with_reducible refine bl_alloc ?_ _ ?_); (focus ((first | omega | (simp <;> omega)); done))) | ((with_reducible refine bl_set ?_ _ ?_); (focus ((first | omega | (simp <;> omega)); done))) | (with_reducible refine below_drewN ?_ _) | (with_reducible refine Below.drew ?_) | ((with_reducible refine bl_trans ?_ hb ?_); (focus ((first | omega | (simp <;> omega)); done)))))
  have zc : w.heap.size + 1 + 1 < w0.heap.size := by have := hb.size; simp at this; omega
  have zb : w.heap.size + 1 < w0.heap.size := by omega
  have za : w.heap.size < w0.heap.size := by omega
  obtain ⟨hc, hf⟩ := bcell hb
  clear hr hb
  go_wp2_with fail
  refine bodyPost_ret (v := .agg #[.int .i64 a0, .int .i64 a1, .int .i64 a2, .slice A3 n3 c3]) ?_ rfl ?_
  · simp [results, Try.results24, go_sem, *]
  refine ⟨A3, n3, c3, rfl, ?_, ?_⟩
  · refine Row.base_le (base := w.heap.size + 1 + 1 + 1) ?_ (by omega)
    repeat (first | (with_reducible exact HR3.out) | ((with_reducible refine Row.low ?_ _ ?_); (focus ((first | omega | (simp <;> omega)); done))))
  · repeat (first | (with_reducible exact Below.refl _ _) | (with_reducible assumption) | ((with_reducible refine bl_alloc ?_ _ ?_); (focus ((first | omega | (simp <;> omega)); done))) | ((with_reducible refine bl_set ?_ _ ?_); (focus ((first | omega | (simp <;> omega)); done))) | (with_reducible refine below_drewN ?_ _) | (with_reducible refine Below.drew ?_) | ((with_reducible refine bl_trans ?_ HB0.out ?_); (focus ((first | omega | (simp <;> omega)); done))))
theorem eqProfile_any (a0 : Int) (a1 : Int) (a2 : Int) (w : World) (a3' b3' : Value) (x3 : List Int) (p3 q3 : Nat) (h3 : Row 2 w p3 a3' x3) (k3 : Row 2 w q3 b3' x3) :
    Calls Try.prog 26 #[.agg #[.int .i64 a0, .int .i64 a1, .int .i64 a2, a3'], .agg #[.int .i64 a0, .int .i64 a1, .int .i64 a2, b3']] w fun e w' => e = .returned (.bool true) ∧ Below w.heap.size w w' := by
  have H3 := Lib.hid h3
  have K3 := Lib.hid k3
  clear h3 k3
  go_enter Try.func26, Try.ntmps26
  go_wp2_with fail
  refine (eq_rows _ _ x3 p3 q3 _ ((H3.out.alloc_ _).alloc_ _) ((K3.out.alloc_ _).alloc_ _)).mono ?_
  rintro e w0 ⟨rfl, m0, rfl⟩
  go_wp2_with fail
  go_ret
  exact ⟨rfl, by repeat (first | (with_reducible exact Below.refl _ _) | (with_reducible assumption) | ((with_reducible refine bl_alloc ?_ _ ?_); (focus ((first | omega | (simp <;> omega)); done))) | ((with_reducible refine bl_set ?_ _ ?_); (focus ((first | omega | (simp <;> omega)); done))) | (with_reducible refine below_drewN ?_ _) | (with_reducible refine Below.drew ?_))⟩
theorem markProfile_any (a0 : Int) (a1 : Int) (a2 : Int) (w : World) (K : Int) (a3' : Value) (x3 : List Int) (p3 : Nat) (h3 : Row 2 w p3 a3' x3) (hK0 : 0 ≤ K) (hK : K + x3.length ≤ 1000000000) :
    Calls Try.prog 27 #[.agg #[.int .i64 a0, .int .i64 a1, .int .i64 a2, a3'], .int .i64 K] w fun e w' => e = .returned (.int .i64 (K + x3.length)) ∧ Row 2 w' p3 a3' (seqFrom (K) x3.length) ∧ Writes w w' (fun g => a3'.ownBlock = some g) := by
  have H3 := Lib.hid h3
  clear h3
  go_enter Try.func27, Try.ntmps27
  go_wp2_with fail
  refine (mark_row _ x3 K p3 _ (H3.out.alloc_ _) hK0 (by omega)).mono ?_
  rintro e w1 ⟨rfl, r1, g1⟩
  have R3 := Lib.hid r1
  have G1 : Hid (Writes w w1 (fun g => a3'.ownBlock = some g)) := Writes.trans (Writes.of_below (by repeat (first | (with_reducible exact Below.refl _ _) | (with_reducible assumption) | ((with_reducible refine bl_alloc ?_ _ ?_); (focus ((first | omega | (simp <;> omega)); done))) | ((with_reducible refine bl_set ?_ _ ?_); (focus ((first | omega | (simp <;> omega)); done))) | (with_reducible refine below_drewN ?_ _) | (with_reducible refine Below.drew ?_))) _) (Writes.of_grown g1 (fun g h => h))
  clear r1 g1
  go_wp2_with fail
  go_ret
  exact ⟨rfl, R3.out, G1.out⟩
theorem heldProfile_any (a0 : Int) (a1 : Int) (a2 : Int) (w : World) (K : Int) (a3' : Value) (n3 : Nat) (p3 : Nat) (h3 : Row 2 w p3 a3' (seqFrom (K) n3)) (hK0 : 0 ≤ K) (hK : K + n3 ≤ 1000000000) :
    Calls Try.prog 28 #[.agg #[.int .i64 a0, .int .i64 a1, .int .i64 a2, a3'], .int .i64 K] w fun e w' => e = .returned (.int .i64 (K + n3)) ∧ Below w.heap.size w w' := by
  have H3 := Lib.hid h3
  clear h3
  go_enter Try.func28, Try.ntmps28
  go_wp2_with fail
  refine (held_row _ (K) n3 p3 _ (H3.out.alloc_ _) (by omega) (by omega)).mono ?_
  rintro e w0 ⟨rfl, rfl⟩
  go_wp2_with fail
  go_ret
  exact ⟨rfl, by repeat (first | (with_reducible exact Below.refl _ _) | (with_reducible assumption) | ((with_reducible refine bl_alloc ?_ _ ?_); (focus ((first | omega | (simp <;> omega)); done))) | ((with_reducible refine bl_set ?_ _ ?_); (focus ((first | omega | (simp <;> omega)); done))) | (with_reducible refine below_drewN ?_ _) | (with_reducible refine Below.drew ?_))⟩
theorem szProfile_fits (a0 : Int) (a1 : Int) (a2 : Int) (v3 : Value) (x3 : List Int) (w : World) (B : Nat) (hB : B ≤ w.heap.size) (r3 : Rd w B v3 x3) (L : Int) (hL0 : (x3.length : Int) ≤ L) (hL1 : L ≤ 1048576) :
    Calls Try.prog 22 #[.agg #[.int .i64 a0, .int .i64 a1, .int .i64 a2, v3], .int .i64 L] w fun e w' => e = .returned (.int .i64 (L - x3.length)) ∧ Below w.heap.size w w' := by
  go_enter Try.func22, Try.ntmps22
  go_wp2_with fail
  refine (sz_fits _ x3 B _ (Rd.below r3 (Below.mono (by repeat (first | (with_reducible exact Below.refl _ _) | (with_reducible assumption) | ((with_reducible refine bl_alloc ?_ _ ?_); (focus ((first | omega | (simp <;> omega)); done))) | ((with_reducible refine bl_set ?_ _ ?_); (focus ((first | omega | (simp <;> omega)); done))) | (with_reducible refine below_drewN ?_ _) | (with_reducible refine Below.drew ?_))) hB)) _ (by omega) (by omega)).mono ?_
  rintro e w1 ⟨rfl, rfl⟩
  go_wp2_with fail
  go_ret
  exact ⟨rfl, by repeat (first | (with_reducible exact Below.refl _ _) | (with_reducible assumption) | ((with_reducible refine bl_alloc ?_ _ ?_); (focus ((first | omega | (simp <;> omega)); done))) | ((with_reducible refine bl_set ?_ _ ?_); (focus ((first | omega | (simp <;> omega)); done))) | (with_reducible refine below_drewN ?_ _) | (with_reducible refine Below.drew ?_))⟩
theorem szProfile_not (a0 : Int) (a1 : Int) (a2 : Int) (v3 : Value) (x3 : List Int) (w : World) (B : Nat) (hB : B ≤ w.heap.size) (r3 : Rd w B v3 x3) (L : Int) (hL0 : L < (x3.length : Int)) (hL1 : L ≤ 1048576) (hL2 : 0 ≤ L) :
    Calls Try.prog 22 #[.agg #[.int .i64 a0, .int .i64 a1, .int .i64 a2, v3], .int .i64 L] w fun e w' => e = .returned (.int .i64 (-1)) ∧ Below w.heap.size w w' := by
  go_enter Try.func22, Try.ntmps22
  go_wp2_with fail
  refine (sz_not _ x3 B _ (Rd.below r3 (Below.mono (by repeat (first | (with_reducible exact Below.refl _ _) | (with_reducible assumption) | ((with_reducible refine bl_alloc ?_ _ ?_); (focus ((first | omega | (simp <;> omega)); done))) | ((with_reducible refine bl_set ?_ _ ?_); (focus ((first | omega | (simp <;> omega)); done))) | (with_reducible refine below_drewN ?_ _) | (with_reducible refine Below.drew ?_))) hB)) _ (by omega) (by omega)).mono ?_
  rintro e w1 ⟨rfl, rfl⟩
  go_wp2_with fail
  go_ret
  exact ⟨rfl, by repeat (first | (with_reducible exact Below.refl _ _) | (with_reducible assumption) | ((with_reducible refine bl_alloc ?_ _ ?_); (focus ((first | omega | (simp <;> omega)); done))) | ((with_reducible refine bl_set ?_ _ ?_); (focus ((first | omega | (simp <;> omega)); done))) | (with_reducible refine below_drewN ?_ _) | (with_reducible refine Below.drew ?_))⟩
end Go.Proofs.Ytedpdcdmemenhaa
