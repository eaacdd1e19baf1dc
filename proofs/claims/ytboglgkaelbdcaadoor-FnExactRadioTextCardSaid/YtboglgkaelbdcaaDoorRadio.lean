/-
  Contracts of the laws' own helpers over Radio values: copy, size, comparison, marking. The conditions are the hypotheses.
-/
import Derived.Test.YtboglgkaelbdcaaDoorRows
import Derived.Test.YtboglgkaelbdcaaDoorLib
import Derived.Test.YtboglgkaelbdcaaDoorInts
import Derived.Test.YtboglgkaelbdcaaDoorModes
import Derived.Test.YtboglgkaelbdcaaDoorModesM
namespace Go.Proofs.YtboglgkaelbdcaaDoor
open Go.RowKit
set_option linter.unusedSimpArgs false
set_option linter.unusedVariables false
theorem toRadio_any (s0 : ByteArray) (a1 : Int) (a2 : Int) (a3 : Int) (a4 : Int) (v5 : Value) (x5 : List (Int × Int)) (w : World) (B : Nat) (hB : B ≤ w.heap.size) (r5 : RdM w B v5 x5) (h5 : x5.length ≤ 1048576) :
    Calls Tryd.prog 20 #[.agg #[.string s0, .int .i64 a1, .int .i64 a2, .int .i64 a3, .int .i64 a4, v5]] w fun e w' => ∃ A5 n5 c5, e = .returned (.agg #[.string s0, .int .i64 a1, .int .i64 a2, .int .i64 a3, .int .i64 a4, .slice A5 n5 c5]) ∧ RowM 85 w' w.heap.size (.slice A5 n5 c5) x5 ∧ Below w.heap.size w w' := by
  go_enter Tryd.func20, Tryd.ntmps20
  go_wp2_with fail
  refine (mto_row v5 x5 _ B (by simp <;> omega) (RdM.below r5 (Below.mono (by repeat (first | (with_reducible exact Below.refl _ _) | (with_reducible assumption) | ((with_reducible refine bl_alloc ?_ _ ?_); (focus ((first | omega | (simp <;> omega)); done))) | ((with_reducible refine bl_set ?_ _ ?_); (focus ((first | omega | (simp <;> omega)); done))) | (with_reducible refine below_drewN ?_ _) | (with_reducible refine Below.drew ?_))) hB)) h5).mono ?_
  rintro e w0 ⟨A5, n5, c5, rfl, hr, hb⟩
  have HR5 := Lib.hid (RowM.base_le (b' := w.heap.size + 1 + 1 + 1) hr (by simp <;> omega))
  have HB0 := Lib.hid (show Below w.heap.size w w0 by repeat (first | (with_reducible exact Below.refl _ _) | (with_reducible assumption) | ((with_reducible refine bl_alloc ?_ _ ?_); (focus ((first | omega | (simp <;> omega)); done))) | ((with_reducible refine bl_set ?_ _ ?_); (focus ((first | omega | (simp <;> omega)); done))) | (with_reducible refine below_drewN ?_ _) | (with_reducible refine Below.drew ?_) | ((with_reducible refine bl_trans ?_ hb ?_); (focus ((first | omega | (simp <;> omega)); done)))))
  have zc : w.heap.size + 1 + 1 < w0.heap.size := by have := hb.size; simp at this; omega
  have zb : w.heap.size + 1 < w0.heap.size := by omega
  have za : w.heap.size < w0.heap.size := by omega
  obtain ⟨hc, hf⟩ := bcell hb
  clear hr hb
  go_wp2_with fail
  refine bodyPost_ret (v := .agg #[.string s0, .int .i64 a1, .int .i64 a2, .int .i64 a3, .int .i64 a4, .slice A5 n5 c5]) ?_ rfl ?_
  · simp [results, Tryd.results20, go_sem, *]
  refine ⟨A5, n5, c5, rfl, ?_, ?_⟩
  · refine RowM.base_le (base := w.heap.size + 1 + 1 + 1) ?_ (by omega)
    repeat (first | (with_reducible exact HR5.out) | ((with_reducible refine RowM.low ?_ _ ?_); (focus ((first | omega | (simp <;> omega)); done))))
  · repeat (first | (with_reducible exact Below.refl _ _) | (with_reducible assumption) | ((with_reducible refine bl_alloc ?_ _ ?_); (focus ((first | omega | (simp <;> omega)); done))) | ((with_reducible refine bl_set ?_ _ ?_); (focus ((first | omega | (simp <;> omega)); done))) | (with_reducible refine below_drewN ?_ _) | (with_reducible refine Below.drew ?_) | ((with_reducible refine bl_trans ?_ HB0.out ?_); (focus ((first | omega | (simp <;> omega)); done))))
theorem eqRadio_any (s0 : ByteArray) (a1 : Int) (a2 : Int) (a3 : Int) (a4 : Int) (w : World) (a5' b5' : Value) (x5 : List (Int × Int)) (p5 q5 : Nat) (h5 : RowM 85 w p5 a5' x5) (k5 : RowM 85 w q5 b5' x5) :
    Calls Tryd.prog 22 #[.agg #[.string s0, .int .i64 a1, .int .i64 a2, .int .i64 a3, .int .i64 a4, a5'], .agg #[.string s0, .int .i64 a1, .int .i64 a2, .int .i64 a3, .int .i64 a4, b5']] w fun e w' => e = .returned (.bool true) ∧ Below w.heap.size w w' := by
  have H5 := Lib.hid h5
  have K5 := Lib.hid k5
  clear h5 k5
  go_enter Tryd.func22, Tryd.ntmps22
  go_wp2_with fail
  refine (meq_rows _ _ x5 p5 q5 _ ((H5.out.alloc_ _).alloc_ _) ((K5.out.alloc_ _).alloc_ _)).mono ?_
  rintro e w0 ⟨rfl, hb⟩
  go_wp2_with fail
  go_ret
  exact ⟨rfl, by repeat (first | (with_reducible exact Below.refl _ _) | (with_reducible assumption) | ((with_reducible refine bl_alloc ?_ _ ?_); (focus ((first | omega | (simp <;> omega)); done))) | ((with_reducible refine bl_set ?_ _ ?_); (focus ((first | omega | (simp <;> omega)); done))) | (with_reducible refine below_drewN ?_ _) | (with_reducible refine Below.drew ?_) | ((with_reducible refine bl_trans ?_ hb ?_); (focus ((first | omega | (simp <;> omega)); done))))⟩
theorem markRadio_any (s0 : ByteArray) (a1 : Int) (a2 : Int) (a3 : Int) (a4 : Int) (w : World) (K : Int) (a5' : Value) (x5 : List (Int × Int)) (p5 : Nat) (h5 : RowM 85 w p5 a5' x5) (hK0 : 0 ≤ K) (hK : K + 2 * x5.length ≤ 1000000000) :
    Calls Tryd.prog 34 #[.agg #[.string s0, .int .i64 a1, .int .i64 a2, .int .i64 a3, .int .i64 a4, a5'], .int .i64 K] w fun e w' => e = .returned (.int .i64 (K + 2 * x5.length)) ∧ RowM 85 w' p5 a5' (seqFromM (K) x5.length) ∧ Writes w w' (fun g => a5'.ownBlock = some g) := by
  have H5 := Lib.hid h5
  clear h5
  go_enter Tryd.func34, Tryd.ntmps34
  go_wp2_with fail
  refine (mmark_row _ x5 K p5 _ (H5.out.alloc_ _) hK0 (by omega)).mono ?_
  rintro e w1 ⟨rfl, r1, g1⟩
  have R5 := Lib.hid r1
  have G1 : Hid (Writes w w1 (fun g => a5'.ownBlock = some g)) := Writes.trans (Writes.of_below (by repeat (first | (with_reducible exact Below.refl _ _) | (with_reducible assumption) | ((with_reducible refine bl_alloc ?_ _ ?_); (focus ((first | omega | (simp <;> omega)); done))) | ((with_reducible refine bl_set ?_ _ ?_); (focus ((first | omega | (simp <;> omega)); done))) | (with_reducible refine below_drewN ?_ _) | (with_reducible refine Below.drew ?_))) _) (Writes.of_grown g1 (fun g h => h))
  clear r1 g1
  go_wp2_with fail
  go_ret
  exact ⟨rfl, R5.out, G1.out⟩
theorem heldRadio_any (s0 : ByteArray) (a1 : Int) (a2 : Int) (a3 : Int) (a4 : Int) (w : World) (K : Int) (a5' : Value) (n5 : Nat) (p5 : Nat) (h5 : RowM 85 w p5 a5' (seqFromM (K) n5)) (hK0 : 0 ≤ K) (hK : K + 2 * n5 ≤ 1000000000) :
    Calls Tryd.prog 35 #[.agg #[.string s0, .int .i64 a1, .int .i64 a2, .int .i64 a3, .int .i64 a4, a5'], .int .i64 K] w fun e w' => e = .returned (.int .i64 (K + 2 * n5)) ∧ Below w.heap.size w w' := by
  have H5 := Lib.hid h5
  clear h5
  go_enter Tryd.func35, Tryd.ntmps35
  go_wp2_with fail
  refine (mheld_row _ (K) n5 p5 _ (H5.out.alloc_ _) (by omega) (by omega)).mono ?_
  rintro e w0 ⟨rfl, hb⟩
  go_wp2_with fail
  go_ret
  exact ⟨rfl, by repeat (first | (with_reducible exact Below.refl _ _) | (with_reducible assumption) | ((with_reducible refine bl_alloc ?_ _ ?_); (focus ((first | omega | (simp <;> omega)); done))) | ((with_reducible refine bl_set ?_ _ ?_); (focus ((first | omega | (simp <;> omega)); done))) | (with_reducible refine below_drewN ?_ _) | (with_reducible refine Below.drew ?_) | ((with_reducible refine bl_trans ?_ hb ?_); (focus ((first | omega | (simp <;> omega)); done))))⟩
theorem szRadio_fits (s0 : ByteArray) (a1 : Int) (a2 : Int) (a3 : Int) (a4 : Int) (v5 : Value) (x5 : List (Int × Int)) (w : World) (B : Nat) (hB : B ≤ w.heap.size) (r5 : RdM w B v5 x5) (is0 : s0.size ≤ maxLen) (L : Int) (hL0 : (s0.size : Int) + (x5.length : Int) ≤ L) (hL1 : L ≤ 1048576) :
    Calls Tryd.prog 18 #[.agg #[.string s0, .int .i64 a1, .int .i64 a2, .int .i64 a3, .int .i64 a4, v5], .int .i64 L] w fun e w' => e = .returned (.int .i64 (L - s0.size - x5.length)) ∧ Below w.heap.size w w' := by
  unfold maxLen at is0
  go_enter Tryd.func18, Tryd.ntmps18
  go_wp2_with fail
  refine (msz_fits _ x5 B _ (RdM.below r5 (Below.mono (by repeat (first | (with_reducible exact Below.refl _ _) | (with_reducible assumption) | ((with_reducible refine bl_alloc ?_ _ ?_); (focus ((first | omega | (simp <;> omega)); done))) | ((with_reducible refine bl_set ?_ _ ?_); (focus ((first | omega | (simp <;> omega)); done))) | (with_reducible refine below_drewN ?_ _) | (with_reducible refine Below.drew ?_))) hB)) _ (by omega) (by omega)).mono ?_
  rintro e w1 ⟨rfl, rfl⟩
  go_wp2_with fail
  go_ret
  exact ⟨rfl, by repeat (first | (with_reducible exact Below.refl _ _) | (with_reducible assumption) | ((with_reducible refine bl_alloc ?_ _ ?_); (focus ((first | omega | (simp <;> omega)); done))) | ((with_reducible refine bl_set ?_ _ ?_); (focus ((first | omega | (simp <;> omega)); done))) | (with_reducible refine below_drewN ?_ _) | (with_reducible refine Below.drew ?_))⟩
theorem szRadio_not (s0 : ByteArray) (a1 : Int) (a2 : Int) (a3 : Int) (a4 : Int) (v5 : Value) (x5 : List (Int × Int)) (w : World) (B : Nat) (hB : B ≤ w.heap.size) (r5 : RdM w B v5 x5) (is0 : s0.size ≤ maxLen) (L : Int) (hL0 : L < (s0.size : Int) + (x5.length : Int)) (hL1 : L ≤ 1048576) (hL2 : 0 ≤ L) :
    Calls Tryd.prog 18 #[.agg #[.string s0, .int .i64 a1, .int .i64 a2, .int .i64 a3, .int .i64 a4, v5], .int .i64 L] w fun e w' => e = .returned (.int .i64 (-1)) ∧ Below w.heap.size w w' := by
  unfold maxLen at is0
  by_cases g0 : L < (s0.size : Int)
  · go_enter Tryd.func18, Tryd.ntmps18
    go_wp2_with fail
    go_ret
    exact ⟨rfl, by repeat (first | (with_reducible exact Below.refl _ _) | (with_reducible assumption) | ((with_reducible refine bl_alloc ?_ _ ?_); (focus ((first | omega | (simp <;> omega)); done))) | ((with_reducible refine bl_set ?_ _ ?_); (focus ((first | omega | (simp <;> omega)); done))) | (with_reducible refine below_drewN ?_ _) | (with_reducible refine Below.drew ?_))⟩
  go_enter Tryd.func18, Tryd.ntmps18
  go_wp2_with fail
  refine (msz_not _ x5 B _ (RdM.below r5 (Below.mono (by repeat (first | (with_reducible exact Below.refl _ _) | (with_reducible assumption) | ((with_reducible refine bl_alloc ?_ _ ?_); (focus ((first | omega | (simp <;> omega)); done))) | ((with_reducible refine bl_set ?_ _ ?_); (focus ((first | omega | (simp <;> omega)); done))) | (with_reducible refine below_drewN ?_ _) | (with_reducible refine Below.drew ?_))) hB)) _ (by omega) (by omega)).mono ?_
  rintro e w1 ⟨rfl, rfl⟩
  go_wp2_with fail
  go_ret
  exact ⟨rfl, by repeat (first | (with_reducible exact Below.refl _ _) | (with_reducible assumption) | ((with_reducible refine bl_alloc ?_ _ ?_); (focus ((first | omega | (simp <;> omega)); done))) | ((with_reducible refine bl_set ?_ _ ?_); (focus ((first | omega | (simp <;> omega)); done))) | (with_reducible refine below_drewN ?_ _) | (with_reducible refine Below.drew ?_))⟩
end Go.Proofs.YtboglgkaelbdcaaDoor
