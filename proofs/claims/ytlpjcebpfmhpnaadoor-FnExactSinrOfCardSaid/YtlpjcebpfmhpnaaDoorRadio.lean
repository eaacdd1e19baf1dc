/-
  Contracts of the laws' own helpers over Radio values: copy, size, comparison, marking. The conditions are the hypotheses.
-/
import Derived.Test.YtlpjcebpfmhpnaaDoorRows
import Derived.Test.YtlpjcebpfmhpnaaDoorLib
import Derived.Test.YtlpjcebpfmhpnaaDoorInts
import Derived.Test.YtlpjcebpfmhpnaaDoorModes
namespace Go.Proofs.YtlpjcebpfmhpnaaDoor
open Go.RowKit
set_option linter.unusedSimpArgs false
set_option linter.unusedVariables false
theorem toRadio_any (s0 : ByteArray) (a1 : Int) (a2 : Int) (a3 : Int) (a4 : Int) (v5 : Value) (x5 : List (Int × Int)) (w : World) (B : Nat) (hB : B ≤ w.heap.size) (r5 : RdM w B v5 x5) (h5 : x5.length ≤ 1048576) :
    Calls Tryd.prog 10 #[.agg #[.string s0, .int .i64 a1, .int .i64 a2, .int .i64 a3, .int .i64 a4, v5]] w fun e w' => ∃ A5 n5 c5, e = .returned (.agg #[.string s0, .int .i64 a1, .int .i64 a2, .int .i64 a3, .int .i64 a4, .slice A5 n5 c5]) ∧ RowM 57 w' w.heap.size (.slice A5 n5 c5) x5 ∧ Below w.heap.size w w' := by
  go_enter Tryd.func10, Tryd.ntmps10
  go_wp2_with fail
  refine (mto_row v5 x5 _ B (by simp <;> omega) (RdM.below r5 (Below.mono (by repeat (first | (with_reducible exact Below.refl _ _) | (with_reducible assumption) | ((with_reducible refine bl_alloc ?_ _ ?_); (focus ((first | omega | (simp <;> omega)); done))) | ((with_reducible refine bl_set ?_ _ ?_); (focus ((first | omega | (simp <;> omega)); done))) | (with_reducible refine below_drewN ?_ _) | (with_reducible refine Below.drew ?_))) hB)) h5).mono ?_
  rintro e w0 ⟨A5, n5, c5, rfl, hr, hb⟩
  have HR5 := Lib.hid (RowM.base_le (b' := w.heap.size + 1 + 1 + 1) hr (by simp <;> omega))
  have HB0 := Lib.hid (show Below w.heap.size w w0 by repeat (first | (with_reducible exact Below.refl _ _) | (with_reducible assumption) | ((with_reducible refine bl_alloc ?_ _ ?_); (focus ((first | omega | (simp <;> omega)); done))) | ((with_reducible refine bl_set ?_ _ ?_); (focus ((first | omega | (simp <;> omega)); done))) | (with_reducible refine below_drewN ?_ _) | (with_reducible refine Below.drew ?_) | ((with_reducible refine bl_trans ?_ hb ?_); (focus ((first | omega | (simp <;> omega)); done)))))
  have zc : w.heap.size + 1 + 1 < w0.heap.size := by have := hb.size; simp at this; omega
  have zb : w.heap.size + 1 < w0.heap.size := by omega
  have za : w.heap.size < w0.heap.size := by omega
  obtain ⟨hc, hf⟩ := bcell hb
  clear hr hb
  go_wp2_with fail
  refine bodyPost_ret (v := .agg #[.string s0, .int .i64 a1, .int .i64 a2, .int .i64 a3, .int .i64 a4, .slice A5 n5 c5]) ?_ rfl ?_
  · simp [results, Tryd.results10, go_sem, *]
  refine ⟨A5, n5, c5, rfl, ?_, ?_⟩
  · refine RowM.base_le (base := w.heap.size + 1 + 1 + 1) ?_ (by omega)
    repeat (first | (with_reducible exact HR5.out) | ((with_reducible refine RowM.low ?_ _ ?_); (focus ((first | omega | (simp <;> omega)); done))))
  · repeat (first | (with_reducible exact Below.refl _ _) | (with_reducible assumption) | ((with_reducible refine bl_alloc ?_ _ ?_); (focus ((first | omega | (simp <;> omega)); done))) | ((with_reducible refine bl_set ?_ _ ?_); (focus ((first | omega | (simp <;> omega)); done))) | (with_reducible refine below_drewN ?_ _) | (with_reducible refine Below.drew ?_) | ((with_reducible refine bl_trans ?_ HB0.out ?_); (focus ((first | omega | (simp <;> omega)); done))))
theorem eqRadio_any (s0 : ByteArray) (a1 : Int) (a2 : Int) (a3 : Int) (a4 : Int) (w : World) (a5' b5' : Value) (x5 : List (Int × Int)) (p5 q5 : Nat) (h5 : RowM 57 w p5 a5' x5) (k5 : RowM 57 w q5 b5' x5) :
    Calls Tryd.prog 12 #[.agg #[.string s0, .int .i64 a1, .int .i64 a2, .int .i64 a3, .int .i64 a4, a5'], .agg #[.string s0, .int .i64 a1, .int .i64 a2, .int .i64 a3, .int .i64 a4, b5']] w fun e w' => e = .returned (.bool true) ∧ Below w.heap.size w w' := by
  have H5 := Lib.hid h5
  have K5 := Lib.hid k5
  clear h5 k5
  go_enter Tryd.func12, Tryd.ntmps12
  go_wp2_with fail
  refine (meq_rows _ _ x5 p5 q5 _ ((H5.out.alloc_ _).alloc_ _) ((K5.out.alloc_ _).alloc_ _)).mono ?_
  rintro e w0 ⟨rfl, hb⟩
  go_wp2_with fail
  go_ret
  exact ⟨rfl, by repeat (first | (with_reducible exact Below.refl _ _) | (with_reducible assumption) | ((with_reducible refine bl_alloc ?_ _ ?_); (focus ((first | omega | (simp <;> omega)); done))) | ((with_reducible refine bl_set ?_ _ ?_); (focus ((first | omega | (simp <;> omega)); done))) | (with_reducible refine below_drewN ?_ _) | (with_reducible refine Below.drew ?_) | ((with_reducible refine bl_trans ?_ hb ?_); (focus ((first | omega | (simp <;> omega)); done))))⟩
theorem szRadio_fits (s0 : ByteArray) (a1 : Int) (a2 : Int) (a3 : Int) (a4 : Int) (v5 : Value) (x5 : List (Int × Int)) (w : World) (B : Nat) (hB : B ≤ w.heap.size) (r5 : RdM w B v5 x5) (is0 : s0.size ≤ maxLen) (L : Int) (hL0 : (s0.size : Int) + (x5.length : Int) ≤ L) (hL1 : L ≤ 1048576) :
    Calls Tryd.prog 8 #[.agg #[.string s0, .int .i64 a1, .int .i64 a2, .int .i64 a3, .int .i64 a4, v5], .int .i64 L] w fun e w' => e = .returned (.int .i64 (L - s0.size - x5.length)) ∧ Below w.heap.size w w' := by
  unfold maxLen at is0
  go_enter Tryd.func8, Tryd.ntmps8
  go_wp2_with fail
  refine (msz_fits _ x5 B _ (RdM.below r5 (Below.mono (by repeat (first | (with_reducible exact Below.refl _ _) | (with_reducible assumption) | ((with_reducible refine bl_alloc ?_ _ ?_); (focus ((first | omega | (simp <;> omega)); done))) | ((with_reducible refine bl_set ?_ _ ?_); (focus ((first | omega | (simp <;> omega)); done))) | (with_reducible refine below_drewN ?_ _) | (with_reducible refine Below.drew ?_))) hB)) _ (by omega) (by omega)).mono ?_
  rintro e w1 ⟨rfl, rfl⟩
  go_wp2_with fail
  go_ret
  exact ⟨rfl, by repeat (first | (with_reducible exact Below.refl _ _) | (with_reducible assumption) | ((with_reducible refine bl_alloc ?_ _ ?_); (focus ((first | omega | (simp <;> omega)); done))) | ((with_reducible refine bl_set ?_ _ ?_); (focus ((first | omega | (simp <;> omega)); done))) | (with_reducible refine below_drewN ?_ _) | (with_reducible refine Below.drew ?_))⟩
theorem szRadio_not (s0 : ByteArray) (a1 : Int) (a2 : Int) (a3 : Int) (a4 : Int) (v5 : Value) (x5 : List (Int × Int)) (w : World) (B : Nat) (hB : B ≤ w.heap.size) (r5 : RdM w B v5 x5) (is0 : s0.size ≤ maxLen) (L : Int) (hL0 : L < (s0.size : Int) + (x5.length : Int)) (hL1 : L ≤ 1048576) (hL2 : 0 ≤ L) :
    Calls Tryd.prog 8 #[.agg #[.string s0, .int .i64 a1, .int .i64 a2, .int .i64 a3, .int .i64 a4, v5], .int .i64 L] w fun e w' => e = .returned (.int .i64 (-1)) ∧ Below w.heap.size w w' := by
  unfold maxLen at is0
  by_cases g0 : L < (s0.size : Int)
  · go_enter Tryd.func8, Tryd.ntmps8
    go_wp2_with fail
    go_ret
    exact ⟨rfl, by repeat (first | (with_reducible exact Below.refl _ _) | (with_reducible assumption) | ((with_reducible refine bl_alloc ?_ _ ?_); (focus ((first | omega | (simp <;> omega)); done))) | ((with_reducible refine bl_set ?_ _ ?_); (focus ((first | omega | (simp <;> omega)); done))) | (with_reducible refine below_drewN ?_ _) | (with_reducible refine Below.drew ?_))⟩
  go_enter Tryd.func8, Tryd.ntmps8
  go_wp2_with fail
  refine (msz_not _ x5 B _ (RdM.below r5 (Below.mono (by repeat (first | (with_reducible exact Below.refl _ _) | (with_reducible assumption) | ((with_reducible refine bl_alloc ?_ _ ?_); (focus ((first | omega | (simp <;> omega)); done))) | ((with_reducible refine bl_set ?_ _ ?_); (focus ((first | omega | (simp <;> omega)); done))) | (with_reducible refine below_drewN ?_ _) | (with_reducible refine Below.drew ?_))) hB)) _ (by omega) (by omega)).mono ?_
  rintro e w1 ⟨rfl, rfl⟩
  go_wp2_with fail
  go_ret
  exact ⟨rfl, by repeat (first | (with_reducible exact Below.refl _ _) | (with_reducible assumption) | ((with_reducible refine bl_alloc ?_ _ ?_); (focus ((first | omega | (simp <;> omega)); done))) | ((with_reducible refine bl_set ?_ _ ?_); (focus ((first | omega | (simp <;> omega)); done))) | (with_reducible refine below_drewN ?_ _) | (with_reducible refine Below.drew ?_))⟩
end Go.Proofs.YtlpjcebpfmhpnaaDoor
