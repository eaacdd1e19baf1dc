/-
  Contracts of the laws' own helpers over Radio values: copy, size, comparison, marking. The conditions are the hypotheses.
-/
import Derived.Test.YtampjgfddakdoaaDoorRows
import Derived.Test.YtampjgfddakdoaaDoorLib
import Derived.Test.YtampjgfddakdoaaDoorInts
import Derived.Test.YtampjgfddakdoaaDoorModes
import Derived.Test.YtampjgfddakdoaaDoorModesM
namespace Go.Proofs.YtampjgfddakdoaaDoor
open Go.RowKit
set_option linter.unusedSimpArgs false
set_option linter.unusedVariables false
theorem eqRadio_any (s0 : ByteArray) (a1 : Int) (a2 : Int) (a3 : Int) (a4 : Int) (w : World) (a5' b5' : Value) (x5 : List (Int × Int)) (p5 q5 : Nat) (h5 : RowM 57 w p5 a5' x5) (k5 : RowM 57 w q5 b5' x5) :
    Calls Tryd.prog 13 #[.agg #[.string s0, .int .i64 a1, .int .i64 a2, .int .i64 a3, .int .i64 a4, a5'], .agg #[.string s0, .int .i64 a1, .int .i64 a2, .int .i64 a3, .int .i64 a4, b5']] w fun e w' => e = .returned (.bool true) ∧ Below w.heap.size w w' := by
  have H5 := Lib.hid h5
  have K5 := Lib.hid k5
  clear h5 k5
  go_enter Tryd.func13, Tryd.ntmps13
  go_wp2_with fail
  refine (meq_rows _ _ x5 p5 q5 _ ((H5.out.alloc_ _).alloc_ _) ((K5.out.alloc_ _).alloc_ _)).mono ?_
  rintro e w0 ⟨rfl, hb⟩
  go_wp2_with fail
  go_ret
  exact ⟨rfl, by repeat (first | (with_reducible exact Below.refl _ _) | (with_reducible assumption) | ((with_reducible refine bl_alloc ?_ _ ?_); (focus ((first | omega | (simp <;> omega)); done))) | ((with_reducible refine bl_set ?_ _ ?_); (focus ((first | omega | (simp <;> omega)); done))) | (with_reducible refine below_drewN ?_ _) | (with_reducible refine Below.drew ?_) | ((with_reducible refine bl_trans ?_ hb ?_); (focus ((first | omega | (simp <;> omega)); done))))⟩
theorem markRadio_any (s0 : ByteArray) (a1 : Int) (a2 : Int) (a3 : Int) (a4 : Int) (w : World) (K : Int) (a5' : Value) (x5 : List (Int × Int)) (p5 : Nat) (h5 : RowM 57 w p5 a5' x5) (hK0 : 0 ≤ K) (hK : K + 2 * x5.length ≤ 1000000000) :
    Calls Tryd.prog 14 #[.agg #[.string s0, .int .i64 a1, .int .i64 a2, .int .i64 a3, .int .i64 a4, a5'], .int .i64 K] w fun e w' => e = .returned (.int .i64 (K + 2 * x5.length)) ∧ RowM 57 w' p5 a5' (seqFromM (K) x5.length) ∧ Writes w w' (fun g => a5'.ownBlock = some g) := by
  have H5 := Lib.hid h5
  clear h5
  go_enter Tryd.func14, Tryd.ntmps14
  go_wp2_with fail
  refine (mmark_row _ x5 K p5 _ (H5.out.alloc_ _) hK0 (by omega)).mono ?_
  rintro e w1 ⟨rfl, r1, g1⟩
  have R5 := Lib.hid r1
  have G1 : Hid (Writes w w1 (fun g => a5'.ownBlock = some g)) := Writes.trans (Writes.of_below (by repeat (first | (with_reducible exact Below.refl _ _) | (with_reducible assumption) | ((with_reducible refine bl_alloc ?_ _ ?_); (focus ((first | omega | (simp <;> omega)); done))) | ((with_reducible refine bl_set ?_ _ ?_); (focus ((first | omega | (simp <;> omega)); done))) | (with_reducible refine below_drewN ?_ _) | (with_reducible refine Below.drew ?_))) _) (Writes.of_grown g1 (fun g h => h))
  clear r1 g1
  go_wp2_with fail
  go_ret
  exact ⟨rfl, R5.out, G1.out⟩
theorem heldRadio_any (s0 : ByteArray) (a1 : Int) (a2 : Int) (a3 : Int) (a4 : Int) (w : World) (K : Int) (a5' : Value) (n5 : Nat) (p5 : Nat) (h5 : RowM 57 w p5 a5' (seqFromM (K) n5)) (hK0 : 0 ≤ K) (hK : K + 2 * n5 ≤ 1000000000) :
    Calls Tryd.prog 15 #[.agg #[.string s0, .int .i64 a1, .int .i64 a2, .int .i64 a3, .int .i64 a4, a5'], .int .i64 K] w fun e w' => e = .returned (.int .i64 (K + 2 * n5)) ∧ Below w.heap.size w w' := by
  have H5 := Lib.hid h5
  clear h5
  go_enter Tryd.func15, Tryd.ntmps15
  go_wp2_with fail
  refine (mheld_row _ (K) n5 p5 _ (H5.out.alloc_ _) (by omega) (by omega)).mono ?_
  rintro e w0 ⟨rfl, hb⟩
  go_wp2_with fail
  go_ret
  exact ⟨rfl, by repeat (first | (with_reducible exact Below.refl _ _) | (with_reducible assumption) | ((with_reducible refine bl_alloc ?_ _ ?_); (focus ((first | omega | (simp <;> omega)); done))) | ((with_reducible refine bl_set ?_ _ ?_); (focus ((first | omega | (simp <;> omega)); done))) | (with_reducible refine below_drewN ?_ _) | (with_reducible refine Below.drew ?_) | ((with_reducible refine bl_trans ?_ hb ?_); (focus ((first | omega | (simp <;> omega)); done))))⟩
end Go.Proofs.YtampjgfddakdoaaDoor
