/-
  The contracts of the laws' own helpers over slices of int64s once more, with what they leave told as a frame. The conditions are the hypotheses.
-/
import Derived.Test.YtampjgfddakdoaaDoorRows
import Derived.Test.YtampjgfddakdoaaDoorLib
import Derived.Test.YtampjgfddakdoaaDoorInts
namespace Go.Proofs.YtampjgfddakdoaaDoor
open Go.RowKit
set_option linter.unusedVariables false
theorem eq_rowsB (va vb : Value) (xs : List Int) (ba bb : Nat) (w : World) (ha : Row 2 w ba va xs) (hb : Row 2 w bb vb xs) :
    Calls Tryd.prog 27 #[va, vb] w fun e w' => e = .returned (.bool true) ∧ Below w.heap.size w w' :=
  (eq_rows va vb xs ba bb w ha hb).mono fun e w' ⟨he, n, hw⟩ => ⟨he, by rw [hw]; exact below_drewN (Below.refl _ _) n⟩
theorem mark_rowW (v : Value) (xs : List Int) (K : Int) (b : Nat) (w : World) (h : Row 2 w b v xs) (h0 : 0 ≤ K) (h1 : K + xs.length ≤ 1000000000) :
    Calls Tryd.prog 28 #[v, .int .i64 K] w fun e w' => e = .returned (.int .i64 (K + xs.length)) ∧ Row 2 w' b v (seqFrom K xs.length) ∧ Writes w w' (fun g => v.ownBlock = some g) :=
  (mark_row v xs K b w h h0 h1).mono fun e w' ⟨he, hr, hg⟩ => ⟨he, hr, Writes.of_grown hg (fun g h => h)⟩
theorem held_rowB (v : Value) (K : Int) (n : Nat) (b : Nat) (w : World) (h : Row 2 w b v (seqFrom K n)) (h0 : 0 ≤ K) (h1 : K + n ≤ 1000000000) :
    Calls Tryd.prog 29 #[v, .int .i64 K] w fun e w' => e = .returned (.int .i64 (K + n)) ∧ Below w.heap.size w w' :=
  (held_row v K n b w h h0 h1).mono fun e w' ⟨he, hw⟩ => ⟨he, by rw [← hw]; exact Below.refl _ _⟩
end Go.Proofs.YtampjgfddakdoaaDoor
