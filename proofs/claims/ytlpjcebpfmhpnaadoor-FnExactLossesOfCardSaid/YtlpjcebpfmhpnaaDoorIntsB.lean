/-
  The contracts of the laws' own helpers over slices of int64s once more, with what they leave told as a frame. The conditions are the hypotheses.
-/
import Derived.Test.YtlpjcebpfmhpnaaDoorRows
import Derived.Test.YtlpjcebpfmhpnaaDoorLib
import Derived.Test.YtlpjcebpfmhpnaaDoorInts
namespace Go.Proofs.YtlpjcebpfmhpnaaDoor
open Go.RowKit
set_option linter.unusedVariables false
theorem eq_rowsB (va vb : Value) (xs : List Int) (ba bb : Nat) (w : World) (ha : Row 2 w ba va xs) (hb : Row 2 w bb vb xs) :
    Calls Tryd.prog 21 #[va, vb] w fun e w' => e = .returned (.bool true) ∧ Below w.heap.size w w' :=
  (eq_rows va vb xs ba bb w ha hb).mono fun e w' ⟨he, n, hw⟩ => ⟨he, by rw [hw]; exact below_drewN (Below.refl _ _) n⟩
end Go.Proofs.YtlpjcebpfmhpnaaDoor
