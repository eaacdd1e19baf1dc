/-
  Contracts of the functions that give a table's value between its rows: the program's over rows of pairs, the reference's over two lists. The tables have at least two rows, of numbers of at most two millions; the reference's rises.
-/
import Derived.Test.YtgbehaapmnmifaaLine
namespace Go.Proofs.Ytgbehaapmnmifaa
open Go.RowKit
set_option linter.unusedSimpArgs false
set_option linter.unusedVariables false
theorem getD_mem {ps : List (Int × Int)} {k : Nat} (h : k < ps.length) : ps.getD k (0, 0) ∈ ps := by
  rw [show ps.getD k (0, 0) = ps[k] by simp [List.getD, h]]
  exact List.getElem_mem h
end Go.Proofs.Ytgbehaapmnmifaa
