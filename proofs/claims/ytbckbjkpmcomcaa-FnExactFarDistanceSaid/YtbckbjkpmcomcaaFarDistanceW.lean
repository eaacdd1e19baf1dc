/-
  The walk of FnExactFarDistance: it returns true, and of what was there nothing has turned. The conditions are what its arguments' readings give.
-/
import Derived.Test.YtbckbjkpmcomcaaRows
import Derived.Test.YtbckbjkpmcomcaaLib
namespace Go.Proofs.Ytbckbjkpmcomcaa.fnExactFarDistance
open Go.RowKit Go.ChangeShapes Go.WideShapes Go.ChangeAt
set_option linter.unusedVariables false
set_option linter.unusedSimpArgs false

theorem walk (w : World) (a0 : Int) (ia0 : In64 a0) (a1 : Int) (ia1 : In64 a1) :
    Calls Try.prog 3 #[.int .i64 a0, .int .i64 a1] w fun e w' => e = .returned (.bool true) ∧ Below w.heap.size w w' := by
  have b0 := ia0.lo
  have b1 := ia0.hi
  have b2 := ia1.lo
  have b3 := ia1.hi
  clear ia0 ia1
  go_enter Try.func3, Try.ntmps3
  go_wp2
  all_goals
    go_ret
    exact ⟨rfl, Below.refl _ _⟩
end Go.Proofs.Ytbckbjkpmcomcaa.fnExactFarDistance
