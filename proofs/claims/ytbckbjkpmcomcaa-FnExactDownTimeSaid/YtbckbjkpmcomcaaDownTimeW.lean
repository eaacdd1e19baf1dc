/-
  The walk of FnExactDownTime: it returns true, and of what was there nothing has turned. The conditions are what its arguments' readings give.
-/
import Derived.Test.YtbckbjkpmcomcaaRows
import Derived.Test.YtbckbjkpmcomcaaLib
import Derived.Test.YtbckbjkpmcomcaaInt
namespace Go.Proofs.Ytbckbjkpmcomcaa.fnExactDownTime
open Go.RowKit Go.ChangeShapes Go.WideShapes Go.ChangeAt
set_option linter.unusedVariables false
set_option linter.unusedSimpArgs false

theorem walk (w : World) (a0 : Int) (ia0 : In64 a0) :
    Calls Try.prog 7 #[.int .i64 a0] w fun e w' => e = .returned (.bool true) ∧ Below w.heap.size w w' := by
  have b0 := ia0.lo
  have b1 := ia0.hi
  clear ia0
  by_cases h0 : 0 ≤ a0
  · by_cases h1 : a0 ≤ 1000000
    · go_enter Try.func7, Try.ntmps7
      go_wp2_with (first
        | (go_at_call 41; refine (l01Div_any _ _ (by omega) (by omega) _).mono ?_; rintro e w' ⟨rfl, rfl⟩)
        | (go_at_call 42; refine (divRound_any _ _ (by omega) (by omega) _).mono ?_; rintro e w' ⟨rfl, n, rfl⟩)
        | go_in)
      all_goals
        go_ret
        exact ⟨rfl, below_drewN (Below.refl _ _) _⟩
    · go_enter Try.func7, Try.ntmps7
      go_wp2
      all_goals
        go_ret
        exact ⟨rfl, Below.refl _ _⟩
  · go_enter Try.func7, Try.ntmps7
    go_wp2
    all_goals
      go_ret
      exact ⟨rfl, Below.refl _ _⟩
end Go.Proofs.Ytbckbjkpmcomcaa.fnExactDownTime
