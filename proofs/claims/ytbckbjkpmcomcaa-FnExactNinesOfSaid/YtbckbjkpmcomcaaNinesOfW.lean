/-
  The walk of FnExactNinesOf: it returns true, and of what was there nothing has turned. The conditions are what its arguments' readings give.
-/
import Derived.Test.YtbckbjkpmcomcaaRows
import Derived.Test.YtbckbjkpmcomcaaLib
namespace Go.Proofs.Ytbckbjkpmcomcaa.fnExactNinesOf
open Go.RowKit Go.ChangeShapes Go.WideShapes Go.ChangeAt
set_option linter.unusedVariables false
set_option linter.unusedSimpArgs false

theorem seven (a : Int) (h0 : 0 ≤ a) (h1 : a ≤ 1000000) : (100000 < a) ∨ (a ≤ 100000 ∧ 10000 < a) ∨ (a ≤ 10000 ∧ 1000 < a) ∨ (a ≤ 1000 ∧ 100 < a) ∨ (a ≤ 100 ∧ 10 < a) ∨ (a ≤ 10 ∧ 1 < a) ∨ a ≤ 1 := by omega
theorem walk (w : World) (a0 : Int) (ia0 : In64 a0) :
    Calls Try.prog 5 #[.int .i64 a0] w fun e w' => e = .returned (.bool true) ∧ Below w.heap.size w w' := by
  have b0 := ia0.lo
  have b1 := ia0.hi
  clear ia0
  by_cases h0 : 0 ≤ a0
  · by_cases h1 : a0 ≤ 1000000
    · rcases seven a0 h0 h1 with h | ⟨h, h'⟩ | ⟨h, h'⟩ | ⟨h, h'⟩ | ⟨h, h'⟩ | ⟨h, h'⟩ | h
      all_goals
        go_enter Try.func5, Try.ntmps5
        go_wp2_with (first | ((with_reducible refine wp_loop_rounds 7 ?_); rw [rounds_succ]) | rw [rounds_succ] | go_in)
        go_ret
        exact ⟨rfl, Below.refl _ _⟩
    · go_enter Try.func5, Try.ntmps5
      go_wp2
      all_goals
        go_ret
        exact ⟨rfl, Below.refl _ _⟩
  · go_enter Try.func5, Try.ntmps5
    go_wp2
    all_goals
      go_ret
      exact ⟨rfl, Below.refl _ _⟩
end Go.Proofs.Ytbckbjkpmcomcaa.fnExactNinesOf
