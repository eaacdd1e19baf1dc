/-
  Contracts of the reference's lesser and greater of two numbers: min and max themselves. No condition.
-/
import Derived.Test.YtedpdcdmemenhaaDoorRows
import Derived.Test.YtedpdcdmemenhaaDoorLib
namespace Go.Proofs.YtedpdcdmemenhaaDoor
open Go.RowKit
theorem cMin_any (w : World) (a b : Int) : Calls Tryd.prog 44 #[.int .i64 a, .int .i64 b] w fun e w' => e = .returned (.int .i64 (min a b)) ∧ w = w' := by
  by_cases h : a < b
  · have e : min a b = a := by omega
    rw [e]
    clear e
    go_enter Tryd.func44, Tryd.ntmps44
    go_wp2
    go_ret
    exact ⟨rfl, rfl⟩
  · have e : min a b = b := by omega
    have h' : b ≤ a := by omega
    rw [e]
    clear e h
    go_enter Tryd.func44, Tryd.ntmps44
    go_wp2
    go_ret
    exact ⟨rfl, rfl⟩
end Go.Proofs.YtedpdcdmemenhaaDoor
