/-
  Contracts of the reference's lesser and greater of two numbers: min and max themselves. No condition.
-/
import Derived.Test.YtgbehaapmnmifaaRows
import Derived.Test.YtgbehaapmnmifaaLib
namespace Go.Proofs.Ytgbehaapmnmifaa
open Go.RowKit
theorem cMax_any (w : World) (a b : Int) : Calls Try.prog 15 #[.int .i64 a, .int .i64 b] w fun e w' => e = .returned (.int .i64 (max a b)) ∧ w = w' := by
  by_cases h : b < a
  · have e : max a b = a := by omega
    rw [e]
    clear e
    go_enter Try.func15, Try.ntmps15
    go_wp2
    go_ret
    exact ⟨rfl, rfl⟩
  · have e : max a b = b := by omega
    have h' : a ≤ b := by omega
    rw [e]
    clear e h
    go_enter Try.func15, Try.ntmps15
    go_wp2
    go_ret
    exact ⟨rfl, rfl⟩
end Go.Proofs.Ytgbehaapmnmifaa
