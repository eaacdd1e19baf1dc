/-
  Contracts of the functions on integers that this seat's laws call: the absolute value, nearest quotients and lines. Each holds under the bounds that it states.
-/
import Derived.Test.YtgbehaapmnmifaaRows
import Derived.Test.YtgbehaapmnmifaaLib
import Derived.Test.YtgbehaapmnmifaaMath
import Derived.Deep.QuietTactic
import Derived.BigQuiet
namespace Go.Proofs.Ytgbehaapmnmifaa
open Go.RowKit
theorem quiet_left {P : Program} {f : FuncId} {args : Array Value} {w : World} {n : Nat} {v : Value}
    (h : Calls P f args (w.drewN n) fun e w' => e = .returned v ∧ w.drewN n = w') : Calls P f args (w.drewN n) fun e w'' => e = .returned v ∧ ∃ m, w'' = w.drewN m :=
  h.mono fun _ _ ⟨he, hm⟩ => ⟨he, n, hm.symm⟩
theorem quiet_addl {P : Program} {f : FuncId} {args : Array Value} {w : World} {a n : Nat} {v : Value}
    (h : Calls P f args (w.drewN (a + n)) fun e w' => e = .returned v ∧ w.drewN (a + n) = w') : Calls P f args (w.drewN (a + n)) fun e w'' => e = .returned v ∧ ∃ m, w'' = w.drewN (a + m) :=
  h.mono fun _ _ ⟨he, hm⟩ => ⟨he, n, hm.symm⟩
theorem quiet_addd {P : Program} {f : FuncId} {args : Array Value} {w : World} {a n : Nat} {v : Value}
    (h : Calls P f args (w.drewN (a + n)) fun e w' => e = .returned v ∧ ∃ m, w' = (w.drewN (a + n)).drewN m) : Calls P f args (w.drewN (a + n)) fun e w'' => e = .returned v ∧ ∃ m, w'' = w.drewN (a + m) :=
  h.mono fun _ _ ⟨he, m, hm⟩ => ⟨he, n + m, by rw [hm, World.drewN_drewN, Nat.add_assoc]⟩
theorem quiet_draws {P : Program} {f : FuncId} {args : Array Value} {w : World} {n : Nat} {v : Value}
    (h : Calls P f args (w.drewN n) fun e w' => e = .returned v ∧ ∃ m, w' = (w.drewN n).drewN m) : Calls P f args (w.drewN n) fun e w'' => e = .returned v ∧ ∃ m, w'' = w.drewN m :=
  h.mono fun _ _ ⟨he, m, hm⟩ => ⟨he, n + m, by rw [hm, World.drewN_drewN]⟩
theorem abs_nn (a : Int) (h : 0 ≤ a ∧ a ≤ 9000000000000000000) (w : World) :
    Calls Try.prog 34 #[.int .i64 a] w fun e w' => e = .returned (.int .i64 a) ∧ w = w' := by
  go_enter Try.func34, Try.ntmps34
  go_wp2
  all_goals go_ret
  all_goals exact ⟨ret_int (by omega), rfl⟩
theorem abs_np (a : Int) (h : a ≤ 0 ∧ -9000000000000000000 ≤ a) (w : World) :
    Calls Try.prog 34 #[.int .i64 a] w fun e w' => e = .returned (.int .i64 (-a)) ∧ w = w' := by
  go_enter Try.func34, Try.ntmps34
  go_wp2
  all_goals go_ret
  all_goals exact ⟨ret_int (by omega), rfl⟩
theorem divRound_nn (a b : Int) (ha : 0 ≤ a ∧ a ≤ 4000000000000000000) (hb : 0 < b ∧ b ≤ 1000000000000000000) (w : World) :
    Calls Try.prog 48 #[.int .i64 a, .int .i64 b] w fun e w' => e = .returned (.int .i64 (rdiv a b)) ∧ ∃ n, w' = w.drewN n := by
  have h0 := Int.emod_nonneg a (show b ≠ 0 by omega)
  have h1 := Int.emod_lt_of_pos a hb.1
  have h2 : 0 ≤ a / b := Int.ediv_nonneg ha.1 (by omega)
  have h3 : a / b ≤ a := Int.ediv_le_self b ha.1
  have hr : Hid (rdiv a b = if b ≤ 2 * (a % b) then a / b + 1 else a / b) := rdiv_pos ha.1 hb.1
  have ht : (decide (a < 0) == decide (b < 0)) = true := by simp; omega
  go_enter Try.func48, Try.ntmps48
  go_wp2
  go_quiet ((go_at_call 34; exact quiet_left (abs_nn _ (by omega) _)))
  go_wp2_with (go_at_call 34; refine (abs_nn _ (by omega) _).mono ?_; rintro e w' ⟨rfl, rfl⟩)
  all_goals go_ret
  all_goals refine ⟨ret_int ?_, _, rfl⟩
  all_goals rw [hr.out]
  · rw [if_pos (by omega)]
  · rw [if_neg (by omega)]
theorem divRound_np (a b : Int) (ha : a < 0 ∧ -4000000000000000000 ≤ a) (hb : 0 < b ∧ b ≤ 1000000000000000000) (w : World) :
    Calls Try.prog 48 #[.int .i64 a, .int .i64 b] w fun e w' => e = .returned (.int .i64 (rdiv a b)) ∧ ∃ n, w' = w.drewN n := by
  have h0 := Int.emod_nonneg (-a) (show b ≠ 0 by omega)
  have h1 := Int.emod_lt_of_pos (-a) hb.1
  have h2 : 0 ≤ -a / b := Int.ediv_nonneg (by omega) (by omega)
  have h3 : -a / b ≤ -a := Int.ediv_le_self b (by omega)
  have e1 : a.tmod b = -(-a % b) := by
    have : a = -(-a) := by omega
    rw [this, Int.neg_tmod, Int.tmod_eq_emod_of_nonneg (by omega)]
    simp
  have e2 : a.tdiv b = -(-a / b) := by
    have : a = -(-a) := by omega
    rw [this, Int.neg_tdiv, Int.tdiv_eq_ediv_of_nonneg (by omega)]
    simp
  have hr : Hid (rdiv a b = -(if b ≤ 2 * (-a % b) then -a / b + 1 else -a / b)) := by
    have e := rdiv_neg (b := b) ha.1
    rw [rdiv_pos (a := -a) (by omega) hb.1] at e
    exact e
  have ht : (decide (a < 0) == decide (b < 0)) = false := by simp; omega
  generalize -a % b = r at *
  generalize -a / b = q at *
  go_enter Try.func48, Try.ntmps48
  go_wp2
  go_quiet ((go_at_call 34; exact quiet_left (abs_np _ (by omega) _)))
  go_wp2_with (go_at_call 34; refine (abs_nn _ (by omega) _).mono ?_; rintro e w' ⟨rfl, rfl⟩)
  all_goals go_ret
  all_goals refine ⟨ret_int ?_, _, rfl⟩
  all_goals rw [hr.out]
  · rw [if_pos (by omega)]; omega
  · rw [if_neg (by omega)]
theorem divRound_any (a b : Int) (ha : -4000000000000000000 ≤ a ∧ a ≤ 4000000000000000000) (hb : 0 < b ∧ b ≤ 1000000000000000000) (w : World) :
    Calls Try.prog 48 #[.int .i64 a, .int .i64 b] w fun e w' => e = .returned (.int .i64 (rdiv a b)) ∧ ∃ n, w' = w.drewN n := by
  by_cases h : 0 ≤ a
  · exact divRound_nn a b ⟨h, ha.2⟩ hb w
  · exact divRound_np a b ⟨by omega, ha.1⟩ hb w
theorem l01Div_any (a b : Int) (ha : -4000000000000000000 ≤ a ∧ a ≤ 4000000000000000000) (hb : 0 < b ∧ b ≤ 1000000000000000000) (w : World) :
    Calls Try.prog 36 #[.int .i64 a, .int .i64 b] w fun e w' => e = .returned (.int .i64 (rdiv a b)) ∧ w = w' := by
  by_cases h : 0 ≤ a
  · have hr : Hid (rdiv a b = (2 * a + b) / (2 * b)) := by unfold rdiv; exact if_pos h
    go_enter Try.func36, Try.ntmps36
    go_wp2
    go_ret
    exact ⟨ret_int hr.out.symm, rfl⟩
  · have hr : Hid (rdiv a b = -((b - 2 * a) / (2 * b))) := by unfold rdiv; exact if_neg h
    have h2 : 0 ≤ (b - 2 * a) / (2 * b) := Int.ediv_nonneg (by omega) (by omega)
    have h3 : (b - 2 * a) / (2 * b) ≤ b - 2 * a := Int.ediv_le_self _ (by omega)
    go_enter Try.func36, Try.ntmps36
    go_wp2
    go_ret
    exact ⟨ret_int hr.out.symm, rfl⟩
end Go.Proofs.Ytgbehaapmnmifaa
