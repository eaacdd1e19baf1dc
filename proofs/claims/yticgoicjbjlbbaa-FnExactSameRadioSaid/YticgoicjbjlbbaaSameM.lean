/-
  Contracts of the comparison of two slices of modes; the conditions are the hypotheses: both are rows of the call's own.
-/
import Derived.Test.YticgoicjbjlbbaaRows
import Derived.Test.YticgoicjbjlbbaaLib
import Derived.Test.YticgoicjbjlbbaaModes
import Derived.Deep.QuietTactic
import Derived.BigQuiet
namespace Go.Proofs.Yticgoicjbjlbbaa
open Go.RowKit
set_option linter.unusedSimpArgs false
set_option linter.unusedVariables false
theorem first_offM : ∀ (xs ys : List (Int × Int)), xs.length = ys.length → xs ≠ ys → ∃ d, d < xs.length ∧ (∀ j, j < d → xs.getD j (0, 0) = ys.getD j (0, 0)) ∧ xs.getD d (0, 0) ≠ ys.getD d (0, 0)
  | [], [], _, h => absurd rfl h
  | [], _ :: _, h, _ => by simp at h
  | _ :: _, [], h, _ => by simp at h
  | x :: xs, y :: ys, hl, hne => by
    by_cases h : x = y
    · subst h
      obtain ⟨d, h1, h2, h3⟩ := first_offM xs ys (by simpa using hl) (fun e => hne (by rw [e]))
      refine ⟨d + 1, by simpa using h1, fun j hj => ?_, by simpa using h3⟩
      cases j with
      | zero => simp
      | succ j => simpa using h2 j (by omega)
    · exact ⟨0, by simp, fun j hj => absurd hj (by omega), by simpa using h⟩
/-- How two pairs differ. -/
theorem pair_off {p q : Int × Int} (h : p ≠ q) : p.1 ≠ q.1 ∨ (p.1 = q.1 ∧ p.2 ≠ q.2) := by
  obtain ⟨a, b⟩ := p
  obtain ⟨c, d⟩ := q
  by_cases e : a = c
  · right
    refine ⟨e, fun k => h ?_⟩
    subst e
    have k : b = d := k
    rw [k]
  · exact .inl e
theorem equalM_yes (va vb : Value) (xs : List (Int × Int)) (ba bb : Nat) (w : World) (ha : RowM 81 w ba va xs) (hb : RowM 81 w bb vb xs) :
    Calls Try.prog 72 #[va, vb] w fun e w' => e = .returned (.bool true) ∧ ∃ n, w' = w.drewN n := by
  have hl := ha.len
  unfold maxLen at hl
  have hm : (xs.length : Int) ≤ 9223372036854775807 := by omega
  have hN : xs = [] → Calls Try.prog 72 #[va, vb] w fun e w' => e = .returned (.bool true) ∧ ∃ n, w' = w.drewN n := by
    intro h0
    subst h0
    rcases ha.forms with ⟨rfl, _⟩ | ⟨ga, ca, rfl, _⟩ <;> rcases hb.forms with ⟨rfl, _⟩ | ⟨gb, cb, rfl, _⟩
    all_goals
      clear ha hb hl hm
      try simp only [List.length_nil]
      go_enter Try.func72, Try.ntmps72
      go_wp2_with (first | ((with_reducible refine wp_loop_rounds 1 ?_); rw [rounds_succ]) | go_in)
      go_ret
      exact ⟨rfl, 0, rfl⟩
  rcases ha.forms with ⟨_, h0⟩ | ⟨ga, ca, rfl, _, la, hca, _⟩
  · exact hN h0
  rcases hb.forms with ⟨_, h0⟩ | ⟨gb, cb, rfl, _, lb, hcb, _⟩
  · exact hN h0
  clear hN ha hb
  generalize hn : xs.length = n at *
  go_enter Try.func72, Try.ntmps72
  go_wp2
  go_loopw [13] (fun i wr => ∃ k : Nat, k ≤ n ∧ i = .int .i64 k ∧ ∃ m, wr = w.drewN m) (fun i _ => n - (intOf i).toNat)
  case atStart => exact ⟨0, Nat.zero_le _, rfl, 0, rfl⟩
  case round =>
    obtain ⟨k, hk, rfl, m, rfl⟩ := hrel
    by_cases hlt : k < n
    · obtain ⟨c1, d1⟩ := hca k hlt
      obtain ⟨c2, d2⟩ := hcb k hlt
      have i0 : (0 : Int) ≤ (k : Int) := Int.natCast_nonneg _
      have i1 : (k : Int) < (n : Int) := by omega
      clear hca hcb hn
      generalize (xs.getD k (0, 0)).1 = x at *
      generalize (xs.getD k (0, 0)).2 = y at *
      go_wp2
      go_quiet (fail)
      go_wp2
      go_roundw
      case rel => exact ⟨k + 1, by omega, by go_num, _, rfl⟩
      case measure => simp [intOf]; omega
    · clear hca hcb hn
      go_wp2
      go_ret
      exact ⟨rfl, _, rfl⟩
theorem equalM_no (va vb : Value) (xs ys : List (Int × Int)) (ba bb : Nat) (w : World) (ha : RowM 81 w ba va xs) (hb : RowM 81 w bb vb ys) (hne : xs ≠ ys) :
    Calls Try.prog 72 #[va, vb] w fun e w' => e = .returned (.bool false) ∧ ∃ n, w' = w.drewN n := by
  have hl := ha.len
  unfold maxLen at hl
  have hm : (xs.length : Int) ≤ 9223372036854775807 := by omega
  by_cases hlen : xs.length = ys.length
  · obtain ⟨d, hd, hbef, hat⟩ := first_offM xs ys hlen hne
    rcases ha.forms with ⟨_, h0⟩ | ⟨ga, ca, rfl, _, la, hca, _⟩
    · rw [h0] at hd
      simp at hd
    rcases hb.forms with ⟨_, h0⟩ | ⟨gb, cb, rfl, _, lb, hcb, _⟩
    · rw [hlen, h0] at hd
      simp at hd
    rw [← hlen] at hcb ⊢
    clear ha hb hne hlen
    generalize hn : xs.length = n at *
    go_enter Try.func72, Try.ntmps72
    go_wp2
    go_loopw [13] (fun i wr => ∃ k : Nat, k ≤ d ∧ i = .int .i64 k ∧ ∃ m, wr = w.drewN m) (fun i _ => n - (intOf i).toNat)
    case atStart => exact ⟨0, Nat.zero_le _, rfl, 0, rfl⟩
    case round =>
      obtain ⟨k, hk, rfl, m, rfl⟩ := hrel
      obtain ⟨c1, d1⟩ := hca k (by omega)
      obtain ⟨c2, d2⟩ := hcb k (by omega)
      have i0 : (0 : Int) ≤ (k : Int) := Int.natCast_nonneg _
      have i1 : (k : Int) < (n : Int) := by omega
      by_cases hlt : k < d
      · rw [← hbef k hlt] at c2 d2
        clear hca hcb hn hbef hat
        generalize (xs.getD k (0, 0)).1 = x at *
        generalize (xs.getD k (0, 0)).2 = y at *
        go_wp2
        go_quiet (fail)
        go_wp2
        go_roundw
        case rel => exact ⟨k + 1, by omega, by go_num, _, rfl⟩
        case measure => simp [intOf]; omega
      · obtain rfl : k = d := by omega
        have ho := pair_off hat
        clear hca hcb hn hbef hat
        generalize (xs.getD k (0, 0)).1 = x at *
        generalize (xs.getD k (0, 0)).2 = y at *
        generalize (ys.getD k (0, 0)).1 = x' at *
        generalize (ys.getD k (0, 0)).2 = y' at *
        rcases ho with ho | ⟨rfl, ho⟩
        · have hb1 : (x != x') = true := by simpa using ho
          have hb2 : (x == x') = false := by simpa using ho
          go_wp2
          go_quiet (fail)
          go_wp2
          go_ret
          exact ⟨rfl, _, by rw [World.drewN_drewN]⟩
        · have hb1 : (y != y') = true := by simpa using ho
          have hb2 : (y == y') = false := by simpa using ho
          go_wp2
          go_quiet (fail)
          go_wp2
          go_ret
          exact ⟨rfl, _, by rw [World.drewN_drewN]⟩
  · have hx : ∃ A c, va = .slice A xs.length c := by
      rcases ha.forms with ⟨rfl, rfl⟩ | ⟨ga, ca, rfl, _⟩
      · exact ⟨_, _, rfl⟩
      · exact ⟨_, _, rfl⟩
    have hy : ∃ A c, vb = .slice A ys.length c := by
      rcases hb.forms with ⟨rfl, rfl⟩ | ⟨ga, ca, rfl, _⟩
      · exact ⟨_, _, rfl⟩
      · exact ⟨_, _, rfl⟩
    obtain ⟨A, c, rfl⟩ := hx
    obtain ⟨A', c', rfl⟩ := hy
    have hq : ((xs.length : Int) != (ys.length : Int)) = true := by rw [bne_iff_ne]; omega
    have hq2 : (xs.length != ys.length) = true := by rw [bne_iff_ne]; omega
    have hq3 : (xs.length == ys.length) = false := by simpa using hlen
    clear ha hb hne hlen hl hm
    generalize xs.length = n at *
    generalize ys.length = n' at *
    go_enter Try.func72, Try.ntmps72
    go_wp2
    go_ret
    exact ⟨rfl, 0, rfl⟩
end Go.Proofs.Yticgoicjbjlbbaa
