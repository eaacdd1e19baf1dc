/-
  Contracts of the laws' own helpers over slices of int64s: size, copy, comparison, marking. The conditions are the hypotheses: the slice reads as a list, or is a row of the call's own.
-/
import Derived.Test.YtampjgfddakdoaaDoorRows
import Derived.Test.YtampjgfddakdoaaDoorLib
import Derived.Deep.QuietTactic
import Derived.BigQuiet
import Derived.Deep.OwnRows
import Derived.Maps.AppendAt
namespace Go.Proofs.YtampjgfddakdoaaDoor
open Go.RowKit
set_option linter.unusedSimpArgs false
set_option linter.unusedVariables false

def seqFrom (k : Int) (n : Nat) : List Int := (List.range n).map fun (i : Nat) => k + i
theorem seqFrom_length (k : Int) (n : Nat) : (seqFrom k n).length = n := by simp [seqFrom]
theorem seqFrom_getD {k : Int} {n i : Nat} (h : i < n) : (seqFrom k n).getD i 0 = k + i := by simp [seqFrom, h]

theorem eq_rows (va vb : Value) (xs : List Int) (ba bb : Nat) (w : World) (ha : Row 2 w ba va xs) (hb : Row 2 w bb vb xs) :
    Calls Tryd.prog 27 #[va, vb] w fun e w' => e = .returned (.bool true) ∧ ∃ n, w' = w.drewN n := by
  have hl := ha.len
  unfold maxLen at hl
  have hm : (xs.length : Int) ≤ 9223372036854775807 := by omega
  have hN : xs = [] → Calls Tryd.prog 27 #[va, vb] w fun e w' => e = .returned (.bool true) ∧ ∃ n, w' = w.drewN n := by
    intro h0
    subst h0
    rcases ha.forms with ⟨rfl, _⟩ | ⟨ga, ca, rfl, _⟩ <;> rcases hb.forms with ⟨rfl, _⟩ | ⟨gb, cb, rfl, _⟩
    all_goals
      clear ha hb hl hm
      try simp only [List.length_nil]
      go_enter Tryd.func27, Tryd.ntmps27
      go_wp2_with (first | ((with_reducible refine wp_loop_rounds 1 ?_); rw [rounds_succ]) | go_in)
      go_ret
      exact ⟨rfl, 0, rfl⟩
  rcases ha.forms with ⟨_, h0⟩ | ⟨ga, ca, rfl, _, la, hca, _⟩
  · exact hN h0
  rcases hb.forms with ⟨_, h0⟩ | ⟨gb, cb, rfl, _, lb, hcb, _⟩
  · exact hN h0
  clear hN ha hb
  generalize hn : xs.length = n at *
  go_enter Tryd.func27, Tryd.ntmps27
  go_wp2
  go_loopw [5] (fun i wr => ∃ k : Nat, k ≤ n ∧ i = .int .i64 k ∧ ∃ m, wr = w.drewN m) (fun i _ => n - (intOf i).toNat)
  case atStart => exact ⟨0, Nat.zero_le _, rfl, 0, rfl⟩
  case round =>
    obtain ⟨k, hk, rfl, m, rfl⟩ := hrel
    by_cases hlt : k < n
    · have c1 := hca k hlt
      have c2 := hcb k hlt
      have i0 : (0 : Int) ≤ (k : Int) := Int.natCast_nonneg _
      have i1 : (k : Int) < (n : Int) := by omega
      clear hca hcb hn
      go_wp2
      go_quiet (fail)
      go_wp2
      go_roundw
      case rel => exact ⟨k + 1, by omega, by go_num, _, rfl⟩
      case measure => simp [intOf]; omega
    · clear hca hcb hn
      go_wp2
      go_ret
      exact ⟨rfl, _, rfl⟩
theorem held_row (v : Value) (K : Int) (n : Nat) (b : Nat) (w : World) (h : Row 2 w b v (seqFrom K n)) (h0 : 0 ≤ K) (h1 : K + n ≤ 1000000000) :
    Calls Tryd.prog 29 #[v, .int .i64 K] w fun e w' => e = .returned (.int .i64 (K + n)) ∧ w = w' := by
  rcases h.forms with ⟨rfl, h2⟩ | ⟨g, c, rfl, _, l, hc, _⟩
  · have hn : n = 0 := by rw [← seqFrom_length K n, h2]; rfl
    subst hn
    go_enter Tryd.func29, Tryd.ntmps29
    go_wp2_with (first | ((with_reducible refine wp_loop_rounds 1 ?_); rw [rounds_succ]) | go_in)
    go_ret
    exact ⟨ret_int (by simp), rfl⟩
  · rw [seqFrom_length] at hc ⊢
    clear h
    go_enter Tryd.func29, Tryd.ntmps29
    go_wp2
    go_loop [1, 5] (fun q i => ∃ k : Nat, k ≤ n ∧ i = .int .i64 k ∧ q = .int .i64 (K + k)) (fun _ i => n - (intOf i).toNat)
    case atStart => exact ⟨0, Nat.zero_le _, rfl, by simp⟩
    case round =>
      obtain ⟨k, hk, rfl, rfl⟩ := hrel
      by_cases hlt : k < n
      · have c1 := hc k hlt
        rw [seqFrom_getD hlt] at c1
        have i0 : (0 : Int) ≤ (k : Int) := Int.natCast_nonneg _
        have i1 : (k : Int) < (n : Int) := by omega
        clear hc
        go_wp2
        go_round
        case rel => exact ⟨k + 1, by omega, by go_num, by go_num⟩
        case measure => simp [intOf]; omega
      · clear hc
        go_wp2
        go_ret
        exact ⟨ret_int (by omega), rfl⟩
theorem mark_step (K : Int) (k : Nat) (xs : List Int) (h : k < xs.length) : (seqFrom K k ++ xs.drop k).set k (K + k) = seqFrom K (k + 1) ++ xs.drop (k + 1) := by
  rw [List.set_append_right _ _ (by rw [seqFrom_length]; exact Nat.le_refl _), seqFrom_length, Nat.sub_self, List.drop_eq_getElem_cons h, List.set_cons_zero]
  simp [seqFrom, List.range_succ]
theorem mark_row (v : Value) (xs : List Int) (K : Int) (b : Nat) (w : World) (h : Row 2 w b v xs) (h0 : 0 ≤ K) (h1 : K + xs.length ≤ 1000000000) :
    Calls Tryd.prog 28 #[v, .int .i64 K] w fun e w' => e = .returned (.int .i64 (K + xs.length)) ∧ Row 2 w' b v (seqFrom K xs.length) ∧ w.grownBy w' v.ownBlock := by
  have h9 := h
  rcases h.forms with ⟨rfl, rfl⟩ | ⟨g, c, rfl, _⟩
  · go_enter Tryd.func28, Tryd.ntmps28
    go_wp2_with (first | ((with_reducible refine wp_loop_rounds 1 ?_); rw [rounds_succ]) | go_in)
    go_ret
    exact ⟨ret_int (by simp), h9, World.grownBy.refl w _⟩
  · clear h9
    have hN : Hid (∀ ys : List Int, ys.length = xs.length → ys.length = xs.length) := fun _ h => h
    go_enter Tryd.func28, Tryd.ntmps28
    go_wp2
    go_loopw [1, 5] (fun q i wr => ∃ k : Nat, k ≤ xs.length ∧ i = .int .i64 k ∧ q = .int .i64 (K + k) ∧ Row 2 wr b (.slice (some ⟨g, 0, none⟩) xs.length c) (seqFrom K k ++ xs.drop k) ∧ w.grownBy wr (some g)) (fun _ i _ => xs.length - (intOf i).toNat)
    case atStart => exact ⟨0, Nat.zero_le _, rfl, by simp, h, World.grownBy.refl w _⟩
    case round =>
      obtain ⟨k, hk, rfl, rfl, hr, hg⟩ := hrel
      have hL : (seqFrom K k ++ xs.drop k).length = xs.length := by rw [List.length_append, seqFrom_length, List.length_drop]; omega
      by_cases hlt : k < xs.length
      · have hf := hr.frz k
        obtain ⟨u, c1⟩ : ∃ u, wr.cell? ⟨g, k, none⟩ = some (.int .i64 u) := ⟨_, hr.at_.1 k (by omega)⟩
        have hs := Row.set_ hr hL k (K + k)
        rw [mark_step K k xs hlt] at hs
        have HS := Lib.hid hs
        have HG := Lib.hid hg
        have i0 : (0 : Int) ≤ (k : Int) := Int.natCast_nonneg _
        have i1 : (k : Int) < (xs.length : Int) := by omega
        clear hs hg hr hL h hN
        go_wp2
        go_roundw
        case rel => exact ⟨k + 1, by omega, by go_num, by go_num, HS.out.1, HG.out.trans HS.out.2⟩
        case measure => simp [intOf]; omega
      · obtain rfl : k = xs.length := by omega
        have HR := Lib.hid hr
        have HG := Lib.hid hg
        clear hr hg hL h hN
        go_wp2
        go_ret
        exact ⟨rfl, by have := HR.out; rwa [List.drop_length, List.append_nil] at this, HG.out⟩
end Go.Proofs.YtampjgfddakdoaaDoor
