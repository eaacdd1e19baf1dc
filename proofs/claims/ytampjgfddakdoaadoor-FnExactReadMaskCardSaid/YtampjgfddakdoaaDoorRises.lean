/-
  Contracts of the functions that say whether lists rise, and whether they are sorted. The slices are rows of the call's own.
-/
import Derived.Test.YtampjgfddakdoaaDoorLib
import Derived.Test.YtampjgfddakdoaaDoorRows
import Derived.Test.YtampjgfddakdoaaDoorMaskB
import Derived.Test.YtampjgfddakdoaaDoorWithin
import Derived.Test.YtampjgfddakdoaaDoorInt
import Derived.Deep.QuietTactic
import Derived.BigQuiet
namespace Go.Proofs.YtampjgfddakdoaaDoor
open Go.RowKit
set_option linter.unusedSimpArgs false
set_option linter.unusedVariables false
theorem increasing_any (w : World) (v : Value) (xs : List Int) (p : Nat) (h : Row 2 w p v xs) :
    Calls Tryd.prog 61 #[v] w fun e w' => e = .returned (.bool (incB xs)) ∧ ∃ n, w' = w.drewN n := by
  have hl := h.len
  unfold maxLen at hl
  have HY := Lib.hid (incB_yes (xs := xs))
  have HN := Lib.hid (fun k => incB_no (xs := xs) (k := k))
  rcases h.forms with ⟨rfl, rfl⟩ | ⟨g, c, rfl, _, la, hc, _⟩
  · have he := Lib.hid (HY.out (fun k hk => absurd hk (by simp)))
    clear h hl HY HN
    go_enter Tryd.func61, Tryd.ntmps61
    go_wp2_with (first | ((with_reducible refine wp_loop_rounds 1 ?_); rw [rounds_succ]) | go_in)
    go_ret
    exact ⟨ret_bool he.out.symm, 0, rfl⟩
  clear h
  generalize incB xs = R at *
  have HC := Lib.hid hc
  clear hc
  generalize hn : xs.length = n at *
  clear hn
  have hm : (n : Int) ≤ 9223372036854775807 := by omega
  go_enter Tryd.func61, Tryd.ntmps61
  go_wp2
  go_loopw [3] (fun i wr => ∃ j : Nat, i = .int .i64 ((j : Int) + 1) ∧ (j = 0 ∨ j + 1 ≤ n) ∧ Hid (∀ m, m < j + 1 → m < n → incP xs m) ∧ ∃ d, wr = w.drewN d) (fun i _ => n + 1 - (intOf i).toNat)
  case atStart => exact ⟨0, by simp, .inl rfl, fun m h1 _ h2 => by omega, 0, rfl⟩
  case round =>
    obtain ⟨j, rfl, hj, hr, d, rfl⟩ := hrel
    have i0 : (0 : Int) ≤ (j : Int) := Int.natCast_nonneg _
    by_cases hlt : j + 1 < n
    · have c1 := HC.out (j + 1) hlt
      have c2 := HC.out j (by omega)
      have i1 : (j : Int) + 1 < (n : Int) := by omega
      have i2 : (j : Int) < (n : Int) := by omega
      have i3 : (0 : Int) ≤ (j : Int) + 1 := by omega
      have i4 : IntKind.i64.wrap ((j : Int) + 1 - 1) = (j : Int) := by rw [IntKind.wrap_i64]; omega
      by_cases hle : xs.getD (j + 1) 0 ≤ xs.getD j 0
      · have he := Lib.hid (HN.out (j + 1) hlt (fun q => by have := q (by omega); rw [Nat.add_sub_cancel] at this; omega))
        clear hr HY HN hj hlt
        generalize xs.getD (j + 1) 0 = x at *
        generalize xs.getD j 0 = y at *
        go_wp2
        go_quiet (fail)
        go_wp2
        go_ret
        exact ⟨ret_bool he.out.symm, _, by rw [World.drewN_drewN]⟩
      · have hr' : Hid (∀ m, m < j + 1 + 1 → m < n → incP xs m) := fun m h1 h2 => by
          by_cases e : m = j + 1
          · subst e
            intro _
            rw [Nat.add_sub_cancel]
            omega
          · exact hr.out m (by omega) h2
        have hle' : xs.getD j 0 < xs.getD (j + 1) 0 := by omega
        clear hr HY HN hle
        generalize xs.getD (j + 1) 0 = x at *
        generalize xs.getD j 0 = y at *
        go_wp2
        go_quiet (fail)
        go_wp2
        go_roundw
        case rel => exact ⟨j + 1, by go_num, by omega, hr', _, rfl⟩
        case measure => (simp [intOf] <;> omega)
    · have he := Lib.hid (HY.out (fun m hm => hr.out m (by omega) hm))
      clear hr HY HN
      go_wp2
      go_ret
      exact ⟨ret_bool he.out.symm, d, rfl⟩
theorem less_yes (w : World) (a b : Int) (h : a < b) : Calls Tryd.prog 81 #[.int .i64 a, .int .i64 b] w fun e w' => e = .returned (.bool true) ∧ w = w' := by
  go_enter Tryd.func81, Tryd.ntmps81
  go_wp2
  go_ret
  exact ⟨rfl, rfl⟩
theorem less_no (w : World) (a b : Int) (h : b ≤ a) : Calls Tryd.prog 81 #[.int .i64 a, .int .i64 b] w fun e w' => e = .returned (.bool false) ∧ w = w' := by
  go_enter Tryd.func81, Tryd.ntmps81
  go_wp2
  go_ret
  exact ⟨ret_bool (decide_eq_false (by omega)), rfl⟩
theorem isSorted_any (w : World) (v : Value) (xs : List Int) (p : Nat) (h : Row 2 w p v xs) :
    Calls Tryd.prog 62 #[v] w fun e w' => e = .returned (.bool (ascB xs)) ∧ ∃ n, w' = w.drewN n := by
  have hl := h.len
  unfold maxLen at hl
  have HY := Lib.hid (ascB_yes (xs := xs))
  have HN := Lib.hid (fun k => ascB_no (xs := xs) (k := k))
  by_cases h0 : xs.length = 0
  · have he := Lib.hid (HY.out (fun k hk => absurd hk (by omega)))
    clear hl HY HN
    obtain ⟨A, c, rfl⟩ := h.reads.form
    rw [h0]
    clear h h0
    go_enter Tryd.func62, Tryd.ntmps62
    go_wp2_with (first | ((with_reducible refine wp_loop_rounds 1 ?_); rw [rounds_succ]) | go_in)
    go_ret
    exact ⟨ret_bool he.out.symm, 0, rfl⟩
  rcases h.forms with ⟨rfl, rfl⟩ | ⟨g, c, rfl, _, la, hc, _⟩
  · simp at h0
  clear h
  generalize ascB xs = R at *
  have HC := Lib.hid hc
  clear hc
  generalize hn : xs.length = n at *
  clear hn
  have hm : (n : Int) ≤ 9223372036854775807 := by omega
  have h1 : (1 : Int) ≤ (n : Int) := by omega
  obtain ⟨n', hn'⟩ : ∃ n', n = n' + 1 := ⟨n - 1, by omega⟩
  have v0 : IntKind.i64.wrap ((n : Int) - 1) = (n' : Int) := by rw [IntKind.wrap_i64]; omega
  clear h0
  have HN' := Lib.hid hn'
  clear hn'
  go_enter Tryd.func62, Tryd.ntmps62
  go_wp2
  go_loopw [3] (fun i wr => ∃ j : Nat, i = .int .i64 (j : Int) ∧ j < n ∧ Hid (∀ m, j < m → m < n → ascP xs m) ∧ ∃ d, wr = w.drewN d) (fun i _ => (intOf i).toNat)
  case atStart => exact ⟨n', by have := HN'.out; go_num, by have := HN'.out; omega, fun m h1 h2 => by have := HN'.out; omega, 0, rfl⟩
  case round =>
    obtain ⟨k, rfl, hk, hr, d, rfl⟩ := hrel
    cases k with
    | zero =>
      have he := Lib.hid (HY.out (fun m hm => by
        by_cases e : m = 0
        · subst e; exact fun q => absurd q (by omega)
        · exact hr.out m (by omega) hm))
      clear hr HY HN
      go_wp2
      go_ret
      exact ⟨ret_bool he.out.symm, d, rfl⟩
    | succ j =>
      rw [show ((j + 1 : Nat) : Int) = (j : Int) + 1 by omega]
      have i0 : (0 : Int) ≤ (j : Int) := Int.natCast_nonneg _
      have c1 := HC.out (j + 1) hk
      have c2 := HC.out j (by omega)
      have i1 : (j : Int) + 1 < (n : Int) := by omega
      have i2 : (j : Int) < (n : Int) := by omega
      have i3 : (0 : Int) ≤ (j : Int) + 1 := by omega
      have i4 : IntKind.i64.wrap ((j : Int) + 1 - 1) = (j : Int) := by rw [IntKind.wrap_i64]; omega
      by_cases hle : xs.getD (j + 1) 0 < xs.getD j 0
      · have he := Lib.hid (HN.out (j + 1) hk (fun q => by have := q (by omega); rw [Nat.add_sub_cancel] at this; omega))
        clear hr HY HN
        generalize xs.getD (j + 1) 0 = x at *
        generalize xs.getD j 0 = y at *
        go_wp2
        go_quiet ((go_at_call 81; exact quiet_addl (less_yes _ _ _ hle)))
        go_wp2
        go_ret
        exact ⟨ret_bool he.out.symm, _, by rw [World.drewN_drewN]⟩
      · have hr' : Hid (∀ m, j < m → m < n → ascP xs m) := fun m h1 h2 => by
          by_cases e : m = j + 1
          · subst e
            intro _
            rw [Nat.add_sub_cancel]
            omega
          · exact hr.out m (by omega) h2
        have hle' : xs.getD j 0 ≤ xs.getD (j + 1) 0 := by omega
        clear hr HY HN hle
        generalize xs.getD (j + 1) 0 = x at *
        generalize xs.getD j 0 = y at *
        go_wp2
        go_quiet ((go_at_call 81; exact quiet_addl (less_no _ _ _ hle')))
        go_wp2
        go_roundw
        case rel => exact ⟨j, rfl, by omega, hr', _, rfl⟩
        case measure => simp [intOf]
theorem l00Rises_any (w : World) (v : Value) (xs : List Int) (p : Nat) (h : Row 2 w p v xs) (hi : Int) :
    Calls Tryd.prog 43 #[v, .int .i64 0, .int .i64 hi] w fun e w' => e = .returned (.bool (riseB xs hi)) ∧ ∃ n, w' = w.drewN n := by
  have hl := h.len
  unfold maxLen at hl
  have HY := Lib.hid (riseB_yes (xs := xs) (hi := hi))
  have HN := Lib.hid (fun k => riseB_no (xs := xs) (hi := hi) (k := k))
  rcases h.forms with ⟨rfl, rfl⟩ | ⟨g, c, rfl, _, la, hc, _⟩
  · have he := Lib.hid (HY.out (fun k hk => absurd hk (by simp)))
    clear h hl HY HN
    go_enter Tryd.func43, Tryd.ntmps43
    go_wp2_with (first | ((with_reducible refine wp_loop_rounds 1 ?_); rw [rounds_succ]) | go_in)
    go_ret
    exact ⟨ret_bool he.out.symm, 0, rfl⟩
  clear h
  generalize riseB xs hi = R at *
  have HC := Lib.hid hc
  clear hc
  generalize hn : xs.length = n at *
  clear hn
  have hm : (n : Int) ≤ 9223372036854775807 := by omega
  go_enter Tryd.func43, Tryd.ntmps43
  go_wp2
  go_loopw [7] (fun i wr => ∃ k : Nat, k ≤ n ∧ i = .int .i64 (k : Int) ∧ Hid (∀ m, m < k → riseP xs hi m) ∧ ∃ d, wr = w.drewN d) (fun i _ => n + 1 - (intOf i).toNat)
  case atStart => exact ⟨0, Nat.zero_le _, rfl, fun m h => by omega, 0, rfl⟩
  case round =>
    obtain ⟨k, hk, rfl, hr, d, rfl⟩ := hrel
    have i0 : (0 : Int) ≤ (k : Int) := Int.natCast_nonneg _
    by_cases hlt : k < n
    · have c1 := HC.out k hlt
      have i1 : (k : Int) < (n : Int) := by omega
      rcases bool_tf (inB (xs.getD k 0) 0 hi) with hb | hb
      rotate_left
      · have he := Lib.hid (HN.out k hlt (fun q => by rw [inB_yes q.1.1 q.1.2] at hb; cases hb))
        clear hr HY HN
        generalize xs.getD k 0 = x at *
        go_wp2
        go_quiet ((go_at_call 42; exact quiet_addl (l00In_any _ _ _ _)))
        go_wp2
        go_ret
        exact ⟨ret_bool he.out.symm, _, by rw [World.drewN_drewN]⟩
      cases k with
      | zero =>
        have hr' : Hid (∀ m, m < 0 + 1 → riseP xs hi m) := fun m hm => by
          obtain rfl : m = 0 := by omega
          exact ⟨inB_out hb, fun q => absurd q (by omega)⟩
        clear hr HY HN
        generalize xs.getD 0 0 = x at *
        go_wp2
        go_quiet ((go_at_call 42; exact quiet_addl (l00In_any _ _ _ _)))
        go_wp2
        go_roundw
        case rel => exact ⟨0 + 1, by omega, by go_num, hr', _, rfl⟩
        case measure => (simp [intOf] <;> omega)
      | succ j =>
        rw [show ((j + 1 : Nat) : Int) = (j : Int) + 1 by omega] at i0 i1 ⊢
        have c2 := HC.out j (by omega)
        have i2 : (j : Int) < (n : Int) := by omega
        have i3 : (0 : Int) ≤ (j : Int) := Int.natCast_nonneg _
        have i4 : IntKind.i64.wrap ((j : Int) + 1 - 1) = (j : Int) := by rw [IntKind.wrap_i64]; omega
        have i5 : decide ((0 : Int) < (j : Int) + 1) = true := decide_eq_true (by omega)
        by_cases hle : xs.getD (j + 1) 0 ≤ xs.getD j 0
        · have he := Lib.hid (HN.out (j + 1) hlt (fun q => by have := q.2 (by omega); rw [Nat.add_sub_cancel] at this; omega))
          have hle2 : decide (xs.getD (j + 1) 0 ≤ xs.getD j 0) = true := decide_eq_true hle
          clear hr HY HN
          generalize xs.getD (j + 1) 0 = x at *
          generalize xs.getD j 0 = y at *
          go_wp2
          go_quiet ((go_at_call 42; exact quiet_addl (l00In_any _ _ _ _)))
          go_wp2
          go_ret
          exact ⟨ret_bool he.out.symm, _, by rw [World.drewN_drewN]⟩
        · have hr' : Hid (∀ m, m < j + 1 + 1 → riseP xs hi m) := fun m hm => by
            by_cases e : m = j + 1
            · subst e
              exact ⟨inB_out hb, fun _ => by rw [Nat.add_sub_cancel]; omega⟩
            · exact hr.out m (by omega)
          have hle2 : decide (xs.getD (j + 1) 0 ≤ xs.getD j 0) = false := decide_eq_false hle
          clear hr HY HN
          generalize xs.getD (j + 1) 0 = x at *
          generalize xs.getD j 0 = y at *
          go_wp2
          go_quiet ((go_at_call 42; exact quiet_addl (l00In_any _ _ _ _)))
          go_wp2
          go_roundw
          case rel => exact ⟨j + 1 + 1, by omega, by go_num, hr', _, rfl⟩
          case measure => (simp [intOf] <;> omega)
    · obtain rfl : k = n := by omega
      have he := Lib.hid (HY.out hr.out)
      clear hr HY HN
      go_wp2
      go_ret
      exact ⟨ret_bool he.out.symm, d, rfl⟩
end Go.Proofs.YtampjgfddakdoaaDoor
