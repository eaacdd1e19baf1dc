/-
  Contract of the program's test that all numbers of a list lie within bounds.
-/
import Derived.Test.YtampjgfddakdoaaDoorLib
import Derived.Test.YtampjgfddakdoaaDoorRows
namespace Go.Proofs.YtampjgfddakdoaaDoor
open Go.RowKit
set_option linter.unusedSimpArgs false
set_option linter.unusedVariables false
def allIn (xs : List Int) (lo hi : Int) : Bool := decide (∀ k, k < xs.length → lo ≤ xs.getD k 0 ∧ xs.getD k 0 ≤ hi)
theorem allIn_yes {xs : List Int} {lo hi : Int} (h : ∀ k, k < xs.length → lo ≤ xs.getD k 0 ∧ xs.getD k 0 ≤ hi) : allIn xs lo hi = true := decide_eq_true h
theorem allIn_no {xs : List Int} {lo hi : Int} {k : Nat} (hk : k < xs.length) (h : ¬ (lo ≤ xs.getD k 0 ∧ xs.getD k 0 ≤ hi)) : allIn xs lo hi = false := decide_eq_false fun q => h (q k hk)
theorem allWithin_any (w : World) (v : Value) (xs : List Int) (p : Nat) (h : Row 2 w p v xs) (lo hi : Int) :
    Calls Tryd.prog 76 #[v, .int .i64 lo, .int .i64 hi] w fun e w' => e = .returned (.bool (allIn xs lo hi)) ∧ Below w.heap.size w w' := by
  have hl := h.len
  unfold maxLen at hl
  rcases h.forms with ⟨rfl, rfl⟩ | ⟨g, c, rfl, _, la, hc, _⟩
  · have he := Lib.hid (allIn_yes (xs := []) (lo := lo) (hi := hi) (fun k hk => absurd hk (by simp)))
    clear h hl
    go_enter Tryd.func76, Tryd.ntmps76
    go_wp2_with (first | ((with_reducible refine wp_loop_rounds 1 ?_); rw [rounds_succ]) | go_in)
    go_ret
    exact ⟨ret_bool he.out.symm, by repeat (first | (with_reducible exact Below.refl _ _) | (with_reducible assumption) | ((with_reducible refine bl_alloc ?_ _ ?_); (focus ((first | omega | (simp <;> omega)); done))) | ((with_reducible refine bl_set ?_ _ ?_); (focus ((first | omega | (simp <;> omega)); done))) | (with_reducible refine below_drewN ?_ _) | (with_reducible refine Below.drew ?_))⟩
  clear h
  have HY := Lib.hid (allIn_yes (xs := xs) (lo := lo) (hi := hi))
  have HN := Lib.hid (fun k => allIn_no (xs := xs) (lo := lo) (hi := hi) (k := k))
  generalize allIn xs lo hi = R at *
  have HC := Lib.hid hc
  clear hc
  generalize hn : xs.length = n at *
  have hm : (n : Int) ≤ 9223372036854775807 := by omega
  go_enter Tryd.func76, Tryd.ntmps76
  go_wp2
  go_loop [8] (fun i => ∃ k : Nat, k ≤ n ∧ i = .int .i64 (k : Int) ∧ Hid (∀ m, m < k → lo ≤ xs.getD m 0 ∧ xs.getD m 0 ≤ hi)) (fun i => n + 1 - (intOf i).toNat)
  case atStart => exact ⟨0, Nat.zero_le _, rfl, fun m h => by omega⟩
  case round =>
    obtain ⟨k, hk, rfl, hr⟩ := hrel
    have i0 : (0 : Int) ≤ (k : Int) := Int.natCast_nonneg _
    by_cases hlt : k < n
    · have c1 := HC.out k hlt
      have i1 : (k : Int) < (n : Int) := by omega
      rcases in_cases (xs.getD k 0) lo hi with ⟨h1, h2⟩ | h1 | ⟨h1, h2⟩
      · have hr' : Hid (∀ m, m < k + 1 → lo ≤ xs.getD m 0 ∧ xs.getD m 0 ≤ hi) := fun m hm => by
          by_cases e : m = k
          · subst e; exact ⟨h1, h2⟩
          · exact hr.out m (by omega)
        clear hr
        generalize xs.getD k 0 = x at *
        go_wp2
        go_round
        case rel => exact ⟨k + 1, by omega, by go_num, hr'⟩
        case measure => simp [intOf]; omega
      · have he := Lib.hid (HN.out k hlt (fun q => dec_no h1 q.1))
        clear hr HY
        generalize xs.getD k 0 = x at *
        go_wp2
        go_ret
        exact ⟨ret_bool he.out.symm, by repeat (first | (with_reducible exact Below.refl _ _) | (with_reducible assumption) | ((with_reducible refine bl_alloc ?_ _ ?_); (focus ((first | omega | (simp <;> omega)); done))) | ((with_reducible refine bl_set ?_ _ ?_); (focus ((first | omega | (simp <;> omega)); done))) | (with_reducible refine below_drewN ?_ _) | (with_reducible refine Below.drew ?_))⟩
      · have he := Lib.hid (HN.out k hlt (fun q => dec_no h2 q.2))
        clear hr HY
        generalize xs.getD k 0 = x at *
        go_wp2
        go_ret
        exact ⟨ret_bool he.out.symm, by repeat (first | (with_reducible exact Below.refl _ _) | (with_reducible assumption) | ((with_reducible refine bl_alloc ?_ _ ?_); (focus ((first | omega | (simp <;> omega)); done))) | ((with_reducible refine bl_set ?_ _ ?_); (focus ((first | omega | (simp <;> omega)); done))) | (with_reducible refine below_drewN ?_ _) | (with_reducible refine Below.drew ?_))⟩
    · obtain rfl : k = n := by omega
      have he := Lib.hid (HY.out hr.out)
      clear hr HN
      go_wp2
      go_ret
      exact ⟨ret_bool he.out.symm, by repeat (first | (with_reducible exact Below.refl _ _) | (with_reducible assumption) | ((with_reducible refine bl_alloc ?_ _ ?_); (focus ((first | omega | (simp <;> omega)); done))) | ((with_reducible refine bl_set ?_ _ ?_); (focus ((first | omega | (simp <;> omega)); done))) | (with_reducible refine below_drewN ?_ _) | (with_reducible refine Below.drew ?_))⟩
end Go.Proofs.YtampjgfddakdoaaDoor
