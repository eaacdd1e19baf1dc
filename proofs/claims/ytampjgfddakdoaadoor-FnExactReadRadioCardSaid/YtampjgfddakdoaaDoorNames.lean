/-
  Contracts of the functions that say whether a text is a name: the program's and the reference's. One model: a byte at least, ten at most, a small letter first, small letters and digits.
-/
import Derived.Test.YtampjgfddakdoaaDoorLib
import Derived.Test.YtampjgfddakdoaaDoorRows
namespace Go.Proofs.YtampjgfddakdoaaDoor
open Go.RowKit
set_option linter.unusedSimpArgs false
set_option linter.unusedVariables false
def smallB (n : Nat) : Bool := decide (97 ≤ n ∧ n ≤ 122)
def wordB (n : Nat) : Bool := decide ((97 ≤ n ∧ n ≤ 122) ∨ (48 ≤ n ∧ n ≤ 57))
def allWord (s : ByteArray) : Bool := decide (∀ j, (h : j < s.size) → wordB (s[j]'h).toNat = true)
def nameB (s : ByteArray) : Bool := if h : 0 < s.size then decide (s.size ≤ 10) && smallB (s[0]'h).toNat && allWord s else false
theorem allWord_yes {s : ByteArray} (h : ∀ j, (h : j < s.size) → wordB (s[j]'h).toNat = true) : allWord s = true := decide_eq_true h
theorem allWord_no {s : ByteArray} {j : Nat} (h : j < s.size) (hb : wordB (s[j]'h).toNat = false) : allWord s = false := decide_eq_false fun k => by rw [k j h] at hb; cases hb
theorem wordB_yes {n : Nat} (h : wordB n = true) : (97 ≤ n ∧ n ≤ 122) ∨ (48 ≤ n ∧ n ≤ 57) := of_decide_eq_true h
theorem wordB_no {n : Nat} (h : wordB n = false) : ¬ ((97 ≤ n ∧ n ≤ 122) ∨ (48 ≤ n ∧ n ≤ 57)) := of_decide_eq_false h
theorem byte_cases (n : Nat) : (97 ≤ (n : Int) ∧ (n : Int) ≤ 122 ∧ wordB n = true) ∨ (48 ≤ (n : Int) ∧ (n : Int) ≤ 57 ∧ decide (97 ≤ (n : Int)) = false ∧ wordB n = true) ∨ (decide (97 ≤ (n : Int)) = false ∧ decide (48 ≤ (n : Int)) = false ∧ (n : Int) < 48 ∧ wordB n = false) ∨
    (decide (97 ≤ (n : Int)) = false ∧ decide ((n : Int) ≤ 57) = false ∧ 57 < (n : Int) ∧ (n : Int) < 97 ∧ wordB n = false) ∨ (97 ≤ (n : Int) ∧ decide ((n : Int) ≤ 122) = false ∧ decide ((n : Int) ≤ 57) = false ∧ 122 < (n : Int) ∧ wordB n = false) := by
  by_cases h1 : 97 ≤ n ∧ n ≤ 122
  · exact .inl ⟨by omega, by omega, decide_eq_true (.inl h1)⟩
  by_cases h2 : 48 ≤ n ∧ n ≤ 57
  · exact .inr (.inl ⟨by omega, by omega, decide_eq_false (by omega), decide_eq_true (.inr h2)⟩)
  have h3 : wordB n = false := decide_eq_false (fun h => h.elim h1 h2)
  have h4 : n < 48 ∨ (57 < n ∧ n < 97) ∨ 122 < n := by omega
  rcases h4 with h | ⟨h, h'⟩ | h
  · exact .inr (.inr (.inl ⟨decide_eq_false (by omega), decide_eq_false (by omega), by omega, h3⟩))
  · exact .inr (.inr (.inr (.inl ⟨decide_eq_false (by omega), decide_eq_false (by omega), by omega, by omega, h3⟩)))
  · exact .inr (.inr (.inr (.inr ⟨by omega, decide_eq_false (by omega), decide_eq_false (by omega), by omega, h3⟩)))
theorem word_next {s : ByteArray} {j : Nat} (hl : j < s.size) (hr : ∀ k, (h : k < s.size) → k < j → wordB (s[k]'h).toNat = true) (hb : wordB (s[j]'hl).toNat = true) :
    ∀ k, (h : k < s.size) → k < j + 1 → wordB (s[k]'h).toNat = true := fun k h hk => by
  by_cases e : k = j
  · subst e; exact hb
  · exact hr k h (by omega)
theorem name_empty {s : ByteArray} (h : s.size = 0) : nameB s = false := dif_neg (by omega)
theorem name_long {s : ByteArray} (h : 10 < s.size) : nameB s = false := by
  unfold nameB
  rw [dif_pos (by omega), decide_eq_false (by omega)]
  rfl
theorem name_first {s : ByteArray} (h : 0 < s.size) (hb : smallB (s[0]'h).toNat = false) : nameB s = false := by
  unfold nameB
  rw [dif_pos h, hb]
  simp
theorem name_word {s : ByteArray} (h : 0 < s.size) (h' : s.size ≤ 10) (hb : smallB (s[0]'h).toNat = true) : nameB s = allWord s := by
  unfold nameB
  rw [dif_pos h, hb, decide_eq_true h']
  rfl
theorem first_cases (n : Nat) : (97 ≤ (n : Int) ∧ (n : Int) ≤ 122 ∧ smallB n = true) ∨ (decide (97 ≤ (n : Int)) = false ∧ (n : Int) < 97 ∧ smallB n = false) ∨ (97 ≤ (n : Int) ∧ decide ((n : Int) ≤ 122) = false ∧ 122 < (n : Int) ∧ smallB n = false) := by
  by_cases h1 : n < 97
  · exact .inr (.inl ⟨decide_eq_false (by omega), by omega, decide_eq_false (by omega)⟩)
  by_cases h2 : n ≤ 122
  · exact .inl ⟨by omega, by omega, decide_eq_true (by omega)⟩
  · exact .inr (.inr ⟨by omega, decide_eq_false (by omega), by omega, decide_eq_false (by omega)⟩)
theorem onlyNameBytes_any (w : World) (s : ByteArray) (hs : s.size ≤ 10) :
    Calls Tryd.prog 71 #[.string s] w fun e w' => e = .returned (.bool (allWord s)) ∧ w' = w := by
  go_enter Tryd.func71, Tryd.ntmps71
  go_wp2_with fail
  go_loop [7] (fun i => ∃ j : Nat, j ≤ s.size ∧ i = .int .i64 (j : Int) ∧ Hid (∀ k, (h : k < s.size) → k < j → wordB (s[k]'h).toNat = true)) (fun i => s.size + 1 - (intOf i).toNat)
  case atStart => exact ⟨0, by omega, rfl, fun k _ h => by omega⟩
  case round =>
    obtain ⟨j, hj, rfl, hr⟩ := hrel
    have i0 : (0 : Int) ≤ (j : Int) := Int.natCast_nonneg _
    by_cases hl : j < s.size
    · have i1 : (j : Int) < (s.size : Int) := by omega
      have h9 : (0 : Int) ≤ (j : Int) ∧ (j : Int) < (s.size : Int) := ⟨i0, i1⟩
      rcases byte_cases (s[j]'hl).toNat with ⟨b1, b2, e⟩ | ⟨b1, b2, b3, e⟩ | ⟨b1, b2, b3, e⟩ | ⟨b1, b2, b3, b4, e⟩ | ⟨b1, b2, b3, b4, e⟩
      · have hn := Lib.hid (word_next hl hr.out e)
        clear hr e
        go_wp2_with fail
        go_round
        case rel => exact ⟨j + 1, by omega, by go_num, hn⟩
        case measure => simp [intOf]; omega
      · have hn := Lib.hid (word_next hl hr.out e)
        clear hr e
        go_wp2_with fail
        go_round
        case rel => exact ⟨j + 1, by omega, by go_num, hn⟩
        case measure => simp [intOf]; omega
      · have he := Lib.hid (allWord_no hl e)
        clear hr e
        go_wp2_with fail
        go_ret
        exact ⟨ret_bool he.out.symm, rfl⟩
      · have he := Lib.hid (allWord_no hl e)
        clear hr e
        go_wp2_with fail
        go_ret
        exact ⟨ret_bool he.out.symm, rfl⟩
      · have he := Lib.hid (allWord_no hl e)
        clear hr e
        go_wp2_with fail
        go_ret
        exact ⟨ret_bool he.out.symm, rfl⟩
    · have he := Lib.hid (allWord_yes fun k h => hr.out k h (by omega))
      clear hr
      go_wp2_with fail
      go_ret
      exact ⟨ret_bool he.out.symm, rfl⟩
theorem IsName_any (w : World) (s : ByteArray) (hs : s.size ≤ maxLen) :
    Calls Tryd.prog 53 #[.string s] w fun e w' => e = .returned (.bool (nameB s)) ∧ w' = w := by
  have hs' : s.size ≤ 9223372036854775807 := by unfold maxLen at hs; omega
  by_cases h0 : s.size = 0
  · have he := Lib.hid (name_empty h0)
    go_enter Tryd.func53, Tryd.ntmps53
    go_wp2_with fail
    go_ret
    exact ⟨ret_bool he.out.symm, rfl⟩
  by_cases h1 : 10 < s.size
  · have he := Lib.hid (name_long h1)
    have z1 : (1 : Int) ≤ (s.size : Int) := by omega
    have z2 : (10 : Int) < (s.size : Int) := by omega
    go_enter Tryd.func53, Tryd.ntmps53
    go_wp2_with fail
    go_ret
    exact ⟨ret_bool he.out.symm, rfl⟩
  have hl : 0 < s.size := by omega
  have z1 : (1 : Int) ≤ (s.size : Int) := by omega
  have z2 : (s.size : Int) ≤ 10 := by omega
  rcases first_cases (s[0]'hl).toNat with ⟨b1, b2, e⟩ | ⟨b1, b2, e⟩ | ⟨b1, b2, b3, e⟩
  · have he := Lib.hid (name_word hl (by omega) e)
    clear e
    go_enter Tryd.func53, Tryd.ntmps53
    go_wp2_with fail
    refine (onlyNameBytes_any _ s (by omega)).mono ?_
    rintro e w1 ⟨rfl, rfl⟩
    go_wp2_with fail
    go_ret
    exact ⟨ret_bool he.out.symm, rfl⟩
  · have he := Lib.hid (name_first hl e)
    clear e
    go_enter Tryd.func53, Tryd.ntmps53
    go_wp2_with fail
    go_ret
    exact ⟨ret_bool he.out.symm, rfl⟩
  · have he := Lib.hid (name_first hl e)
    clear e
    go_enter Tryd.func53, Tryd.ntmps53
    go_wp2_with fail
    go_ret
    exact ⟨ret_bool he.out.symm, rfl⟩
theorem l01Name_any (w : World) (s : ByteArray) (hs : s.size ≤ maxLen) :
    Calls Tryd.prog 48 #[.string s] w fun e w' => e = .returned (.bool (nameB s)) ∧ w' = w := by
  have hs' : s.size ≤ 9223372036854775807 := by unfold maxLen at hs; omega
  by_cases h0 : s.size = 0
  · have he := Lib.hid (name_empty h0)
    have q : (s.toList == []) = true := by
      rw [ByteArray.toList_eq, List.eq_nil_of_length_eq_zero (show s.data.toList.length = 0 by simpa using h0)]
      rfl
    go_enter Tryd.func48, Tryd.ntmps48
    go_wp2
    go_ret
    exact ⟨ret_bool he.out.symm, rfl⟩
  have q : (s.toList == []) = false := by
    rw [ByteArray.toList_eq]
    cases hh : s.data.toList with
    | nil => exact absurd (by simpa using congrArg List.length hh) h0
    | cons a l => rfl
  by_cases h1 : 10 < s.size
  · have he := Lib.hid (name_long h1)
    have z2 : (10 : Int) < (s.size : Int) := by omega
    go_enter Tryd.func48, Tryd.ntmps48
    go_wp2
    go_ret
    exact ⟨ret_bool he.out.symm, rfl⟩
  have hl : 0 < s.size := by omega
  have z1 : (1 : Int) ≤ (s.size : Int) := by omega
  have z2 : (s.size : Int) ≤ 10 := by omega
  rcases first_cases (s[0]'hl).toNat with ⟨b1, b2, e⟩ | ⟨b1, b2, e⟩ | ⟨b1, b2, b3, e⟩
  · have he := Lib.hid (name_word hl (by omega) e)
    clear e
    go_enter Tryd.func48, Tryd.ntmps48
    go_wp2_with ((go_at_call 63; go_in))
    clear b1 b2 q
    go_loop [3] (fun i => ∃ j : Nat, j ≤ s.size ∧ i = .int .i64 (j : Int) ∧ Hid (∀ k, (h : k < s.size) → k < j → wordB (s[k]'h).toNat = true)) (fun i => s.size + 1 - (intOf i).toNat)
    case atStart => exact ⟨0, by omega, rfl, fun k _ h => by omega⟩
    case round =>
      obtain ⟨j, hj, rfl, hr⟩ := hrel
      have i0 : (0 : Int) ≤ (j : Int) := Int.natCast_nonneg _
      by_cases hl : j < s.size
      · have i1 : (j : Int) < (s.size : Int) := by omega
        have h9 : (0 : Int) ≤ (j : Int) ∧ (j : Int) < (s.size : Int) := ⟨i0, i1⟩
        rcases byte_cases (s[j]'hl).toNat with ⟨b1, b2, e⟩ | ⟨b1, b2, b3, e⟩ | ⟨b1, b2, b3, e⟩ | ⟨b1, b2, b3, b4, e⟩ | ⟨b1, b2, b3, b4, e⟩
        · have hn := Lib.hid (word_next hl hr.out e)
          clear hr e
          go_wp2
          go_round
          case rel => exact ⟨j + 1, by omega, by go_num, hn⟩
          case measure => simp [intOf]; omega
        · have hn := Lib.hid (word_next hl hr.out e)
          clear hr e
          go_wp2
          go_round
          case rel => exact ⟨j + 1, by omega, by go_num, hn⟩
          case measure => simp [intOf]; omega
        · have he' := Lib.hid (he.out.trans (allWord_no hl e))
          clear hr e
          go_wp2
          go_ret
          exact ⟨ret_bool he'.out.symm, rfl⟩
        · have he' := Lib.hid (he.out.trans (allWord_no hl e))
          clear hr e
          go_wp2
          go_ret
          exact ⟨ret_bool he'.out.symm, rfl⟩
        · have he' := Lib.hid (he.out.trans (allWord_no hl e))
          clear hr e
          go_wp2
          go_ret
          exact ⟨ret_bool he'.out.symm, rfl⟩
      · have he' := Lib.hid (he.out.trans (allWord_yes fun k h => hr.out k h (by omega)))
        clear hr
        go_wp2
        go_ret
        exact ⟨ret_bool he'.out.symm, rfl⟩
  · have he := Lib.hid (name_first hl e)
    clear e
    go_enter Tryd.func48, Tryd.ntmps48
    go_wp2
    go_ret
    exact ⟨ret_bool he.out.symm, rfl⟩
  · have he := Lib.hid (name_first hl e)
    clear e
    go_enter Tryd.func48, Tryd.ntmps48
    go_wp2
    go_ret
    exact ⟨ret_bool he.out.symm, rfl⟩
end Go.Proofs.YtampjgfddakdoaaDoor
