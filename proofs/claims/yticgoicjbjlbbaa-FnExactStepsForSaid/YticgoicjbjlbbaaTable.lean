/-
  Contracts of the functions that say whether a list is a table of discriminations, and where it first reaches a number. One model. The slices are rows of the call's own.
-/
import Derived.Test.YticgoicjbjlbbaaLib
import Derived.Test.YticgoicjbjlbbaaRows
import Derived.Test.YticgoicjbjlbbaaMaskB
import Derived.Test.YticgoicjbjlbbaaWithin
import Derived.Test.YticgoicjbjlbbaaInt
import Derived.Test.YticgoicjbjlbbaaAll
import Derived.Test.YticgoicjbjlbbaaRises
import Derived.Outline
namespace Go.Proofs.Yticgoicjbjlbbaa
open Go.RowKit
set_option linter.unusedSimpArgs false
set_option linter.unusedVariables false
theorem sort_split (xs : List Int) (hi : Int) : sortB xs hi = (ascB xs && allIn xs 0 hi) := by
  rw [Bool.eq_iff_iff]
  simp only [sortB, ascB, allIn, Bool.and_eq_true, decide_eq_true_eq]
  exact ⟨fun h => ⟨fun k hk => (h k hk).2, fun k hk => (h k hk).1⟩, fun h k hk => ⟨h.2 k hk, h.1 k hk⟩⟩
set_option maxRecDepth 20000 in
set_option maxHeartbeats 2000000 in
theorem tableOk_any (w : World) (v : Value) (xs : List Int) (p : Nat) (h : Row 2 w p v xs) :
    Calls Try.prog 58 #[v] w fun e w' => e = .returned (.bool (tableB xs)) ∧ Below w.heap.size w w' := by
  have HR := Lib.hid h
  by_cases e1 : 1 ≤ xs.length ∧ xs.length ≤ 64
  rotate_left
  · have HE := Lib.hid (table_size e1)
    have hl := h.len
    unfold maxLen at hl
    obtain ⟨A, c, rfl⟩ := h.reads.form
    clear h HR
    generalize xs.length = n at *
    generalize tableB xs = R at *
    by_cases e2 : (n : Int) < 1
    · clear e1
      go_enter Try.func58, Try.ntmps58
      go_wp2_with fail
      go_ret
      exact ⟨ret_bool HE.out.symm, Below.refl _ _⟩
    · have e3 : (64 : Int) < (n : Int) := by omega
      clear e1
      go_enter Try.func58, Try.ntmps58
      go_wp2_with fail
      go_ret
      exact ⟨ret_bool HE.out.symm, Below.refl _ _⟩
  obtain ⟨e1, e2⟩ := e1
  have F3 := Lib.hid (fun h => table_first (xs := xs) h)
  have F4 := Lib.hid (fun h => table_sort (xs := xs) h)
  have F5 := Lib.hid (fun h3 h4 => table_yes (xs := xs) e1 e2 h3 h4)
  have F6 := sort_split xs 120000
  rcases h.forms with ⟨_, h0⟩ | ⟨g, c, rfl, _, la, hc, _⟩
  · rw [h0] at e1
    simp at e1
  have c0 := hc 0 (by omega)
  clear h hc
  generalize tableB xs = R at *
  by_cases e3 : xs.getD 0 0 = 0
  rotate_left
  · have HE := Lib.hid (F3.out e3)
    have hq : (xs.getD 0 0 == 0) = false := by rw [beq_eq_false_iff_ne]; exact e3
    clear F3 F4 F5 F6 e3 HR
    generalize xs.getD 0 0 = x at *
    generalize xs.length = n at *
    have y1 : (1 : Int) ≤ (n : Int) := by omega
    have y2 : (n : Int) ≤ 64 := by omega
    go_enter Try.func58, Try.ntmps58
    go_wp2_with fail
    go_ret
    exact ⟨ret_bool HE.out.symm, Below.refl _ _⟩
  rw [e3] at c0
  have G5 := Lib.hid (F5.out e3)
  have y1 : (1 : Int) ≤ (xs.length : Int) := by omega
  have y2 : (xs.length : Int) ≤ 64 := by omega
  clear F3 F5 e3
  rcases bool_tf (ascB xs) with f1 | f1
  rotate_left
  · have HE := Lib.hid (F4.out (by rw [F6, f1]; rfl))
    have F1 := Lib.hid f1
    clear F4 F6 G5 f1
    go_enter Try.func58, Try.ntmps58
    go_wp2_with fail
    refine (isSorted_any _ _ xs p HR.out).mono ?_
    rintro e w1 ⟨he, k, rfl⟩
    rw [F1.out] at he
    subst he
    go_wp2_with fail
    go_ret
    exact ⟨ret_bool HE.out.symm, by repeat (first | (with_reducible exact Below.refl _ _) | (with_reducible assumption) | ((with_reducible refine bl_alloc ?_ _ ?_); (focus ((first | omega | (simp <;> omega)); done))) | ((with_reducible refine bl_set ?_ _ ?_); (focus ((first | omega | (simp <;> omega)); done))) | (with_reducible refine below_drewN ?_ _) | (with_reducible refine Below.drew ?_))⟩
  rcases bool_tf (allIn xs 0 120000) with f2 | f2
  rotate_left
  · have HE := Lib.hid (F4.out (by rw [F6, f2, Bool.and_false]))
    have F1 := Lib.hid f1
    have F2 := Lib.hid f2
    clear F4 F6 G5 f1 f2
    go_enter Try.func58, Try.ntmps58
    go_wp2_with fail
    refine (isSorted_any _ _ xs p HR.out).mono ?_
    rintro e w1 ⟨he, k, rfl⟩
    rw [F1.out] at he
    subst he
    go_wp2_with fail
    refine (allWithin_any _ _ xs p (HR.out.drewN k) 0 120000).mono ?_
    rintro e w1 ⟨he, hb⟩
    rw [F2.out] at he
    subst he
    have H1 := Lib.hid (show Below w.heap.size w w1 by repeat (first | (with_reducible exact Below.refl _ _) | (with_reducible assumption) | ((with_reducible refine bl_alloc ?_ _ ?_); (focus ((first | omega | (simp <;> omega)); done))) | ((with_reducible refine bl_set ?_ _ ?_); (focus ((first | omega | (simp <;> omega)); done))) | (with_reducible refine below_drewN ?_ _) | (with_reducible refine Below.drew ?_) | ((with_reducible refine bl_trans ?_ hb ?_); (focus ((first | omega | (simp <;> omega)); done)))))
    clear hb
    go_wp2_with fail
    go_ret
    exact ⟨ret_bool HE.out.symm, H1.out⟩
  · have HE := Lib.hid (G5.out (by rw [F6, f1, f2]; rfl))
    have F1 := Lib.hid f1
    have F2 := Lib.hid f2
    clear F4 F6 G5 f1 f2
    go_enter Try.func58, Try.ntmps58
    go_wp2_with fail
    refine (isSorted_any _ _ xs p HR.out).mono ?_
    rintro e w1 ⟨he, k, rfl⟩
    rw [F1.out] at he
    subst he
    go_wp2_with fail
    refine (allWithin_any _ _ xs p (HR.out.drewN k) 0 120000).mono ?_
    rintro e w1 ⟨he, hb⟩
    rw [F2.out] at he
    subst he
    have H1 := Lib.hid (show Below w.heap.size w w1 by repeat (first | (with_reducible exact Below.refl _ _) | (with_reducible assumption) | ((with_reducible refine bl_alloc ?_ _ ?_); (focus ((first | omega | (simp <;> omega)); done))) | ((with_reducible refine bl_set ?_ _ ?_); (focus ((first | omega | (simp <;> omega)); done))) | (with_reducible refine below_drewN ?_ _) | (with_reducible refine Below.drew ?_) | ((with_reducible refine bl_trans ?_ hb ?_); (focus ((first | omega | (simp <;> omega)); done)))))
    clear hb
    go_wp2_with fail
    go_ret
    exact ⟨ret_bool HE.out.symm, H1.out⟩
set_option maxRecDepth 20000 in
set_option maxHeartbeats 2000000 in
theorem l08Table_any (w : World) (v : Value) (xs : List Int) (p : Nat) (h : Row 2 w p v xs) :
    Calls Try.prog 56 #[v] w fun e w' => e = .returned (.bool (tableB xs)) ∧ ∃ d, w' = w.drewN d := by
  have hl := h.len
  unfold maxLen at hl
  have F1 := Lib.hid (fun h => table_size (xs := xs) h)
  have F3 := Lib.hid (fun h => table_first (xs := xs) h)
  have HN := Lib.hid (fun k (hk : k < xs.length) h => table_sort (xs := xs) (sortB_no (k := k) hk h))
  have F5 := Lib.hid (fun h1 h2 h3 h4 => table_yes (xs := xs) h1 h2 h3 (sortB_yes h4))
  rcases h.forms with ⟨rfl, rfl⟩ | ⟨g, c, rfl, _, la, hc, _⟩
  · have he := Lib.hid (F1.out (by simp))
    clear h hl F1 F3 HN F5
    go_enter Try.func56, Try.ntmps56
    go_wp2_with (first | ((with_reducible refine wp_loop_rounds 1 ?_); rw [rounds_succ]) | go_in)
    go_ret
    exact ⟨ret_bool he.out.symm, 0, rfl⟩
  clear h
  generalize tableB xs = R at *
  have HC := Lib.hid hc
  clear hc
  generalize hn : xs.length = n at *
  clear hn
  have hm : (n : Int) ≤ 9223372036854775807 := by omega
  go_enter Try.func56, Try.ntmps56
  go_wp2
  go_loopw [3] (fun i wr => ∃ k : Nat, k ≤ n ∧ i = .int .i64 (k : Int) ∧ Hid (∀ m, m < k → sortP xs 120000 m) ∧ ∃ d, wr = w.drewN d) (fun i _ => n + 1 - (intOf i).toNat)
  case atStart => exact ⟨0, Nat.zero_le _, rfl, fun m h => by omega, 0, rfl⟩
  case round =>
    obtain ⟨k, hk, rfl, hr, d, rfl⟩ := hrel
    have i0 : (0 : Int) ≤ (k : Int) := Int.natCast_nonneg _
    by_cases hlt : k < n
    · have c1 := HC.out k hlt
      have i1 : (k : Int) < (n : Int) := by omega
      rcases bool_tf (inB (xs.getD k 0) 0 120000) with hb | hb
      rotate_left
      · have he := Lib.hid (HN.out k hlt (fun q => by rw [inB_yes q.1.1 q.1.2] at hb; cases hb))
        clear hr F1 F3 HN F5
        generalize xs.getD k 0 = x at *
        go_wp2
        go_quiet ((go_at_call 81; exact quiet_addl (l00In_any _ _ _ _)))
        go_wp2
        go_ret
        exact ⟨ret_bool he.out.symm, _, by rw [World.drewN_drewN]⟩
      cases k with
      | zero =>
        have hr' : Hid (∀ m, m < 0 + 1 → sortP xs 120000 m) := fun m hm => by
          obtain rfl : m = 0 := by omega
          exact ⟨inB_out hb, fun q => absurd q (by omega)⟩
        clear hr F1 F3 HN F5
        generalize xs.getD 0 0 = x at *
        go_wp2
        go_quiet ((go_at_call 81; exact quiet_addl (l00In_any _ _ _ _)))
        go_wp2
        go_roundw
        case rel => exact ⟨0 + 1, by omega, by go_num, hr', _, rfl⟩
        case measure => (simp [intOf] <;> omega)
      | succ j =>
        rw [show ((j + 1 : Nat) : Int) = (j : Int) + 1 by omega] at i0 i1 ⊢
        have c2 := HC.out j (by omega)
        have i2 : (j : Int) < (n : Int) := by omega
        have i3 : (0 : Int) ≤ (j : Int) := Int.natCast_nonneg _
        have i4 : IntKind.i64.wrap ((j : Int) + 1 - 1) = (j : Int) := by rw [IntKind.wrap_i64]; omega
        have i5 : decide ((0 : Int) < (j : Int) + 1) = true := decide_eq_true (by omega)
        by_cases hle : xs.getD j 0 ≤ xs.getD (j + 1) 0
        · have hr' : Hid (∀ m, m < j + 1 + 1 → sortP xs 120000 m) := fun m hm => by
            by_cases e : m = j + 1
            · subst e
              exact ⟨inB_out hb, fun _ => by rw [Nat.add_sub_cancel]; exact hle⟩
            · exact hr.out m (by omega)
          have hle2 : decide (xs.getD (j + 1) 0 < xs.getD j 0) = false := decide_eq_false (by omega)
          clear hr F1 F3 HN F5
          generalize xs.getD (j + 1) 0 = x at *
          generalize xs.getD j 0 = y at *
          go_wp2
          go_quiet ((go_at_call 81; exact quiet_addl (l00In_any _ _ _ _)))
          go_wp2
          go_roundw
          case rel => exact ⟨j + 1 + 1, by omega, by go_num, hr', _, rfl⟩
          case measure => (simp [intOf] <;> omega)
        · have he := Lib.hid (HN.out (j + 1) hlt (fun q => by have := q.2 (by omega); rw [Nat.add_sub_cancel] at this; omega))
          have hle2 : decide (xs.getD (j + 1) 0 < xs.getD j 0) = true := decide_eq_true (by omega)
          clear hr F1 F3 HN F5
          generalize xs.getD (j + 1) 0 = x at *
          generalize xs.getD j 0 = y at *
          go_wp2
          go_quiet ((go_at_call 81; exact quiet_addl (l00In_any _ _ _ _)))
          go_wp2
          go_ret
          exact ⟨ret_bool he.out.symm, _, by rw [World.drewN_drewN]⟩
    · obtain rfl : k = n := by omega
      have hge : ¬ ((k : Int) < (k : Int)) := by omega
      by_cases e1 : 1 ≤ k
      rotate_left
      · have he := Lib.hid (F1.out (fun q => e1 q.1))
        have e1' : (k : Int) ≤ 0 := by omega
        clear hr F1 F3 HN F5 e1
        go_wp2
        go_ret
        exact ⟨ret_bool he.out.symm, d, rfl⟩
      have e1' : (1 : Int) ≤ (k : Int) := by omega
      by_cases e2 : k ≤ 64
      rotate_left
      · have he := Lib.hid (F1.out (fun q => e2 q.2))
        have e2' : (64 : Int) < (k : Int) := by omega
        clear hr F1 F3 HN F5 e2
        go_wp2
        go_ret
        exact ⟨ret_bool he.out.symm, d, rfl⟩
      have e2' : (k : Int) ≤ 64 := by omega
      have c0 := HC.out 0 (by omega)
      by_cases e3 : xs.getD 0 0 = 0
      rotate_left
      · have he := Lib.hid (F3.out e3)
        have hq : (xs.getD 0 0 == 0) = false := by rw [beq_eq_false_iff_ne]; exact e3
        clear hr F1 F3 HN F5 e3
        generalize xs.getD 0 0 = x at *
        go_wp2
        go_ret
        exact ⟨ret_bool he.out.symm, d, rfl⟩
      have he := Lib.hid (F5.out e1 e2 e3 hr.out)
      rw [e3] at c0
      clear hr F1 F3 HN F5 e3
      go_wp2
      go_ret
      exact ⟨ret_bool he.out.symm, d, rfl⟩
theorem l08Steps_any (w : World) (v : Value) (xs : List Int) (p : Nat) (h : Row 2 w p v xs) (need : Int) :
    Calls Try.prog 57 #[v, .int .i64 need] w fun e w' => e = .returned (.int .i64 (firstGe need xs : Int)) ∧ w = w' := by
  have hl := h.len
  unfold maxLen at hl
  rcases h.forms with ⟨rfl, rfl⟩ | ⟨g, c, rfl, _, la, hc, _⟩
  · clear h hl
    go_enter Try.func57, Try.ntmps57
    go_wp2_with (first | ((with_reducible refine wp_loop_rounds 1 ?_); rw [rounds_succ]) | go_in)
    go_ret
    exact ⟨rfl, rfl⟩
  clear h
  have H0 : Hid (firstGe need xs = 0 + firstGe need (xs.drop 0)) := by show _ = _; simp
  have HD := Lib.hid (fun k => firstGe_drop (need := need) (xs := xs) (k := k))
  have HL : Hid (firstGe need (xs.drop xs.length) = 0) := by show _ = _; simp [firstGe]
  generalize firstGe need xs = R at *
  have HC := Lib.hid hc
  clear hc
  generalize hn : xs.length = n at *
  clear hn
  have hm : (n : Int) ≤ 9223372036854775807 := by omega
  go_enter Try.func57, Try.ntmps57
  go_wp2
  go_loop [5] (fun i => ∃ k : Nat, k ≤ n ∧ i = .int .i64 (k : Int) ∧ Hid (R = k + firstGe need (xs.drop k))) (fun i => n + 1 - (intOf i).toNat)
  case atStart => exact ⟨0, Nat.zero_le _, rfl, H0⟩
  case round =>
    obtain ⟨k, hk, rfl, hr⟩ := hrel
    have i0 : (0 : Int) ≤ (k : Int) := Int.natCast_nonneg _
    by_cases hlt : k < n
    · have c1 := HC.out k hlt
      have i1 : (k : Int) < (n : Int) := by omega
      obtain ⟨p1, p2⟩ := HD.out k hlt
      by_cases hge : need ≤ xs.getD k 0
      · have he := Lib.hid (show R = k by have := hr.out; rw [p1 hge] at this; exact this)
        clear hr p1 p2 H0 HD HL
        generalize xs.getD k 0 = x at *
        go_wp2
        go_ret
        exact ⟨ret_int (by rw [he.out]), rfl⟩
      · have hr' : Hid (R = (k + 1) + firstGe need (xs.drop (k + 1))) := by have := hr.out; rw [p2 (by omega)] at this; show R = _; omega
        have hge' : xs.getD k 0 < need := by omega
        clear hr p1 p2 H0 HD HL hge
        generalize xs.getD k 0 = x at *
        go_wp2
        go_round
        case rel => exact ⟨k + 1, by omega, by go_num, hr'⟩
        case measure => (simp [intOf] <;> omega)
    · obtain rfl : k = n := by omega
      have he := Lib.hid (show R = k by have := hr.out; rw [HL.out] at this; exact this)
      clear hr H0 HD HL
      go_wp2
      go_ret
      exact ⟨ret_int (by rw [he.out]), rfl⟩
def whereOf (need : Int) (xs : List Int) : Int := if firstGe need xs < xs.length then (firstGe need xs : Int) else -1
theorem where_yes {need : Int} {xs : List Int} (h : firstGe need xs < xs.length) : whereOf need xs = firstGe need xs := if_pos h
theorem where_no {need : Int} {xs : List Int} (h : ¬ firstGe need xs < xs.length) : whereOf need xs = -1 := if_neg h
theorem indexGe_any (w : World) (v : Value) (xs : List Int) (p : Nat) (h : Row 2 w p v xs) (need : Int) (o : Nat) (x0 : w.cell? ⟨o, 0, none⟩ = some (.int .i64 need)) :
    Calls Try.prog 59 #[v, .func (.func 60) #[] #[.pointer (some ⟨o, 0, none⟩)]] w fun e w' => e = .returned (.int .i64 (whereOf need xs)) ∧ w = w' := by
  have hl := h.len
  unfold maxLen at hl
  rcases h.forms with ⟨rfl, rfl⟩ | ⟨g, c, rfl, _, la, hc, _⟩
  · clear h hl
    go_enter Try.func59, Try.ntmps59
    go_wp2_with (first | ((with_reducible refine wp_loop_rounds 1 ?_); rw [rounds_succ]) | go_in)
    go_ret
    exact ⟨rfl, rfl⟩
  clear h
  have H0 : Hid (firstGe need xs = 0 + firstGe need (xs.drop 0)) := by show _ = _; simp
  have HD := Lib.hid (fun k => firstGe_drop (need := need) (xs := xs) (k := k))
  have HL : Hid (firstGe need (xs.drop xs.length) = 0) := by show _ = _; simp [firstGe]
  have HW1 := Lib.hid (where_yes (need := need) (xs := xs))
  have HW2 := Lib.hid (where_no (need := need) (xs := xs))
  generalize whereOf need xs = W at *
  generalize firstGe need xs = R at *
  have HC := Lib.hid hc
  clear hc
  generalize hn : xs.length = n at *
  clear hn
  have hm : (n : Int) ≤ 9223372036854775807 := by omega
  go_enter Try.func59, Try.ntmps59
  go_wp2
  go_loop [8] (fun i => ∃ k : Nat, k ≤ n ∧ i = .int .i64 (k : Int) ∧ Hid (R = k + firstGe need (xs.drop k))) (fun i => n + 1 - (intOf i).toNat)
  case atStart => exact ⟨0, Nat.zero_le _, rfl, H0⟩
  case round =>
    obtain ⟨k, hk, rfl, hr⟩ := hrel
    have i0 : (0 : Int) ≤ (k : Int) := Int.natCast_nonneg _
    by_cases hlt : k < n
    · have c1 := HC.out k hlt
      have i1 : (k : Int) < (n : Int) := by omega
      obtain ⟨p1, p2⟩ := HD.out k hlt
      by_cases hge : need ≤ xs.getD k 0
      · have he := Lib.hid (show W = k by have := hr.out; rw [p1 hge] at this; rw [HW1.out (by omega)]; omega)
        clear hr p1 p2 H0 HD HL HW1 HW2
        generalize xs.getD k 0 = x at *
        go_wp2
        go_ret
        exact ⟨ret_int (by rw [he.out]), rfl⟩
      · have hr' : Hid (R = (k + 1) + firstGe need (xs.drop (k + 1))) := by have := hr.out; rw [p2 (by omega)] at this; show R = _; omega
        have hge' : xs.getD k 0 < need := by omega
        clear hr p1 p2 H0 HD HL hge HW1 HW2
        generalize xs.getD k 0 = x at *
        go_wp2
        go_round
        case rel => exact ⟨k + 1, by omega, by go_num, hr'⟩
        case measure => (simp [intOf] <;> omega)
    · obtain rfl : k = n := by omega
      have he := Lib.hid (show W = -1 by have := hr.out; rw [HL.out] at this; exact HW2.out (by omega))
      clear hr H0 HD HL HW1 HW2
      go_wp2
      go_ret
      exact ⟨ret_int (by rw [he.out]), rfl⟩
end Go.Proofs.Yticgoicjbjlbbaa
