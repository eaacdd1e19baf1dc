/-
  Contract of the reference's function that says whether a mask is valid. The slices are rows of the call's own.
-/
import Derived.Test.YtampjgfddakdoaaDoorLib
import Derived.Test.YtampjgfddakdoaaDoorRows
import Derived.Test.YtampjgfddakdoaaDoorMaskB
import Derived.Test.YtampjgfddakdoaaDoorWithin
import Derived.Test.YtampjgfddakdoaaDoorInt
import Derived.Test.YtampjgfddakdoaaDoorRises
import Derived.Deep.QuietTactic
import Derived.BigQuiet
namespace Go.Proofs.YtampjgfddakdoaaDoor
open Go.RowKit
set_option linter.unusedSimpArgs false
set_option linter.unusedVariables false
set_option maxHeartbeats 4000000 in
theorem l08Ok_any (w : World) (o : Nat) (a : Value) (xs : List Int) (p : Nat) (ha : Row 2 w p a xs) (b : Value) (ys : List Int) (q : Nat) (hb : Row 2 w q b ys)
    (x0 : w.cell? ⟨o, 0, none⟩ = some a) (x1 : w.cell? ⟨o, 1, none⟩ = some b) :
    Calls Tryd.prog 23 #[.pointer (some ⟨o, 0, none⟩)] w fun e w' => e = .returned (.bool (maskB xs ys)) ∧ ∃ d, w' = w.drewN d := by
  have HA := Lib.hid ha
  have HB := Lib.hid hb
  have l1 := ha.len
  have l2 := hb.len
  unfold maxLen at l1 l2
  have z1 : (xs.length : Int) ≤ 9223372036854775807 := by omega
  have z2 : (ys.length : Int) ≤ 9223372036854775807 := by omega
  by_cases e1 : 2 ≤ xs.length ∧ xs.length ≤ 12
  rotate_left
  · have HE := Lib.hid (mask_size (ys := ys) e1)
    obtain ⟨A, c, rfl⟩ := ha.reads.form
    obtain ⟨A', c', rfl⟩ := hb.reads.form
    clear ha hb HA HB
    generalize xs.length = n at *
    generalize ys.length = n' at *
    generalize maskB xs ys = R at *
    by_cases e2 : (n : Int) < 2
    · clear e1
      go_enter Tryd.func23, Tryd.ntmps23
      go_wp2_with fail
      go_ret
      exact ⟨ret_bool HE.out.symm, 0, rfl⟩
    · have e3 : (12 : Int) < (n : Int) := by omega
      clear e1
      go_enter Tryd.func23, Tryd.ntmps23
      go_wp2_with fail
      go_ret
      exact ⟨ret_bool HE.out.symm, 0, rfl⟩
  obtain ⟨e1, e2⟩ := e1
  by_cases e3 : ys.length = xs.length
  rotate_left
  · have HE := Lib.hid (mask_len e3)
    have hq : ((ys.length : Int) != (xs.length : Int)) = true := by rw [bne_iff_ne]; omega
    have hq2 : ((ys.length : Int) == (xs.length : Int)) = false := by rw [beq_eq_false_iff_ne]; omega
    obtain ⟨A, c, rfl⟩ := ha.reads.form
    obtain ⟨A', c', rfl⟩ := hb.reads.form
    clear ha hb HA HB e3
    generalize xs.length = n at *
    generalize ys.length = n' at *
    generalize maskB xs ys = R at *
    have y1 : (2 : Int) ≤ (n : Int) := by omega
    have y2 : (n : Int) ≤ 12 := by omega
    go_enter Tryd.func23, Tryd.ntmps23
    go_wp2_with fail
    go_ret
    exact ⟨ret_bool HE.out.symm, 0, rfl⟩
  have F4 := Lib.hid (fun h => mask_o (xs := xs) (ys := ys) h)
  have F5 := Lib.hid (fun h => mask_l (xs := xs) (ys := ys) h)
  have F6 := Lib.hid (fun h => mask_rise (xs := xs) (ys := ys) h)
  have F7 := Lib.hid (fun k (hk : k < ys.length) h => mask_sort (xs := xs) (ys := ys) (sortB_no (k := k) hk h))
  have F8 := Lib.hid (fun h4 h5 h6 h7 => mask_yes (xs := xs) (ys := ys) e1 e2 e3 h4 h5 h6 (sortB_yes h7))
  rcases ha.forms with ⟨_, h0⟩ | ⟨g, c, rfl, _, la, hc, _⟩
  · rw [h0] at e1
    simp at e1
  rcases hb.forms with ⟨_, h0⟩ | ⟨g', c', rfl, _, lb, hc', _⟩
  · rw [← e3, h0] at e1
    simp at e1
  rw [e3] at *
  generalize xs.length = n at *
  have y1 : (2 : Int) ≤ (n : Int) := by omega
  have y2 : (n : Int) ≤ 12 := by omega
  have a0 := hc 0 (by omega)
  have b0 := hc' 0 (by omega)
  generalize maskB xs ys = R at *
  have HC := Lib.hid hc'
  clear ha hb hc hc' e3 l1 l2 z1 z2
  by_cases e4 : xs.getD 0 0 = 0
  rotate_left
  · have HE := Lib.hid (F4.out e4)
    have hq : (xs.getD 0 0 != 0) = true := bne_iff_ne.2 e4
    clear F4 F5 F6 F7 F8 e4
    generalize xs.getD 0 0 = x at *
    generalize ys.getD 0 0 = y at *
    go_enter Tryd.func23, Tryd.ntmps23
    go_wp2_with fail
    go_ret
    exact ⟨ret_bool HE.out.symm, 0, rfl⟩
  by_cases e5 : ys.getD 0 0 = 0
  rotate_left
  · have HE := Lib.hid (F5.out e5)
    have hq : (ys.getD 0 0 != 0) = true := bne_iff_ne.2 e5
    rw [e4] at a0
    clear F4 F5 F6 F7 F8 e4 e5
    generalize ys.getD 0 0 = y at *
    go_enter Tryd.func23, Tryd.ntmps23
    go_wp2_with fail
    go_ret
    exact ⟨ret_bool HE.out.symm, 0, rfl⟩
  have G8 := Lib.hid (F8.out e4 e5)
  rw [e4] at a0
  rw [e5] at b0
  clear F4 F5 F8 e4 e5
  rcases bool_tf (riseB xs 100000) with f1 | f1
  rotate_left
  · have HE := Lib.hid (F6.out f1)
    have F1 := Lib.hid f1
    clear F6 F7 G8 f1
    go_enter Tryd.func23, Tryd.ntmps23
    go_wp2_with fail
    refine (l00Rises_any _ _ xs p HA.out 100000).mono ?_
    rintro e w1 ⟨he, k, rfl⟩
    rw [F1.out] at he
    subst he
    go_wp2_with fail
    go_ret
    exact ⟨ret_bool HE.out.symm, k, rfl⟩
  have G7 := Lib.hid (G8.out f1)
  have F1 := Lib.hid f1
  clear F6 G8 f1
  go_enter Tryd.func23, Tryd.ntmps23
  go_wp2_with fail
  refine (l00Rises_any _ _ xs p HA.out 100000).mono ?_
  rintro e w1 ⟨he, d0, rfl⟩
  rw [F1.out] at he
  subst he
  go_wp2_with fail
  go_loopw [4] (fun i wr => ∃ k : Nat, k ≤ n ∧ i = .int .i64 (k : Int) ∧ Hid (∀ m, m < k → sortP ys 120000 m) ∧ ∃ d, wr = w.drewN d) (fun i _ => n + 1 - (intOf i).toNat)
  case atStart => exact ⟨0, Nat.zero_le _, rfl, fun m h => by omega, d0, rfl⟩
  case round =>
    obtain ⟨k, hk, rfl, hr, d, rfl⟩ := hrel
    have i0 : (0 : Int) ≤ (k : Int) := Int.natCast_nonneg _
    by_cases hlt : k < n
    · have c1 := HC.out k hlt
      have i1 : (k : Int) < (n : Int) := by omega
      rcases bool_tf (inB (ys.getD k 0) 0 120000) with hb | hb
      rotate_left
      · have he := Lib.hid (F7.out k hlt (fun q => by rw [inB_yes q.1.1 q.1.2] at hb; cases hb))
        clear hr F7 G7
        generalize ys.getD k 0 = x at *
        go_wp2
        go_quiet ((go_at_call 42; exact quiet_addl (l00In_any _ _ _ _)))
        go_wp2
        go_ret
        exact ⟨ret_bool he.out.symm, _, by rw [World.drewN_drewN]⟩
      cases k with
      | zero =>
        have hr' : Hid (∀ m, m < 0 + 1 → sortP ys 120000 m) := fun m hm => by
          obtain rfl : m = 0 := by omega
          exact ⟨inB_out hb, fun q => absurd q (by omega)⟩
        clear hr F7 G7 b0
        generalize ys.getD 0 0 = x at *
        go_wp2
        go_quiet ((go_at_call 42; exact quiet_addl (l00In_any _ _ _ _)))
        go_wp2
        go_roundw
        case rel => exact ⟨0 + 1, by omega, by go_num, hr', _, rfl⟩
        case measure => (simp [intOf] <;> omega)
      | succ j =>
        rw [show ((j + 1 : Nat) : Int) = (j : Int) + 1 by omega] at i0 i1 ⊢
        have c2 := HC.out j (by omega)
        have i2 : (j : Int) < (n : Int) := by omega
        have i3 : (0 : Int) ≤ (j : Int) := Int.natCast_nonneg _
        have i4 : IntKind.i64.wrap ((j : Int) + 1 - 1) = (j : Int) := by rw [IntKind.wrap_i64]; omega
        have i5 : decide ((0 : Int) < (j : Int) + 1) = true := decide_eq_true (by omega)
        by_cases hle : ys.getD j 0 ≤ ys.getD (j + 1) 0
        · have hr' : Hid (∀ m, m < j + 1 + 1 → sortP ys 120000 m) := fun m hm => by
            by_cases e : m = j + 1
            · subst e
              exact ⟨inB_out hb, fun _ => by rw [Nat.add_sub_cancel]; exact hle⟩
            · exact hr.out m (by omega)
          have hle2 : decide (ys.getD (j + 1) 0 < ys.getD j 0) = false := decide_eq_false (by omega)
          clear hr F7 G7
          generalize ys.getD (j + 1) 0 = x at *
          generalize ys.getD j 0 = y at *
          go_wp2
          go_quiet ((go_at_call 42; exact quiet_addl (l00In_any _ _ _ _)))
          go_wp2
          go_roundw
          case rel => exact ⟨j + 1 + 1, by omega, by go_num, hr', _, rfl⟩
          case measure => (simp [intOf] <;> omega)
        · have he := Lib.hid (F7.out (j + 1) hlt (fun q => by have := q.2 (by omega); rw [Nat.add_sub_cancel] at this; omega))
          have hle2 : decide (ys.getD (j + 1) 0 < ys.getD j 0) = true := decide_eq_true (by omega)
          clear hr F7 G7
          generalize ys.getD (j + 1) 0 = x at *
          generalize ys.getD j 0 = y at *
          go_wp2
          go_quiet ((go_at_call 42; exact quiet_addl (l00In_any _ _ _ _)))
          go_wp2
          go_ret
          exact ⟨ret_bool he.out.symm, _, by rw [World.drewN_drewN]⟩
    · obtain rfl : k = n := by omega
      have he := Lib.hid (G7.out hr.out)
      clear hr F7 G7
      go_wp2
      go_ret
      exact ⟨ret_bool he.out.symm, d, rfl⟩
end Go.Proofs.YtampjgfddakdoaaDoor
