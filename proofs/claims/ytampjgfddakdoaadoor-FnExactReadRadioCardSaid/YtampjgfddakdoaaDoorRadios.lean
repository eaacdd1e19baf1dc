/-
  Contracts of the functions that say whether a radio is valid: the program's on the value, the reference's behind a pointer. One model. The modes are a row of the call's own.
-/
import Derived.Test.YtampjgfddakdoaaDoorLib
import Derived.Test.YtampjgfddakdoaaDoorRows
import Derived.Test.YtampjgfddakdoaaDoorNames
import Derived.Test.YtampjgfddakdoaaDoorRadioB
import Derived.Test.YtampjgfddakdoaaDoorModes
import Derived.Test.YtampjgfddakdoaaDoorInt
import Derived.Test.YtampjgfddakdoaaDoorWithin
namespace Go.Proofs.YtampjgfddakdoaaDoor
open Go.RowKit
set_option linter.unusedSimpArgs false
set_option linter.unusedVariables false
set_option maxHeartbeats 4000000 in
theorem ValidRadio_any (w : World) (s : ByteArray) (is : s.size ≤ maxLen) (p f n wd : Int) (v : Value) (ms : List (Int × Int)) (q : Nat) (hr : RowM 57 w q v ms) :
    Calls Tryd.prog 35 #[.agg #[.string s, .int .i64 p, .int .i64 f, .int .i64 n, .int .i64 wd, v]] w fun e w' => e = .returned (.bool (radB s p f n wd ms)) ∧ Below w.heap.size w w' := by
  have hl := hr.len
  unfold maxLen at hl
  have IS := Lib.hid is
  clear is
  rcases bool_tf (nameB s) with e1 | e1
  rotate_left
  · have HE := Lib.hid (rad_name (p := p) (f := f) (n := n) (wd := wd) (ms := ms) e1)
    obtain ⟨A, c, rfl⟩ := hr.reads.form
    clear hr
    generalize ms.length = m at *
    generalize radB s p f n wd ms = R at *
    go_enter Tryd.func35, Tryd.ntmps35
    go_wp2_with fail
    refine (IsName_any _ s IS.out).mono ?_
    rintro e w1 ⟨rfl, rfl⟩
    go_wp2_with (go_at_call 54; go_in)
    go_ret
    exact ⟨ret_bool HE.out.symm, by repeat (first | (with_reducible exact Below.refl _ _) | (with_reducible assumption) | ((with_reducible refine bl_alloc ?_ _ ?_); (focus ((first | omega | (simp <;> omega)); done))) | ((with_reducible refine bl_set ?_ _ ?_); (focus ((first | omega | (simp <;> omega)); done))) | (with_reducible refine below_drewN ?_ _) | (with_reducible refine Below.drew ?_))⟩
  rcases nums_cases p f n wd ms.length with ⟨hn, ⟨a1, a2⟩, ⟨b1, b2⟩, ⟨c1, c2⟩, ⟨d1, d2⟩, m1, m8⟩ | ⟨hn, h⟩
  rotate_left
  · have HE := Lib.hid (rad_nums (s := s) hn)
    obtain ⟨A, c, rfl⟩ := hr.reads.form
    clear hr hn
    generalize ms.length = m at *
    generalize radB s p f n wd ms = R at *
    rcases h with h | ⟨h, h'⟩ | ⟨⟨a1, a2⟩, h | ⟨h, h'⟩ | ⟨⟨b1, b2⟩, h | ⟨h, h'⟩ | ⟨⟨c1, c2⟩, h | ⟨h, h'⟩ | ⟨⟨d1, d2⟩, rfl | ⟨h, h'⟩⟩⟩⟩⟩
    all_goals
      go_enter Tryd.func35, Tryd.ntmps35
      go_wp2_with fail
      refine (IsName_any _ s IS.out).mono ?_
      rintro e w1 ⟨rfl, rfl⟩
      go_wp2_with (go_at_call 54; go_in)
      go_ret
      exact ⟨ret_bool HE.out.symm, by repeat (first | (with_reducible exact Below.refl _ _) | (with_reducible assumption) | ((with_reducible refine bl_alloc ?_ _ ?_); (focus ((first | omega | (simp <;> omega)); done))) | ((with_reducible refine bl_set ?_ _ ?_); (focus ((first | omega | (simp <;> omega)); done))) | (with_reducible refine below_drewN ?_ _) | (with_reducible refine Below.drew ?_))⟩
  have HY := Lib.hid (fun h => rad_yes (s := s) (p := p) (f := f) (n := n) (wd := wd) (ms := ms) e1 hn (modesB_yes h))
  have HN := Lib.hid (fun k (hk : k < ms.length) h => rad_modes (s := s) (p := p) (f := f) (n := n) (wd := wd) (ms := ms) (modesB_no (k := k) hk h))
  rcases hr.forms with ⟨_, h0⟩ | ⟨g, cap, rfl, _, la, hc, _⟩
  · rw [h0] at m1
    simp at m1
  have HC := Lib.hid hc
  clear hr hn hc
  generalize hm : ms.length = m at *
  have HM := Lib.hid hm
  clear hm
  generalize radB s p f n wd ms = R at *
  have n1 : (1 : Int) ≤ (m : Int) := by omega
  have n8 : (m : Int) ≤ 8 := by omega
  go_enter Tryd.func35, Tryd.ntmps35
  go_wp2_with fail
  refine (IsName_any _ s IS.out).mono ?_
  rintro e w1 ⟨rfl, rfl⟩
  go_wp2_with (go_at_call 54; go_in)
  have HB0 := Lib.hid (show Below w.heap.size w (w.alloc (.cells #[.string s, .int .i64 p, .int .i64 f, .int .i64 n, .int .i64 wd, .slice (some ⟨g, 0, none⟩) m cap] 32)) by repeat (first | (with_reducible exact Below.refl _ _) | (with_reducible assumption) | ((with_reducible refine bl_alloc ?_ _ ?_); (focus ((first | omega | (simp <;> omega)); done))) | ((with_reducible refine bl_set ?_ _ ?_); (focus ((first | omega | (simp <;> omega)); done))) | (with_reducible refine below_drewN ?_ _) | (with_reducible refine Below.drew ?_)))
  have x5 : (w.alloc (.cells #[.string s, .int .i64 p, .int .i64 f, .int .i64 n, .int .i64 wd, .slice (some ⟨g, 0, none⟩) m cap] 32)).cell? ⟨w.heap.size, 5, none⟩ = some (.slice (some ⟨g, 0, none⟩) m cap) := by simp [go_sem]
  have HC' := Lib.hid (fun k hk => (⟨cell_alloc (HC.out k hk).1 (.cells #[.string s, .int .i64 p, .int .i64 f, .int .i64 n, .int .i64 wd, .slice (some ⟨g, 0, none⟩) m cap] 32), cell_alloc (HC.out k hk).2 (.cells #[.string s, .int .i64 p, .int .i64 f, .int .i64 n, .int .i64 wd, .slice (some ⟨g, 0, none⟩) m cap] 32)⟩ : _ ∧ _))
  generalize w.alloc (.cells #[.string s, .int .i64 p, .int .i64 f, .int .i64 n, .int .i64 wd, .slice (some ⟨g, 0, none⟩) m cap] 32) = W at *
  have lW : w.heap.size < W.heap.size := block_of_cell x5
  have lg : g < W.heap.size := by omega
  have HBW0 := Lib.hid (fun (X : World) (hb : Below W.heap.size W X) => (HB0.out.trans (hb.mono HB0.out.size) : Below w.heap.size w X))
  go_loopw [48] (fun i wr => ∃ k : Nat, k ≤ m ∧ i = .int .i64 (k : Int) ∧ Hid (∀ j, j < k → modeP ms j) ∧ Below W.heap.size W wr) (fun i _ => m + 1 - (intOf i).toNat)
  case atStart => exact ⟨0, Nat.zero_le _, rfl, fun j h => by omega, Below.refl _ _⟩
  case round =>
    obtain ⟨k, hk, rfl, hd, hb⟩ := hrel
    have i0 : (0 : Int) ≤ (k : Int) := Int.natCast_nonneg _
    have y5 := (hb.cell (p := ⟨w.heap.size, 5, none⟩) lW).trans x5
    have zr : W.heap.size ≤ wr.heap.size := hb.size
    have HBW := Lib.hid (HBW0.out _ hb)
    have HB := Lib.hid hb
    clear hb
    by_cases hlt : k < m
    · have hm' := HM.out
      have i1 : (k : Int) < (m : Int) := by omega
      have c1 := (HB.out.cell (p := ⟨g, k * 2, none⟩) lg).trans (HC'.out k hlt).1
      have c2 := (HB.out.cell (p := ⟨g, k * 2 + 1, none⟩) lg).trans (HC'.out k hlt).2
      clear hm'
      rcases mode_ways ms k with ⟨hp, e1, e2, rfl⟩ | ⟨hp, e1, e2, j, rfl, e3, e4⟩ | ⟨hp, e1⟩ | ⟨hp, e1, e2⟩ | ⟨hp, e1, e2, j, rfl, e3⟩ | ⟨hp, e1, e2, j, rfl, e3, e4⟩
      · have hd' : Hid (∀ j, j < 0 + 1 → modeP ms j) := fun q hq => (show (0 : Nat) = q by omega) ▸ hp
        clear hd HY HN
        generalize (ms.getD 0 (0, 0)).1 = x at *
        generalize (ms.getD 0 (0, 0)).2 = y at *
        go_wp2_with fail
        go_quiet ((go_at_call 54; exact quiet_left (within_any _ _ _ _)))
        go_wp2_with fail
        go_roundw
        case rel => exact ⟨0 + 1, by omega, by go_num, hd', by repeat (first | (with_reducible exact Below.refl _ _) | (with_reducible assumption) | ((with_reducible refine bl_alloc ?_ _ ?_); (focus ((first | omega | (simp <;> omega)); done))) | ((with_reducible refine bl_set ?_ _ ?_); (focus ((first | omega | (simp <;> omega)); done))) | (with_reducible refine below_drewN ?_ _) | (with_reducible refine Below.drew ?_) | ((with_reducible refine bl_trans ?_ HB.out ?_); (focus ((first | omega | (simp <;> omega)); done))))⟩
        case measure => (simp [intOf] <;> omega)
      · have hd' : Hid (∀ q, q < j + 1 + 1 → modeP ms q) := fun q hq => by
          by_cases e : q = j + 1
          · subst e; exact hp
          · exact hd.out q (by omega)
        rw [show ((j + 1 : Nat) : Int) = (j : Int) + 1 by omega] at i0 i1 ⊢
        have i2 : (j : Int) < (m : Int) := by omega
        have i3 : (0 : Int) ≤ (j : Int) := Int.natCast_nonneg _
        have i4 : IntKind.i64.wrap ((j : Int) + 1 - 1) = (j : Int) := by rw [IntKind.wrap_i64]; omega
        have i5 : decide ((0 : Int) < (j : Int) + 1) = true := decide_eq_true (by omega)
        have hm' := HM.out
        have c3 := (HB.out.cell (p := ⟨g, j * 2, none⟩) lg).trans (HC'.out j (by omega)).1
        have c4 := (HB.out.cell (p := ⟨g, j * 2 + 1, none⟩) lg).trans (HC'.out j (by omega)).2
        clear hm'
        have d1 : decide ((ms.getD (j + 1) (0, 0)).1 ≤ (ms.getD j (0, 0)).1) = false := decide_eq_false (by omega)
        have d2 : decide ((ms.getD (j + 1) (0, 0)).2 ≤ (ms.getD j (0, 0)).2) = false := decide_eq_false (by omega)
        clear hd HY HN hp
        generalize (ms.getD (j + 1) (0, 0)).1 = x at *
        generalize (ms.getD (j + 1) (0, 0)).2 = y at *
        generalize (ms.getD j (0, 0)).1 = px at *
        generalize (ms.getD j (0, 0)).2 = py at *
        go_wp2_with fail
        have y5' := cell_alloc y5 (.cells #[.int .i64 x, .int .i64 y] 57)
        have c3' := cell_alloc c3 (.cells #[.int .i64 x, .int .i64 y] 57)
        have c4' := cell_alloc c4 (.cells #[.int .i64 x, .int .i64 y] 57)
        go_quiet ((go_at_call 54; exact quiet_left (within_any _ _ _ _)))
        go_wp2_with fail
        go_roundw
        case rel => exact ⟨j + 1 + 1, by omega, by go_num, hd', by repeat (first | (with_reducible exact Below.refl _ _) | (with_reducible assumption) | ((with_reducible refine bl_alloc ?_ _ ?_); (focus ((first | omega | (simp <;> omega)); done))) | ((with_reducible refine bl_set ?_ _ ?_); (focus ((first | omega | (simp <;> omega)); done))) | (with_reducible refine below_drewN ?_ _) | (with_reducible refine Below.drew ?_) | ((with_reducible refine bl_trans ?_ HB.out ?_); (focus ((first | omega | (simp <;> omega)); done))))⟩
        case measure => (simp [intOf] <;> omega)
      · have he := Lib.hid (HN.out k (by have := HM.out; omega) hp)
        clear hd HY HN hp
        generalize (ms.getD k (0, 0)).1 = x at *
        generalize (ms.getD k (0, 0)).2 = y at *
        go_wp2_with fail
        go_quiet ((go_at_call 54; exact quiet_left (within_any _ _ _ _)))
        go_wp2_with fail
        go_ret
        exact ⟨ret_bool he.out.symm, by repeat (first | (with_reducible exact Below.refl _ _) | (with_reducible assumption) | ((with_reducible refine bl_alloc ?_ _ ?_); (focus ((first | omega | (simp <;> omega)); done))) | ((with_reducible refine bl_set ?_ _ ?_); (focus ((first | omega | (simp <;> omega)); done))) | (with_reducible refine below_drewN ?_ _) | (with_reducible refine Below.drew ?_) | ((with_reducible refine bl_trans ?_ HBW.out ?_); (focus ((first | omega | (simp <;> omega)); done))))⟩
      · have he := Lib.hid (HN.out k (by have := HM.out; omega) hp)
        clear hd HY HN hp
        generalize (ms.getD k (0, 0)).1 = x at *
        generalize (ms.getD k (0, 0)).2 = y at *
        go_wp2_with fail
        go_quiet ((go_at_call 54; exact quiet_left (within_any _ _ _ _)))
        go_wp2_with fail
        go_ret
        exact ⟨ret_bool he.out.symm, by repeat (first | (with_reducible exact Below.refl _ _) | (with_reducible assumption) | ((with_reducible refine bl_alloc ?_ _ ?_); (focus ((first | omega | (simp <;> omega)); done))) | ((with_reducible refine bl_set ?_ _ ?_); (focus ((first | omega | (simp <;> omega)); done))) | (with_reducible refine below_drewN ?_ _) | (with_reducible refine Below.drew ?_) | ((with_reducible refine bl_trans ?_ HBW.out ?_); (focus ((first | omega | (simp <;> omega)); done))))⟩
      · have he := Lib.hid (HN.out (j + 1) (by have := HM.out; omega) hp)
        rw [show ((j + 1 : Nat) : Int) = (j : Int) + 1 by omega] at i0 i1 ⊢
        have i2 : (j : Int) < (m : Int) := by omega
        have i3 : (0 : Int) ≤ (j : Int) := Int.natCast_nonneg _
        have i4 : IntKind.i64.wrap ((j : Int) + 1 - 1) = (j : Int) := by rw [IntKind.wrap_i64]; omega
        have i5 : decide ((0 : Int) < (j : Int) + 1) = true := decide_eq_true (by omega)
        have hm' := HM.out
        have c3 := (HB.out.cell (p := ⟨g, j * 2, none⟩) lg).trans (HC'.out j (by omega)).1
        have c4 := (HB.out.cell (p := ⟨g, j * 2 + 1, none⟩) lg).trans (HC'.out j (by omega)).2
        clear hm'
        have d1 : decide ((ms.getD (j + 1) (0, 0)).1 ≤ (ms.getD j (0, 0)).1) = true := decide_eq_true e3
        clear hd HY HN hp
        generalize (ms.getD (j + 1) (0, 0)).1 = x at *
        generalize (ms.getD (j + 1) (0, 0)).2 = y at *
        generalize (ms.getD j (0, 0)).1 = px at *
        generalize (ms.getD j (0, 0)).2 = py at *
        go_wp2_with fail
        have y5' := cell_alloc y5 (.cells #[.int .i64 x, .int .i64 y] 57)
        have c3' := cell_alloc c3 (.cells #[.int .i64 x, .int .i64 y] 57)
        have c4' := cell_alloc c4 (.cells #[.int .i64 x, .int .i64 y] 57)
        go_quiet ((go_at_call 54; exact quiet_left (within_any _ _ _ _)))
        go_wp2_with fail
        go_ret
        exact ⟨ret_bool he.out.symm, by repeat (first | (with_reducible exact Below.refl _ _) | (with_reducible assumption) | ((with_reducible refine bl_alloc ?_ _ ?_); (focus ((first | omega | (simp <;> omega)); done))) | ((with_reducible refine bl_set ?_ _ ?_); (focus ((first | omega | (simp <;> omega)); done))) | (with_reducible refine below_drewN ?_ _) | (with_reducible refine Below.drew ?_) | ((with_reducible refine bl_trans ?_ HBW.out ?_); (focus ((first | omega | (simp <;> omega)); done))))⟩
      · have he := Lib.hid (HN.out (j + 1) (by have := HM.out; omega) hp)
        rw [show ((j + 1 : Nat) : Int) = (j : Int) + 1 by omega] at i0 i1 ⊢
        have i2 : (j : Int) < (m : Int) := by omega
        have i3 : (0 : Int) ≤ (j : Int) := Int.natCast_nonneg _
        have i4 : IntKind.i64.wrap ((j : Int) + 1 - 1) = (j : Int) := by rw [IntKind.wrap_i64]; omega
        have i5 : decide ((0 : Int) < (j : Int) + 1) = true := decide_eq_true (by omega)
        have hm' := HM.out
        have c3 := (HB.out.cell (p := ⟨g, j * 2, none⟩) lg).trans (HC'.out j (by omega)).1
        have c4 := (HB.out.cell (p := ⟨g, j * 2 + 1, none⟩) lg).trans (HC'.out j (by omega)).2
        clear hm'
        have d1 : decide ((ms.getD (j + 1) (0, 0)).1 ≤ (ms.getD j (0, 0)).1) = false := decide_eq_false (by omega)
        have d2 : decide ((ms.getD (j + 1) (0, 0)).2 ≤ (ms.getD j (0, 0)).2) = true := decide_eq_true e4
        clear hd HY HN hp
        generalize (ms.getD (j + 1) (0, 0)).1 = x at *
        generalize (ms.getD (j + 1) (0, 0)).2 = y at *
        generalize (ms.getD j (0, 0)).1 = px at *
        generalize (ms.getD j (0, 0)).2 = py at *
        go_wp2_with fail
        have y5' := cell_alloc y5 (.cells #[.int .i64 x, .int .i64 y] 57)
        have c3' := cell_alloc c3 (.cells #[.int .i64 x, .int .i64 y] 57)
        have c4' := cell_alloc c4 (.cells #[.int .i64 x, .int .i64 y] 57)
        go_quiet ((go_at_call 54; exact quiet_left (within_any _ _ _ _)))
        go_wp2_with fail
        go_ret
        exact ⟨ret_bool he.out.symm, by repeat (first | (with_reducible exact Below.refl _ _) | (with_reducible assumption) | ((with_reducible refine bl_alloc ?_ _ ?_); (focus ((first | omega | (simp <;> omega)); done))) | ((with_reducible refine bl_set ?_ _ ?_); (focus ((first | omega | (simp <;> omega)); done))) | (with_reducible refine below_drewN ?_ _) | (with_reducible refine Below.drew ?_) | ((with_reducible refine bl_trans ?_ HBW.out ?_); (focus ((first | omega | (simp <;> omega)); done))))⟩
    · have he := Lib.hid (HY.out (fun q hq => hd.out q (by have := HM.out; omega)))
      clear hd HY HN
      go_wp2_with fail
      go_ret
      exact ⟨ret_bool he.out.symm, by repeat (first | (with_reducible exact Below.refl _ _) | (with_reducible assumption) | ((with_reducible refine bl_alloc ?_ _ ?_); (focus ((first | omega | (simp <;> omega)); done))) | ((with_reducible refine bl_set ?_ _ ?_); (focus ((first | omega | (simp <;> omega)); done))) | (with_reducible refine below_drewN ?_ _) | (with_reducible refine Below.drew ?_) | ((with_reducible refine bl_trans ?_ HBW.out ?_); (focus ((first | omega | (simp <;> omega)); done))))⟩
end Go.Proofs.YtampjgfddakdoaaDoor
