/-
  Contracts of the loss of a mask at an offset: the program's and the reference's: one model: the two lists as a table. The conditions are the hypotheses.
-/
import Derived.Test.YtgbehaapmnmifaaTab
import Derived.Test.YtgbehaapmnmifaaLib
import Derived.Outline
namespace Go.Proofs.Ytgbehaapmnmifaa
open Go.RowKit
set_option linter.unusedSimpArgs false
set_option linter.unusedVariables false
def absV (a : Int) : Int := if 0 ≤ a then a else -a
theorem absV_nn {a : Int} (h : 0 ≤ a) : absV a = a := if_pos h
theorem absV_np {a : Int} (h : a < 0) : absV a = -a := if_neg (by omega)
set_option maxRecDepth 20000 in
set_option maxHeartbeats 2000000 in
theorem loss_any (ps : List (Int × Int)) (off : Int) (o0 : -1000000 ≤ off) (o1 : off ≤ 1000000) (ga gb n ca cb : Nat) (hn : ps.length = n) (h2 : 2 ≤ n) (hm : n ≤ 1000) (hb : ∀ p ∈ ps, Mid p.1 ∧ Mid p.2) (w : World)
    (hc : ∀ k, k < n → w.cell? ⟨ga, k, none⟩ = some (.int .i64 (ps.getD k (0, 0)).1) ∧ w.cell? ⟨gb, k, none⟩ = some (.int .i64 (ps.getD k (0, 0)).2)) :
    Calls Try.prog 22 #[.agg #[.slice (some ⟨ga, 0, none⟩) n ca, .slice (some ⟨gb, 0, none⟩) n cb], .int .i64 off] w fun e w' => e = .returned (.int .i64 (tabAt (absV off) ps)) ∧ Below w.heap.size w w' := by
  have HABS : Hid (∀ W : World, Calls Try.prog 34 #[.int .i64 off] W fun e w' => e = .returned (.int .i64 (absV off)) ∧ W = w') := fun W => by
    rcases Int.lt_or_le off 0 with h | h
    · rw [absV_np h]
      exact abs_np off ⟨by omega, by omega⟩ W
    · rw [absV_nn h]
      exact abs_nn off ⟨h, by omega⟩ W
  have hx : Mid (absV off) := by unfold absV Mid; split <;> omega
  obtain ⟨x, hxx⟩ : ∃ x, x = absV off := ⟨_, rfl⟩
  rw [← hxx] at HABS hx ⊢
  have HN := Lib.hid hn
  have HX := Lib.hid hx
  have HC0 := Lib.hid hc
  have HB := Lib.hid hb
  clear hn hx hc hb hxx
  go_enter Try.func22, Try.ntmps22
  go_wp2_with (go_at_call 34; refine (HABS.out _).mono ?_; rintro e w1 ⟨rfl, rfl⟩)
  have HB0 := Lib.hid (show Below w.heap.size w (w.alloc (.cells #[.slice (some ⟨ga, 0, none⟩) n ca, .slice (some ⟨gb, 0, none⟩) n cb] 26)) by repeat (first | (with_reducible exact Below.refl _ _) | (with_reducible assumption) | ((with_reducible refine bl_alloc ?_ _ ?_); (focus ((first | omega | (simp <;> omega)); done))) | ((with_reducible refine bl_set ?_ _ ?_); (focus ((first | omega | (simp <;> omega)); done))) | (with_reducible refine below_drewN ?_ _) | (with_reducible refine Below.drew ?_)))
  have HC := Lib.hid (fun k hk => (⟨cell_alloc (HC0.out k hk).1 (.cells #[.slice (some ⟨ga, 0, none⟩) n ca, .slice (some ⟨gb, 0, none⟩) n cb] 26), cell_alloc (HC0.out k hk).2 (.cells #[.slice (some ⟨ga, 0, none⟩) n ca, .slice (some ⟨gb, 0, none⟩) n cb] 26)⟩ : _ ∧ _))
  have x0 : (w.alloc (.cells #[.slice (some ⟨ga, 0, none⟩) n ca, .slice (some ⟨gb, 0, none⟩) n cb] 26)).cell? ⟨w.heap.size, 0, none⟩ = some (.slice (some ⟨ga, 0, none⟩) n ca) := by simp [go_sem]
  have x1 : (w.alloc (.cells #[.slice (some ⟨ga, 0, none⟩) n ca, .slice (some ⟨gb, 0, none⟩) n cb] 26)).cell? ⟨w.heap.size, 1, none⟩ = some (.slice (some ⟨gb, 0, none⟩) n cb) := by simp [go_sem]
  generalize w.alloc (.cells #[.slice (some ⟨ga, 0, none⟩) n ca, .slice (some ⟨gb, 0, none⟩) n cb] 26) = W at *
  clear HC0
  go_loop [5] (fun i => ∃ j : Nat, j + 1 < n ∧ i = .int .i64 ((j : Int) + 1) ∧ Hid (tabAt x ps = tabAt x (ps.drop j))) (fun i => n - (intOf i).toNat)
  case atStart => exact ⟨0, by omega, rfl, rfl⟩
  case round =>
    obtain ⟨j, hj, rfl, hr⟩ := hrel
    have i0 : (0 : Int) ≤ (j : Int) := Int.natCast_nonneg _
    have i1 : (j : Int) + 1 < (n : Int) := by omega
    have i9 : (j : Int) < (n : Int) := by omega
    obtain ⟨c1, c2⟩ := HC.out j (by omega)
    obtain ⟨c3, c4⟩ := HC.out (j + 1) hj
    by_cases hl : j + 2 < n
    · have i2 : (j : Int) + 1 < (n : Int) - 1 := by omega
      by_cases hlt : (ps.getD (j + 1) (0, 0)).1 < x
      · have hr' : Hid (tabAt x ps = tabAt x (ps.drop (j + 1))) := hr.out.trans (tabAt_next (by rw [HN.out]; exact hl) hlt)
        clear hr
        generalize (ps.getD (j + 1) (0, 0)).1 = p at *
        go_wp2_with fail
        go_round
        case rel => exact ⟨j + 1, by omega, by go_num, hr'⟩
        case measure => simp [intOf]; omega
      · have hd : decide ((ps.getD (j + 1) (0, 0)).1 < x) = false := decide_eq_false hlt
        have he := Lib.hid (hr.out.trans (tabAt_line (by rw [HN.out]; exact hj) (.inr hlt)))
        obtain ⟨m1, m2⟩ := HB.out _ (getD_mem (show j < ps.length by rw [HN.out]; omega))
        obtain ⟨m3, m4⟩ := HB.out _ (getD_mem (show j + 1 < ps.length by rw [HN.out]; omega))
        clear hr
        generalize ps.getD j (0, 0) = p at *
        generalize ps.getD (j + 1) (0, 0) = q at *
        have k1 : (0 : Int) ≤ (j : Int) + 1 := by omega
        have M1 := Lib.hid m1
        have M2 := Lib.hid m2
        have M3 := Lib.hid m3
        have M4 := Lib.hid m4
        clear m1 m2 m3 m4
        go_wp2_with fail
        go_quiet ((go_at_call 35; exact quiet_draws (blend_any _ _ _ _ _ M1.out M2.out M3.out M4.out HX.out _)))
        go_wp2_with fail
        go_ret
        exact ⟨ret_int he.out.symm, by first | exact below_drewN HB0.out _ | repeat (first | (with_reducible exact Below.refl _ _) | (with_reducible assumption) | ((with_reducible refine bl_alloc ?_ _ ?_); (focus ((first | omega | (simp <;> omega)); done))) | ((with_reducible refine bl_set ?_ _ ?_); (focus ((first | omega | (simp <;> omega)); done))) | (with_reducible refine below_drewN ?_ _) | (with_reducible refine Below.drew ?_) | ((with_reducible refine bl_trans ?_ HB0.out ?_); (focus ((first | omega | (simp <;> omega)); done))))⟩
    · have hd : decide ((j : Int) + 1 < (n : Int) - 1) = false := decide_eq_false (by omega)
      have he := Lib.hid (hr.out.trans (tabAt_line (by rw [HN.out]; exact hj) (.inl (by rw [HN.out]; omega))))
      obtain ⟨m1, m2⟩ := HB.out _ (getD_mem (show j < ps.length by rw [HN.out]; omega))
      obtain ⟨m3, m4⟩ := HB.out _ (getD_mem (show j + 1 < ps.length by rw [HN.out]; omega))
      clear hr
      generalize ps.getD j (0, 0) = p at *
      generalize ps.getD (j + 1) (0, 0) = q at *
      have k1 : (0 : Int) ≤ (j : Int) + 1 := by omega
      have M1 := Lib.hid m1
      have M2 := Lib.hid m2
      have M3 := Lib.hid m3
      have M4 := Lib.hid m4
      clear m1 m2 m3 m4
      go_wp2_with fail
      go_quiet ((go_at_call 35; exact quiet_draws (blend_any _ _ _ _ _ M1.out M2.out M3.out M4.out HX.out _)))
      go_wp2_with fail
      go_ret
      exact ⟨ret_int he.out.symm, by first | exact below_drewN HB0.out _ | repeat (first | (with_reducible exact Below.refl _ _) | (with_reducible assumption) | ((with_reducible refine bl_alloc ?_ _ ?_); (focus ((first | omega | (simp <;> omega)); done))) | ((with_reducible refine bl_set ?_ _ ?_); (focus ((first | omega | (simp <;> omega)); done))) | (with_reducible refine below_drewN ?_ _) | (with_reducible refine Below.drew ?_) | ((with_reducible refine bl_trans ?_ HB0.out ?_); (focus ((first | omega | (simp <;> omega)); done))))⟩
set_option maxRecDepth 20000 in
set_option maxHeartbeats 2000000 in
theorem l08Loss_any (ps : List (Int × Int)) (off : Int) (o0 : -1000000 ≤ off) (o1 : off ≤ 1000000) (o ga gb n ca cb : Nat) (hn : ps.length = n) (h2 : 2 ≤ n) (hm : n ≤ 1000) (hb : ∀ p ∈ ps, Mid p.1 ∧ Mid p.2)
    (hr : ∀ k, k + 1 < n → (ps.getD k (0, 0)).1 < (ps.getD (k + 1) (0, 0)).1) (w : World) (x0 : w.cell? ⟨o, 0, none⟩ = some (.slice (some ⟨ga, 0, none⟩) n ca)) (x1 : w.cell? ⟨o, 1, none⟩ = some (.slice (some ⟨gb, 0, none⟩) n cb))
    (hc : ∀ k, k < n → w.cell? ⟨ga, k, none⟩ = some (.int .i64 (ps.getD k (0, 0)).1) ∧ w.cell? ⟨gb, k, none⟩ = some (.int .i64 (ps.getD k (0, 0)).2)) :
    Calls Try.prog 16 #[.pointer (some ⟨o, 0, none⟩), .int .i64 off] w fun e w' => e = .returned (.int .i64 (tabAt (absV off) ps)) ∧ ∃ m, w' = w.drewN m := by
  have i1 : (2 : Int) ≤ (n : Int) := by omega
  have HN := Lib.hid hn
  have HC := Lib.hid hc
  have HB := Lib.hid hb
  have HR := Lib.hid hr
  clear hn hc hb hr
  rcases Int.lt_or_le off 0 with h | h
  · rw [absV_np h]
    have HX := Lib.hid (show Mid (-off) from ⟨by omega, by omega⟩)
    go_enter Try.func16, Try.ntmps16
    go_wp2_with fail
    go_loopw [5] (fun i wr => ∃ j : Nat, j < n ∧ i = .int .i64 ((j : Int) + 1) ∧ Hid ((j + 1 < n → tabAt (-off) ps = tabAt (-off) (ps.drop j)) ∧ (j + 1 = n → tabAt (-off) ps = (ps.getD j (0, 0)).2)) ∧ wr = w) (fun i _ => n + 1 - (intOf i).toNat)
    case atStart => exact ⟨0, by omega, rfl, ⟨fun _ => rfl, fun h => by omega⟩, rfl⟩
    case round =>
      obtain ⟨j, hj, rfl, hr, rfl⟩ := hrel
      have k0 : (0 : Int) ≤ (j : Int) := Int.natCast_nonneg _
      by_cases hl : j + 1 < n
      · have k2 : (j : Int) + 1 ≤ (n : Int) - 1 := by omega
        have k3 : (j : Int) + 1 < (n : Int) := by omega
        have k4 : (j : Int) < (n : Int) := by omega
        obtain ⟨a1, a2⟩ := HC.out j hj
        obtain ⟨a3, a4⟩ := HC.out (j + 1) hl
        by_cases hlt : (ps.getD (j + 1) (0, 0)).1 < (-off)
        · have hd : decide ((-off) ≤ (ps.getD (j + 1) (0, 0)).1) = false := decide_eq_false (by omega)
          have hr' : Hid ((j + 1 + 1 < n → tabAt (-off) ps = tabAt (-off) (ps.drop (j + 1))) ∧ (j + 1 + 1 = n → tabAt (-off) ps = (ps.getD (j + 1) (0, 0)).2)) := by
            refine ⟨fun h => (hr.out.1 hl).trans (tabAt_next (by rw [HN.out]; omega) hlt), fun h => ?_⟩
            rw [hr.out.1 hl, tabAt_line (by rw [HN.out]; exact hl) (.inl (by rw [HN.out]; omega))]
            have := HR.out j hl
            exact line_hi (by omega) (by omega)
          generalize hq : (ps.getD (j + 1) (0, 0)).1 = q at a3 hd
          clear hr a1 a2 a4 hq hlt
          go_wp2_with fail
          go_roundw
          case rel => exact ⟨j + 1, by omega, by go_num, hr', by first | rfl | trivial⟩
          case measure => simp [intOf]; omega
        · have hd : decide ((-off) ≤ (ps.getD (j + 1) (0, 0)).1) = true := decide_eq_true (by omega)
          have he := Lib.hid ((hr.out.1 hl).trans (tabAt_line (by rw [HN.out]; exact hl) (.inr hlt)))
          clear hr
          have k1 : (0 : Int) ≤ (j : Int) + 1 := by omega
          obtain ⟨m1, m2⟩ := HB.out _ (getD_mem (show j < ps.length by rw [HN.out]; omega))
          obtain ⟨m3, m4⟩ := HB.out _ (getD_mem (show j + 1 < ps.length by rw [HN.out]; omega))
          generalize ps.getD j (0, 0) = p at *
          generalize ps.getD (j + 1) (0, 0) = q at *
          have M1 := Lib.hid m1
          have M2 := Lib.hid m2
          have M3 := Lib.hid m3
          have M4 := Lib.hid m4
          clear m1 m2 m3 m4
          go_wp2_with fail
          go_quiet ((go_at_call 28; exact quiet_left (l01Line_any _ _ _ _ _ M1.out M2.out M3.out M4.out HX.out _)))
          go_wp2_with fail
          go_ret
          exact ⟨ret_int he.out.symm, _, rfl⟩
      · obtain rfl : n = j + 1 := by omega
        have he := Lib.hid (hr.out.2 rfl)
        have a2 := (HC.out j hj).2
        clear hr
        generalize ps.getD j (0, 0) = p at *
        have hf : ¬ (j : Int) + 1 < ((j + 1 : Nat) : Int) := by omega
        go_wp2_with fail
        go_quiet (fail)
        go_wp2_with fail
        go_ret
        exact ⟨ret_int he.out.symm, _, rfl⟩
  · rw [absV_nn h]
    have HX := Lib.hid (show Mid off from ⟨by omega, by omega⟩)
    have h0 : decide (off < 0) = false := decide_eq_false (by omega)
    go_enter Try.func16, Try.ntmps16
    go_wp2_with fail
    go_loopw [5] (fun i wr => ∃ j : Nat, j < n ∧ i = .int .i64 ((j : Int) + 1) ∧ Hid ((j + 1 < n → tabAt off ps = tabAt off (ps.drop j)) ∧ (j + 1 = n → tabAt off ps = (ps.getD j (0, 0)).2)) ∧ wr = w) (fun i _ => n + 1 - (intOf i).toNat)
    case atStart => exact ⟨0, by omega, rfl, ⟨fun _ => rfl, fun h => by omega⟩, rfl⟩
    case round =>
      obtain ⟨j, hj, rfl, hr, rfl⟩ := hrel
      have k0 : (0 : Int) ≤ (j : Int) := Int.natCast_nonneg _
      by_cases hl : j + 1 < n
      · have k2 : (j : Int) + 1 ≤ (n : Int) - 1 := by omega
        have k3 : (j : Int) + 1 < (n : Int) := by omega
        have k4 : (j : Int) < (n : Int) := by omega
        obtain ⟨a1, a2⟩ := HC.out j hj
        obtain ⟨a3, a4⟩ := HC.out (j + 1) hl
        by_cases hlt : (ps.getD (j + 1) (0, 0)).1 < off
        · have hd : decide (off ≤ (ps.getD (j + 1) (0, 0)).1) = false := decide_eq_false (by omega)
          have hr' : Hid ((j + 1 + 1 < n → tabAt off ps = tabAt off (ps.drop (j + 1))) ∧ (j + 1 + 1 = n → tabAt off ps = (ps.getD (j + 1) (0, 0)).2)) := by
            refine ⟨fun h => (hr.out.1 hl).trans (tabAt_next (by rw [HN.out]; omega) hlt), fun h => ?_⟩
            rw [hr.out.1 hl, tabAt_line (by rw [HN.out]; exact hl) (.inl (by rw [HN.out]; omega))]
            have := HR.out j hl
            exact line_hi (by omega) (by omega)
          generalize hq : (ps.getD (j + 1) (0, 0)).1 = q at a3 hd
          clear hr a1 a2 a4 hq hlt
          go_wp2_with fail
          go_roundw
          case rel => exact ⟨j + 1, by omega, by go_num, hr', by first | rfl | trivial⟩
          case measure => simp [intOf]; omega
        · have hd : decide (off ≤ (ps.getD (j + 1) (0, 0)).1) = true := decide_eq_true (by omega)
          have he := Lib.hid ((hr.out.1 hl).trans (tabAt_line (by rw [HN.out]; exact hl) (.inr hlt)))
          clear hr
          have k1 : (0 : Int) ≤ (j : Int) + 1 := by omega
          obtain ⟨m1, m2⟩ := HB.out _ (getD_mem (show j < ps.length by rw [HN.out]; omega))
          obtain ⟨m3, m4⟩ := HB.out _ (getD_mem (show j + 1 < ps.length by rw [HN.out]; omega))
          generalize ps.getD j (0, 0) = p at *
          generalize ps.getD (j + 1) (0, 0) = q at *
          have M1 := Lib.hid m1
          have M2 := Lib.hid m2
          have M3 := Lib.hid m3
          have M4 := Lib.hid m4
          clear m1 m2 m3 m4
          go_wp2_with fail
          go_quiet ((go_at_call 28; exact quiet_left (l01Line_any _ _ _ _ _ M1.out M2.out M3.out M4.out HX.out _)))
          go_wp2_with fail
          go_ret
          exact ⟨ret_int he.out.symm, _, rfl⟩
      · obtain rfl : n = j + 1 := by omega
        have he := Lib.hid (hr.out.2 rfl)
        have a2 := (HC.out j hj).2
        clear hr
        generalize ps.getD j (0, 0) = p at *
        have hf : ¬ (j : Int) + 1 < ((j + 1 : Nat) : Int) := by omega
        go_wp2_with fail
        go_quiet (fail)
        go_wp2_with fail
        go_ret
        exact ⟨ret_int he.out.symm, _, rfl⟩
end Go.Proofs.Ytgbehaapmnmifaa
