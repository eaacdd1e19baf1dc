/-
  Contracts of the functions that give a table's value between its rows: the program's over rows of pairs, the reference's over two lists. The tables have at least two rows, of numbers of at most two millions; the reference's rises.
-/
import Derived.Test.YtlpjcebpfmhpnaaDoorLine
namespace Go.Proofs.YtlpjcebpfmhpnaaDoor
open Go.RowKit
set_option linter.unusedSimpArgs false
set_option linter.unusedVariables false
theorem getD_mem {ps : List (Int × Int)} {k : Nat} (h : k < ps.length) : ps.getD k (0, 0) ∈ ps := by
  rw [show ps.getD k (0, 0) = ps[k] by simp [List.getD, h]]
  exact List.getElem_mem h
theorem rowsAt_any (ps : List (Int × Int)) (f : Int) (hf : 0 ≤ f ∧ f ≤ 100000000) (g n c : Nat) (hn : ps.length = n) (h2 : 2 ≤ n) (hm : n ≤ 1000) (hb : ∀ p ∈ ps, Mid p.1 ∧ Mid p.2) (w : World)
    (hc : ∀ k, k < n → w.cell? ⟨g, k * 2, none⟩ = some (.int .i64 (ps.getD k (0, 0)).1) ∧ w.cell? ⟨g, k * 2 + 1, none⟩ = some (.int .i64 (ps.getD k (0, 0)).2)) :
    Calls Tryd.prog 92 #[.slice (some ⟨g, 0, none⟩) n c, .int .i64 f] w fun e w' => e = .returned (.int .i64 (tabAt (f / 1000) ps)) ∧ ∃ m, w' = w.drewN m := by
  obtain ⟨f0, f1⟩ := hf
  have hx : Mid (f / 1000) := ⟨by omega, by omega⟩
  have HN := Lib.hid hn
  have HX := Lib.hid hx
  have HC := Lib.hid hc
  have HB := Lib.hid hb
  clear hn hx hc hb
  go_enter Tryd.func92, Tryd.ntmps92
  go_wp2_with fail
  go_loop [6] (fun i => ∃ j : Nat, j + 1 < n ∧ i = .int .i64 ((j : Int) + 1) ∧ Hid (tabAt (f / 1000) ps = tabAt (f / 1000) (ps.drop j))) (fun i => n - (intOf i).toNat)
  case atStart => exact ⟨0, by omega, rfl, rfl⟩
  case round =>
    obtain ⟨j, hj, rfl, hr⟩ := hrel
    have i0 : (0 : Int) ≤ (j : Int) := Int.natCast_nonneg _
    have i1 : (j : Int) + 1 < (n : Int) := by omega
    obtain ⟨c1, c2⟩ := HC.out j (by omega)
    obtain ⟨c3, c4⟩ := HC.out (j + 1) hj
    by_cases hl : j + 2 < n
    · have i2 : (j : Int) + 1 < (n : Int) - 1 := by omega
      by_cases hlt : (ps.getD (j + 1) (0, 0)).1 < f / 1000
      · have hr' : Hid (tabAt (f / 1000) ps = tabAt (f / 1000) (ps.drop (j + 1))) := hr.out.trans (tabAt_next (by rw [HN.out]; exact hl) hlt)
        clear hr
        generalize (ps.getD (j + 1) (0, 0)).1 = p at *
        go_wp2_with fail
        go_round
        case rel => exact ⟨j + 1, by omega, by go_num, hr'⟩
        case measure => simp [intOf]; omega
      · have hd : decide ((ps.getD (j + 1) (0, 0)).1 < f / 1000) = false := decide_eq_false hlt
        have he := Lib.hid (hr.out.trans (tabAt_line (by rw [HN.out]; exact hj) (.inr hlt)))
        obtain ⟨m1, m2⟩ := HB.out _ (getD_mem (show j < ps.length by rw [HN.out]; omega))
        obtain ⟨m3, m4⟩ := HB.out _ (getD_mem (show j + 1 < ps.length by rw [HN.out]; omega))
        clear hr
        generalize ps.getD j (0, 0) = p at *
        generalize ps.getD (j + 1) (0, 0) = q at *
        have k1 : (0 : Int) ≤ (j : Int) + 1 := by omega
        have M1 := Lib.hid m1
        have M2 := Lib.hid m2
        have M3 := Lib.hid m3
        have M4 := Lib.hid m4
        clear m1 m2 m3 m4
        go_wp2_with fail
        go_quiet ((go_at_call 96; exact quiet_draws (blend_any _ _ _ _ _ M1.out M2.out M3.out M4.out HX.out _)))
        go_wp2_with fail
        go_ret
        exact ⟨ret_int he.out.symm, _, rfl⟩
    · have hd : decide ((j : Int) + 1 < (n : Int) - 1) = false := decide_eq_false (by omega)
      have he := Lib.hid (hr.out.trans (tabAt_line (by rw [HN.out]; exact hj) (.inl (by rw [HN.out]; omega))))
      obtain ⟨m1, m2⟩ := HB.out _ (getD_mem (show j < ps.length by rw [HN.out]; omega))
      obtain ⟨m3, m4⟩ := HB.out _ (getD_mem (show j + 1 < ps.length by rw [HN.out]; omega))
      clear hr
      generalize ps.getD j (0, 0) = p at *
      generalize ps.getD (j + 1) (0, 0) = q at *
      have k1 : (0 : Int) ≤ (j : Int) + 1 := by omega
      have M1 := Lib.hid m1
      have M2 := Lib.hid m2
      have M3 := Lib.hid m3
      have M4 := Lib.hid m4
      clear m1 m2 m3 m4
      go_wp2_with fail
      go_quiet ((go_at_call 96; exact quiet_draws (blend_any _ _ _ _ _ M1.out M2.out M3.out M4.out HX.out _)))
      go_wp2_with fail
      go_ret
      exact ⟨ret_int he.out.symm, _, rfl⟩
theorem l11Table_any (ps : List (Int × Int)) (x : Int) (hx : Mid x) (g1 g2 n d1 d2 : Nat) (hn : ps.length = n) (h2 : 2 ≤ n) (hm : n ≤ 1000) (hb : ∀ p ∈ ps, Mid p.1 ∧ Mid p.2)
    (hr : ∀ k, k + 1 < n → (ps.getD k (0, 0)).1 < (ps.getD (k + 1) (0, 0)).1) (w : World)
    (hc : ∀ k, k < n → w.cell? ⟨g1, k, none⟩ = some (.int .i64 (ps.getD k (0, 0)).1) ∧ w.cell? ⟨g2, k, none⟩ = some (.int .i64 (ps.getD k (0, 0)).2)) :
    Calls Tryd.prog 70 #[.int .i64 x, .slice (some ⟨g1, 0, none⟩) n d1, .slice (some ⟨g2, 0, none⟩) n d2] w fun e w' => e = .returned (.int .i64 (tabAt x ps)) ∧ ∃ m, w' = w.drewN m := by
  obtain ⟨c1, c2⟩ := hc 0 (by omega)
  have c3 := (hc (n - 1) (by omega)).2
  have i0 : (0 : Int) < (n : Int) := by omega
  have i1 : (2 : Int) ≤ (n : Int) := by omega
  have HN := Lib.hid hn
  have HX := Lib.hid hx
  have HC := Lib.hid hc
  have HB := Lib.hid hb
  have HR := Lib.hid hr
  clear hn hx hc hb hr
  by_cases h0 : x ≤ (ps.getD 0 (0, 0)).1
  · have he : Hid (tabAt x ps = (ps.getD 0 (0, 0)).2) := by
      have h := tabAt_line (x := x) (ps := ps) (j := 0) (by rw [HN.out]; omega) (.inr (by have := HR.out 0 (by omega); omega))
      rw [List.drop_zero] at h
      rw [line_lo (.inl h0)] at h
      exact h
    generalize ps.getD 0 (0, 0) = p at *
    go_enter Tryd.func70, Tryd.ntmps70
    go_wp2_with fail
    go_ret
    exact ⟨ret_int he.out.symm, 0, rfl⟩
  · have hq : (ps.getD 0 (0, 0)).1 < x := by omega
    have hd : decide (x ≤ (ps.getD 0 (0, 0)).1) = false := decide_eq_false h0
    have HQ := Lib.hid hq
    clear h0 hq c2
    generalize hp0 : (ps.getD 0 (0, 0)).1 = p0 at *
    have HP0 := Lib.hid hp0
    have HQ0 : Hid (p0 < x) := HQ.out
    clear hp0
    go_enter Tryd.func70, Tryd.ntmps70
    go_wp2_with fail
    clear hd c1 HQ
    go_loopw [8] (fun i wr => ∃ j : Nat, j < n ∧ i = .int .i64 ((j : Int) + 1) ∧ Hid ((ps.getD j (0, 0)).1 < x ∧ (j + 1 < n → tabAt x ps = tabAt x (ps.drop j)) ∧ (j + 1 = n → tabAt x ps = (ps.getD j (0, 0)).2)) ∧ wr = w) (fun i _ => n + 1 - (intOf i).toNat)
    case atStart => exact ⟨0, by omega, rfl, ⟨by rw [HP0.out]; exact HQ0.out, fun _ => rfl, fun h => by omega⟩, rfl⟩
    case round =>
      obtain ⟨j, hj, rfl, hr, rfl⟩ := hrel
      have k0 : (0 : Int) ≤ (j : Int) := Int.natCast_nonneg _
      by_cases hl : j + 1 < n
      · have k2 : (j : Int) + 1 ≤ (n : Int) - 1 := by omega
        have k3 : (j : Int) + 1 < (n : Int) := by omega
        have k4 : (j : Int) < (n : Int) := by omega
        obtain ⟨a1, a2⟩ := HC.out j hj
        obtain ⟨a3, a4⟩ := HC.out (j + 1) hl
        by_cases hlt : (ps.getD (j + 1) (0, 0)).1 < x
        · have hd : decide (x ≤ (ps.getD (j + 1) (0, 0)).1) = false := decide_eq_false (by omega)
          have hr' : Hid ((ps.getD (j + 1) (0, 0)).1 < x ∧ (j + 1 + 1 < n → tabAt x ps = tabAt x (ps.drop (j + 1))) ∧ (j + 1 + 1 = n → tabAt x ps = (ps.getD (j + 1) (0, 0)).2)) := by
            refine ⟨hlt, fun h => (hr.out.2.1 hl).trans (tabAt_next (by rw [HN.out]; omega) hlt), fun h => ?_⟩
            rw [hr.out.2.1 hl, tabAt_line (by rw [HN.out]; exact hl) (.inl (by rw [HN.out]; omega))]
            have := HR.out j hl
            exact line_hi (by have := hr.out.1; omega) (by omega)
          generalize hq : (ps.getD (j + 1) (0, 0)).1 = q at a3 hd
          clear hr a1 a2 a4 hq hlt
          go_wp2_with fail
          go_roundw
          case rel => exact ⟨j + 1, by omega, by go_num, hr', by first | rfl | trivial⟩
          case measure => simp [intOf]; omega
        · have hd : decide (x ≤ (ps.getD (j + 1) (0, 0)).1) = true := decide_eq_true (by omega)
          have he := Lib.hid ((hr.out.2.1 hl).trans (tabAt_line (by rw [HN.out]; exact hl) (.inr hlt)))
          clear hr
          have k1 : (0 : Int) ≤ (j : Int) + 1 := by omega
          obtain ⟨m1, m2⟩ := HB.out _ (getD_mem (show j < ps.length by rw [HN.out]; omega))
          obtain ⟨m3, m4⟩ := HB.out _ (getD_mem (show j + 1 < ps.length by rw [HN.out]; omega))
          generalize ps.getD j (0, 0) = p at *
          generalize ps.getD (j + 1) (0, 0) = q at *
          have M1 := Lib.hid m1
          have M2 := Lib.hid m2
          have M3 := Lib.hid m3
          have M4 := Lib.hid m4
          clear m1 m2 m3 m4
          go_wp2_with fail
          go_quiet ((go_at_call 86; exact quiet_left (l01Line_any _ _ _ _ _ M1.out M2.out M3.out M4.out HX.out _)))
          go_wp2_with fail
          go_ret
          exact ⟨ret_int he.out.symm, _, rfl⟩
      · obtain rfl : n = j + 1 := by omega
        have he := Lib.hid (hr.out.2.2 rfl)
        have a2 := (HC.out j hj).2
        clear hr c3
        generalize ps.getD j (0, 0) = p at *
        go_wp2_with fail
        go_ret
        exact ⟨ret_int he.out.symm, 0, rfl⟩
end Go.Proofs.YtlpjcebpfmhpnaaDoor
