/-
  The last index of a profile, a point's distance from the first end, and a copy of a part of a row. The conditions are the hypotheses.
-/
import Derived.Test.YtedpdcdmemenhaaRows
import Derived.Test.YtedpdcdmemenhaaLib
import Derived.Test.YtedpdcdmemenhaaInt
import Derived.Test.YtedpdcdmemenhaaOwn
import Derived.Test.YtedpdcdmemenhaaField
import Derived.Outline
import Derived.OwnWalk
import Derived.WalkSpells
import Derived.Lib.ItoaMem
import Derived.Deep.QuietTactic
import Derived.BigQuiet
import Derived.Deep.RegionHeld3
import Derived.Deep.DrawnRows
namespace Go.Proofs.Ytedpdcdmemenhaa
open Go.RowKit
set_option linter.unusedSimpArgs false
set_option linter.unusedVariables false
attribute [local go_sem ↓] Go.wp_at_zero Go.wp_at_succ
def offV (d n i : Int) : Int := if 2 * i ≤ n then rdiv (d * i) n else d - rdiv (d * (n - i)) n
theorem off_lo {d n i : Int} (h : 2 * i ≤ n) : offV d n i = rdiv (d * i) n := if_pos h
theorem off_hi {d n i : Int} (h : ¬ 2 * i ≤ n) : offV d n i = d - rdiv (d * (n - i)) n := if_neg h
theorem off_mul {d n i : Int} (d0 : 1 ≤ d) (d1 : d ≤ 283000) (n0 : 1 ≤ n) (n1 : n ≤ 64) (i0 : 0 ≤ i) (i1 : i ≤ n) : (0 ≤ d * i ∧ d * i ≤ 283000 * 64) ∧ (0 ≤ d * (n - i) ∧ d * (n - i) ≤ 283000 * 64) ∧ d * i ≤ d * n ∧ d * (n - i) ≤ d * n := by
  have h1 := mul_nn (a := d) (b := i) (A := 283000) (B := 64) (by omega) d1 i0 (by omega)
  have h2 := mul_nn (a := d) (b := n - i) (A := 283000) (B := 64) (by omega) d1 (by omega) (by omega)
  exact ⟨h1, h2, Int.mul_le_mul_of_nonneg_left i1 (by omega), Int.mul_le_mul_of_nonneg_left (by omega) (by omega)⟩
theorem off_bd {d n i : Int} (d0 : 1 ≤ d) (d1 : d ≤ 283000) (n0 : 1 ≤ n) (n1 : n ≤ 64) (i0 : 0 ≤ i) (i1 : i ≤ n) : 0 ≤ offV d n i ∧ offV d n i ≤ d := by
  obtain ⟨⟨a0, a1⟩, ⟨b0, b1⟩, c1, c2⟩ := off_mul d0 d1 n0 n1 i0 i1
  by_cases h : 2 * i ≤ n
  · rw [off_lo h]
    exact ⟨rdiv_nonneg a0 (by omega), rdiv_le a0 (by omega) (by rw [Int.mul_comm d n] at c1; rw [Int.mul_comm d n]; exact c1)⟩
  · rw [off_hi h]
    have h1 := rdiv_nonneg b0 (show 0 < n by omega)
    have h2 := rdiv_le b0 (show 0 < n by omega) c2
    omega
theorem last_any (w : World) (d f l : Int) (A : Option Addr) (n c : Nat) (hn : n ≤ 1000000) :
    Calls Try.prog 64 #[.agg #[.int .i64 d, .int .i64 f, .int .i64 l, .slice A n c]] w fun e w' => e = .returned (.int .i64 ((n : Int) - 1)) ∧ Below w.heap.size w w' := by
  have i1 : IntKind.i64.wrap ((n : Int) - 1) = (n : Int) - 1 := by rw [IntKind.wrap_i64]; omega
  go_enter Try.func64, Try.ntmps64
  go_wp2_with fail
  go_ret
  exact ⟨rfl, by repeat (first | (with_reducible exact Below.refl _ _) | (with_reducible assumption) | ((with_reducible refine bl_alloc ?_ _ ?_); (focus ((first | omega | (simp <;> omega)); done))) | ((with_reducible refine bl_set ?_ _ ?_); (focus ((first | omega | (simp <;> omega)); done))) | (with_reducible refine below_drewN ?_ _) | (with_reducible refine Below.drew ?_))⟩
set_option maxRecDepth 20000 in
theorem offset_any (w : World) (d f l : Int) (A : Option Addr) (n c : Nat) (i : Int) (n0 : 2 ≤ n) (n1 : n ≤ 65) (d0 : 1 ≤ d) (d1 : d ≤ 283000) (i0 : 0 ≤ i) (i1 : i ≤ (n : Int) - 1) :
    Calls Try.prog 95 #[.agg #[.int .i64 d, .int .i64 f, .int .i64 l, .slice A n c], .int .i64 i] w fun e w' => e = .returned (.int .i64 (offV d ((n : Int) - 1) i)) ∧ Below w.heap.size w w' := by
  have HL : Hid (∀ W : World, Calls Try.prog 64 #[.agg #[.int .i64 d, .int .i64 f, .int .i64 l, .slice A n c]] W fun e w' => e = .returned (.int .i64 ((n : Int) - 1)) ∧ Below W.heap.size W w') := fun W => last_any W d f l A n c (by omega)
  obtain ⟨m, hm⟩ : ∃ m, m = (n : Int) - 1 := ⟨_, rfl⟩
  rw [← hm] at HL i1 ⊢
  have m0 : 1 ≤ m := by omega
  have m1 : m ≤ 64 := by omega
  clear hm n0 n1
  obtain ⟨⟨a0, a1⟩, ⟨b0, b1⟩, _, _⟩ := off_mul d0 d1 m0 m1 i0 i1
  have j1 : IntKind.i64.wrap (2 * i) = 2 * i := by rw [IntKind.wrap_i64]; omega
  have j2 : IntKind.i64.wrap (m - i) = m - i := by rw [IntKind.wrap_i64]; omega
  have j3 : IntKind.i64.wrap (d * i) = d * i := by rw [IntKind.wrap_i64]; omega
  have j4 : IntKind.i64.wrap (d * (m - i)) = d * (m - i) := by rw [IntKind.wrap_i64]; omega
  by_cases hc : 2 * i ≤ m
  · have hv := Lib.hid (off_lo (d := d) hc)
    have HD : Hid (∀ W : World, Calls Try.prog 125 #[.int .i64 (d * i), .int .i64 m] W fun e w' => e = .returned (.int .i64 (rdiv (d * i) m)) ∧ ∃ q, w' = W.drewN q) := fun W => divRound_any _ _ (by omega) (by omega) W
    rw [hv.out]
    go_enter Try.func95, Try.ntmps95
    go_wp2_with fail
    refine (HL.out _).mono ?_
    rintro e w1 ⟨rfl, hb⟩
    have H1 := Lib.hid (show Below w.heap.size w w1 by repeat (first | (with_reducible exact Below.refl _ _) | (with_reducible assumption) | ((with_reducible refine bl_alloc ?_ _ ?_); (focus ((first | omega | (simp <;> omega)); done))) | ((with_reducible refine bl_set ?_ _ ?_); (focus ((first | omega | (simp <;> omega)); done))) | (with_reducible refine below_drewN ?_ _) | (with_reducible refine Below.drew ?_) | ((with_reducible refine bl_trans ?_ hb ?_); (focus ((first | omega | (simp <;> omega)); done)))))
    have x0 := keeps hb (p := ⟨w.heap.size, 0, none⟩) (v := .int .i64 d) (by simp [go_sem])
    clear hb
    go_wp2_with fail
    refine (HD.out _).mono ?_
    rintro e w2 ⟨rfl, q, rfl⟩
    go_wp2_with fail
    go_ret
    exact ⟨rfl, by repeat (first | (with_reducible exact Below.refl _ _) | (with_reducible assumption) | ((with_reducible refine bl_alloc ?_ _ ?_); (focus ((first | omega | (simp <;> omega)); done))) | ((with_reducible refine bl_set ?_ _ ?_); (focus ((first | omega | (simp <;> omega)); done))) | (with_reducible refine below_drewN ?_ _) | (with_reducible refine Below.drew ?_) | ((with_reducible refine bl_trans ?_ H1.out ?_); (focus ((first | omega | (simp <;> omega)); done))))⟩
  · have hv := Lib.hid (off_hi (d := d) hc)
    have hr := rdiv_nonneg b0 (show 0 < m by omega)
    obtain ⟨_, c3⟩ := off_bd d0 d1 m0 m1 i0 i1
    have c4 := (off_bd d0 d1 m0 m1 i0 i1).1
    rw [hv.out] at c3 c4
    have HD : Hid (∀ W : World, Calls Try.prog 125 #[.int .i64 (d * (m - i)), .int .i64 m] W fun e w' => e = .returned (.int .i64 (rdiv (d * (m - i)) m)) ∧ ∃ q, w' = W.drewN q) := fun W => divRound_any _ _ (by omega) (by omega) W
    rw [hv.out]
    obtain ⟨R, hR⟩ : ∃ R, R = rdiv (d * (m - i)) m := ⟨_, rfl⟩
    rw [← hR] at HD hr c3 c4 ⊢
    clear hR
    have j5 : IntKind.i64.wrap (d - R) = d - R := by rw [IntKind.wrap_i64]; omega
    go_enter Try.func95, Try.ntmps95
    go_wp2_with fail
    refine (HL.out _).mono ?_
    rintro e w1 ⟨rfl, hb⟩
    have H1 := Lib.hid (show Below w.heap.size w w1 by repeat (first | (with_reducible exact Below.refl _ _) | (with_reducible assumption) | ((with_reducible refine bl_alloc ?_ _ ?_); (focus ((first | omega | (simp <;> omega)); done))) | ((with_reducible refine bl_set ?_ _ ?_); (focus ((first | omega | (simp <;> omega)); done))) | (with_reducible refine below_drewN ?_ _) | (with_reducible refine Below.drew ?_) | ((with_reducible refine bl_trans ?_ hb ?_); (focus ((first | omega | (simp <;> omega)); done)))))
    have x0 := keeps hb (p := ⟨w.heap.size, 0, none⟩) (v := .int .i64 d) (by simp [go_sem])
    clear hb
    go_wp2_with fail
    go_quiet ((go_at_call 125; exact quiet_draws (HD.out _)))
    go_wp2_with fail
    go_ret
    exact ⟨rfl, by repeat (first | (with_reducible exact Below.refl _ _) | (with_reducible assumption) | ((with_reducible refine bl_alloc ?_ _ ?_); (focus ((first | omega | (simp <;> omega)); done))) | ((with_reducible refine bl_set ?_ _ ?_); (focus ((first | omega | (simp <;> omega)); done))) | (with_reducible refine below_drewN ?_ _) | (with_reducible refine Below.drew ?_) | ((with_reducible refine bl_trans ?_ H1.out ?_); (focus ((first | omega | (simp <;> omega)); done))))⟩
set_option maxRecDepth 20000 in
theorem l05Offset_any (w : World) (o : Nat) (d : Int) (A : Option Addr) (n c : Nat) (i : Int) (n0 : 2 ≤ n) (n1 : n ≤ 65) (d0 : 1 ≤ d) (d1 : d ≤ 283000) (i0 : 0 ≤ i) (i1 : i ≤ (n : Int) - 1) (c0 : w.cell? ⟨o, 0, none⟩ = some (.int .i64 d)) (c3 : w.cell? ⟨o, 3, none⟩ = some (.slice A n c)) :
    Calls Try.prog 94 #[.pointer (some ⟨o, 0, none⟩), .int .i64 i] w fun e w' => e = .returned (.int .i64 (offV d ((n : Int) - 1) i)) ∧ ∃ q, w' = w.drewN q := by
  have j0 : IntKind.i64.wrap ((n : Int) - 1) = (n : Int) - 1 := by rw [IntKind.wrap_i64]; omega
  have m0 : 1 ≤ (n : Int) - 1 := by omega
  have m1 : (n : Int) - 1 ≤ 64 := by omega
  obtain ⟨⟨a0, a1⟩, ⟨b0, b1⟩, _, _⟩ := off_mul d0 d1 m0 m1 i0 i1
  have j1 : IntKind.i64.wrap (2 * i) = 2 * i := by rw [IntKind.wrap_i64]; omega
  have j2 : IntKind.i64.wrap ((n : Int) - 1 - i) = (n : Int) - 1 - i := by rw [IntKind.wrap_i64]; omega
  have j3 : IntKind.i64.wrap (d * i) = d * i := by rw [IntKind.wrap_i64]; omega
  have j4 : IntKind.i64.wrap (d * ((n : Int) - 1 - i)) = d * ((n : Int) - 1 - i) := by rw [IntKind.wrap_i64]; omega
  by_cases hc : 2 * i ≤ (n : Int) - 1
  · have hv := Lib.hid (off_lo (d := d) hc)
    have HD : Hid (∀ W : World, Calls Try.prog 113 #[.int .i64 (d * i), .int .i64 ((n : Int) - 1)] W fun e w' => e = .returned (.int .i64 (rdiv (d * i) ((n : Int) - 1))) ∧ W = w') := fun W => l01Div_any _ _ (by omega) (by omega) W
    rw [hv.out]
    clear hv
    go_enter Try.func94, Try.ntmps94
    go_wp2_with fail
    refine (HD.out _).mono ?_
    rintro e w2 ⟨rfl, rfl⟩
    go_wp2_with fail
    go_ret
    exact ⟨rfl, 0, rfl⟩
  · have hv := Lib.hid (off_hi (d := d) hc)
    have hc2 : (n : Int) - 1 < 2 * i := by omega
    have hr := rdiv_nonneg b0 (show 0 < (n : Int) - 1 by omega)
    obtain ⟨c4, c5⟩ := off_bd d0 d1 m0 m1 i0 i1
    rw [hv.out] at c4 c5
    have HD : Hid (∀ W : World, Calls Try.prog 113 #[.int .i64 (d * ((n : Int) - 1 - i)), .int .i64 ((n : Int) - 1)] W fun e w' => e = .returned (.int .i64 (rdiv (d * ((n : Int) - 1 - i)) ((n : Int) - 1))) ∧ W = w') := fun W => l01Div_any _ _ (by omega) (by omega) W
    rw [hv.out]
    clear hv
    obtain ⟨R, hR⟩ : ∃ R, R = rdiv (d * ((n : Int) - 1 - i)) ((n : Int) - 1) := ⟨_, rfl⟩
    rw [← hR] at HD hr c4 c5 ⊢
    clear hR
    have j5 : IntKind.i64.wrap (d - R) = d - R := by rw [IntKind.wrap_i64]; omega
    go_enter Try.func94, Try.ntmps94
    go_wp2_with fail
    go_quiet ((go_at_call 113; exact quiet_left (HD.out _)))
    go_wp2_with fail
    go_ret
    exact ⟨rfl, _, rfl⟩
theorem news_view {w : World} {g off n : Nat} {xs : List Int} (hn : n = xs.length) (hc : ∀ k, k < n → w.cell? ⟨g, off + k, none⟩ = some (.int .i64 (xs.getD k 0))) :
    ∀ (j : Nat) (u : Value), (xs.map (Value.int .i64))[j]? = some u → w.cell? ((⟨g, off, none⟩ : Addr).add j) = some u := by
  intro j u hu
  rw [List.getElem?_map, Option.map_eq_some_iff] at hu
  obtain ⟨a, ha, rfl⟩ := hu
  obtain ⟨hj, rfl⟩ := List.getElem?_eq_some_iff.1 ha
  rw [Lib.add_plain, hc j (by omega)]
  simp [hj]
set_option maxRecDepth 20000 in
theorem l00Own_view (w : World) (g off n cap : Nat) (xs : List Int) (hn : n = xs.length) (hc : ∀ k, k < n → w.cell? ⟨g, off + k, none⟩ = some (.int .i64 (xs.getD k 0))) (h0 : 0 < n) (h1 : n ≤ 1000000) :
    Calls Try.prog 51 #[.slice (some ⟨g, off, none⟩) n cap] w fun e w' => ∃ A n c, e = .returned (.slice A n c) ∧ Row 2 w' w.heap.size (.slice A n c) xs ∧ Below w.heap.size w w' := by
  have hl0 : xs ≠ [] := by rintro rfl; simp at hn; omega
  have HN := Lib.hid hn
  have HNW := Lib.hid (news_view (w := w.alloc (.cells #[] 2)) hn (fun k hk => cell_alloc (hc k hk) _))
  have HNE := Lib.hid hl0
  obtain ⟨i0, hi, hz0, hz1, hz2⟩ := info_parts Try.info_i64
  have HI := Lib.hid hi
  have HZ0 := Lib.hid hz0
  have HZ1 := Lib.hid hz1
  have HZ2 := Lib.hid hz2
  clear hi hz0 hz1 hz2 hc hn hl0
  go_enter Try.func51, Try.ntmps51
  go_wp2_with (first | (at_builtin; refine wpList_append_own _ rfl _ _ 22 rfl w.heap.size 2 i0 (.int .i64 0) 1 8 Try.underlying22 HI.out HZ0.out HZ1.out HZ2.out rfl (by decide) _ 0 ([].map (Value.int .i64)) rfl (app_row0 w (Nat.le_refl _)) ⟨g, off, none⟩ n cap (xs.map (Value.int .i64)) rfl (by rw [List.length_map, HN.out, Nat.mul_one]) HNW.out (news_one xs) (by unfold maxLen; omega) (by omega) (by simp) ?_))
  intro v' w1 hown hgrow _
  have hr : Hid (Row 2 w1 w.heap.size v' xs) := app_all HN.out hown
  have hb3 := app_below (app_row0 w (Nat.le_refl _)) hgrow (by simp)
  have H3 := Lib.hid (show Below w.heap.size w w1 from (bl_alloc (Nat.le_refl _) _ (Below.refl _ _)).trans hb3)
  clear hown hgrow hb3
  rcases hr.out.forms with ⟨_, hz⟩ | ⟨g', cap', rfl, _⟩
  · exact absurd hz HNE.out
  go_wp2
  go_ret
  exact ⟨_, _, _, rfl, hr.out, H3.out⟩
end Go.Proofs.Ytedpdcdmemenhaa
