/-
  The walk of FnExactBestMode: it returns true, and of what was there nothing has turned. The conditions are what its arguments' readings give.
-/
import Derived.Test.YtdafkebnmmkeeaaRows
import Derived.Test.YtdafkebnmmkeeaaLib
import Derived.Test.YtdafkebnmmkeeaaInt
import Derived.Test.YtdafkebnmmkeeaaWithin
import Derived.Test.YtdafkebnmmkeeaaNames
import Derived.Test.YtdafkebnmmkeeaaRadioB
import Derived.Test.YtdafkebnmmkeeaaModes
import Derived.Test.YtdafkebnmmkeeaaRadios
import Derived.Test.YtdafkebnmmkeeaaRadioS
import Derived.Test.YtdafkebnmmkeeaaRadio
import Derived.Test.YtdafkebnmmkeeaaBest
import Derived.Outline
import Derived.Deep.RegionHeld3
import Derived.Deep.DrawnRows
namespace Go.Proofs.Ytdafkebnmmkeeaa.fnExactBestMode
open Go.RowKit Go.ChangeShapes Go.WideShapes Go.ChangeAt
set_option linter.unusedVariables false
set_option linter.unusedSimpArgs false

attribute [local go_sem ↓] Go.wp_at_zero Go.wp_at_succ
def bestR (ms : List (Int × Int)) (snr : Int) : Int × Int := if bestV ms snr < 0 then (0, 3) else (bestV ms snr, 0)
def bestModeM (s : ByteArray) (p f n wd : Int) (ms : List (Int × Int)) (snr : Int) : Int × Int := if radB s p f n wd ms = true then (if True then bestR ms snr else (0, 2)) else (0, 1)
theorem bestModeM_bad {s : ByteArray} {p f n wd : Int} {ms : List (Int × Int)} {snr : Int} (h : radB s p f n wd ms = false) : bestModeM s p f n wd ms snr = (0, 1) := if_neg (by rw [h]; decide)
theorem bestModeM_out {s : ByteArray} {p f n wd : Int} {ms : List (Int × Int)} {snr : Int} (h : radB s p f n wd ms = true) (h1 : ¬ (True)) : bestModeM s p f n wd ms snr = (0, 2) := by
  unfold bestModeM
  rw [if_pos h, if_neg h1]
theorem bestModeM_yes {s : ByteArray} {p f n wd : Int} {ms : List (Int × Int)} {snr : Int} (h : radB s p f n wd ms = true) (h1 : True) : bestModeM s p f n wd ms snr = bestR ms snr := by
  unfold bestModeM
  rw [if_pos h, if_pos h1]
set_option maxRecDepth 20000 in
set_option maxHeartbeats 4000000 in
theorem spec_any (w : World) (s : ByteArray) (is : s.size ≤ maxLen) (p : Int) (ip : In64 p) (f : Int) (jf : In64 f) (n : Int) (jn : In64 n) (wd : Int) (iw : In64 wd) (v : Value) (ms : List (Int × Int)) (q : Nat) (hr : RowM 138 w q v ms) (ims : ∀ m ∈ ms, In64 m.1 ∧ In64 m.2) (snr : Int) (isnr : In64 snr) :
    Calls Try.prog 13 #[.agg #[.string s, .int .i64 p, .int .i64 f, .int .i64 n, .int .i64 wd, v], .int .i64 snr] w fun e w' => e = .returned (.tuple #[.int .i64 (bestModeM s p f n wd ms snr).1, .int .i64 (bestModeM s p f n wd ms snr).2]) ∧ Below w.heap.size w w' := by
  have IS := Lib.hid is
  have HR := Lib.hid hr
  clear is hr ims
  rcases bool_tf (radB s p f n wd ms) with hv | hv
  rotate_left
  · rw [bestModeM_bad hv]
    have HE := Lib.hid hv
    clear hv
    go_enter Try.func13, Try.ntmps13
    go_wp2_with fail
    refine (l07Ok_any _ w.heap.size s IS.out p f n wd v ms q (HR.out.alloc_ _) (by simp [go_sem]) (by simp [go_sem]) (by simp [go_sem]) (by simp [go_sem]) (by simp [go_sem]) (by simp [go_sem])).mono ?_
    rintro e w1 ⟨he, hb⟩
    rw [HE.out] at he
    subst he
    have H1 := Lib.hid (show Below w.heap.size w w1 by repeat (first | (with_reducible exact Below.refl _ _) | (with_reducible assumption) | ((with_reducible refine bl_alloc ?_ _ ?_); (focus ((first | omega | (simp <;> omega)); done))) | ((with_reducible refine bl_set ?_ _ ?_); (focus ((first | omega | (simp <;> omega)); done))) | (with_reducible refine below_drewN ?_ _) | (with_reducible refine Below.drew ?_) | ((with_reducible refine bl_trans ?_ hb ?_); (focus ((first | omega | (simp <;> omega)); done)))))
    have x0 := keeps hb (p := ⟨w.heap.size, 0, none⟩) (v := .string s) (by simp [go_sem])
    have x1 := keeps hb (p := ⟨w.heap.size, 1, none⟩) (v := .int .i64 p) (by simp [go_sem])
    have x2 := keeps hb (p := ⟨w.heap.size, 2, none⟩) (v := .int .i64 f) (by simp [go_sem])
    have x3 := keeps hb (p := ⟨w.heap.size, 3, none⟩) (v := .int .i64 n) (by simp [go_sem])
    have x4 := keeps hb (p := ⟨w.heap.size, 4, none⟩) (v := .int .i64 wd) (by simp [go_sem])
    have x5 := keeps hb (p := ⟨w.heap.size, 5, none⟩) (v := v) (by simp [go_sem])
    have lW : w.heap.size < w1.heap.size := block_of_cell x5
    have zz : w.heap.size ≤ w1.heap.size := by omega
    have HRR := Lib.hid ((HR.out.alloc_ (.cells #[.string s, .int .i64 p, .int .i64 f, .int .i64 n, .int .i64 wd, v] 30)).later hb)
    clear hb
    go_wp2_with fail
    go_ret2
    exact ⟨rfl, by repeat (first | (with_reducible exact Below.refl _ _) | (with_reducible assumption) | ((with_reducible refine bl_alloc ?_ _ ?_); (focus ((first | omega | (simp <;> omega)); done))) | ((with_reducible refine bl_set ?_ _ ?_); (focus ((first | omega | (simp <;> omega)); done))) | (with_reducible refine below_drewN ?_ _) | (with_reducible refine Below.drew ?_) | ((with_reducible refine bl_trans ?_ H1.out ?_); (focus ((first | omega | (simp <;> omega)); done))))⟩
  rw [bestModeM_yes hv trivial]
  obtain ⟨_, ⟨⟨p1, p2⟩, ⟨f1, f2⟩, ⟨n1, n2⟩, ⟨d1, d2⟩, m1, m8⟩, hm⟩ := rad_parts hv
  have HE := Lib.hid hv
  have HM := Lib.hid hm
  clear hv hm
  obtain ⟨k0, k1⟩ := bestV_bd ms snr
  have HB : Hid (bestR ms snr = if bestV ms snr < 0 then (0, 3) else (bestV ms snr, 0)) := rfl
  obtain ⟨R, hR⟩ : ∃ R, R = bestR ms snr := ⟨_, rfl⟩
  rw [← hR] at HB ⊢
  obtain ⟨K, hK⟩ : ∃ K, K = bestV ms snr := ⟨_, rfl⟩
  rw [← hK] at HB k0 k1
  have HK := Lib.hid hK
  clear hK hR
  go_enter Try.func13, Try.ntmps13
  go_wp2_with fail
  refine (l07Ok_any _ w.heap.size s IS.out p f n wd v ms q (HR.out.alloc_ _) (by simp [go_sem]) (by simp [go_sem]) (by simp [go_sem]) (by simp [go_sem]) (by simp [go_sem]) (by simp [go_sem])).mono ?_
  rintro e w1 ⟨he, hb⟩
  rw [HE.out] at he
  subst he
  have H1 := Lib.hid (show Below w.heap.size w w1 by repeat (first | (with_reducible exact Below.refl _ _) | (with_reducible assumption) | ((with_reducible refine bl_alloc ?_ _ ?_); (focus ((first | omega | (simp <;> omega)); done))) | ((with_reducible refine bl_set ?_ _ ?_); (focus ((first | omega | (simp <;> omega)); done))) | (with_reducible refine below_drewN ?_ _) | (with_reducible refine Below.drew ?_) | ((with_reducible refine bl_trans ?_ hb ?_); (focus ((first | omega | (simp <;> omega)); done)))))
  have x0 := keeps hb (p := ⟨w.heap.size, 0, none⟩) (v := .string s) (by simp [go_sem])
  have x1 := keeps hb (p := ⟨w.heap.size, 1, none⟩) (v := .int .i64 p) (by simp [go_sem])
  have x2 := keeps hb (p := ⟨w.heap.size, 2, none⟩) (v := .int .i64 f) (by simp [go_sem])
  have x3 := keeps hb (p := ⟨w.heap.size, 3, none⟩) (v := .int .i64 n) (by simp [go_sem])
  have x4 := keeps hb (p := ⟨w.heap.size, 4, none⟩) (v := .int .i64 wd) (by simp [go_sem])
  have x5 := keeps hb (p := ⟨w.heap.size, 5, none⟩) (v := v) (by simp [go_sem])
  have lW : w.heap.size < w1.heap.size := block_of_cell x5
  have zz : w.heap.size ≤ w1.heap.size := by omega
  have HRR := Lib.hid ((HR.out.alloc_ (.cells #[.string s, .int .i64 p, .int .i64 f, .int .i64 n, .int .i64 wd, v] 30)).later hb)
  clear hb
  go_wp2_with fail
  refine (l07Best_any _ w.heap.size v ms q HRR.out x5 snr).mono ?_
  rintro e w2 ⟨he, hw⟩
  rw [← HK.out] at he
  subst he
  have H2 := Lib.hid (show Below w.heap.size w w2 by rw [← hw]; exact H1.out)
  clear hw
  by_cases hz : K < 0
  · obtain rfl : R = (0, 3) := HB.out.trans (if_pos hz)
    have hz2 : ¬ 0 ≤ K := by omega
    have hd2 : decide (0 ≤ K) = false := decide_eq_false hz2
    have hd : decide (K < 0) = true := decide_eq_true hz
    go_wp2_with fail
    all_goals go_ret2
    all_goals exact ⟨rfl, H2.out⟩
  · obtain rfl : R = (K, 0) := HB.out.trans (if_neg hz)
    have hz2 : 0 ≤ K := by omega
    have hd2 : decide (0 ≤ K) = true := decide_eq_true hz2
    have hd : decide (K < 0) = false := decide_eq_false hz
    go_wp2_with fail
    all_goals go_ret2
    all_goals exact ⟨rfl, H2.out⟩
set_option maxRecDepth 20000 in
set_option maxHeartbeats 4000000 in
theorem impl_any (w : World) (s : ByteArray) (is : s.size ≤ maxLen) (p : Int) (ip : In64 p) (f : Int) (jf : In64 f) (n : Int) (jn : In64 n) (wd : Int) (iw : In64 wd) (v : Value) (ms : List (Int × Int)) (q : Nat) (hr : RowM 138 w q v ms) (ims : ∀ m ∈ ms, In64 m.1 ∧ In64 m.2) (snr : Int) (isnr : In64 snr) :
    Calls Try.prog 15 #[.agg #[.string s, .int .i64 p, .int .i64 f, .int .i64 n, .int .i64 wd, v], .int .i64 snr] w fun e w' => e = .returned (.tuple #[.int .i64 (bestModeM s p f n wd ms snr).1, .int .i64 (bestModeM s p f n wd ms snr).2]) ∧ Below w.heap.size w w' := by
  have IS := Lib.hid is
  have HR := Lib.hid hr
  clear is hr ims
  rcases bool_tf (radB s p f n wd ms) with hv | hv
  rotate_left
  · rw [bestModeM_bad hv]
    have HE := Lib.hid hv
    clear hv
    go_enter Try.func15, Try.ntmps15
    go_wp2_with fail
    refine (ValidRadio_any _ s IS.out p f n wd v ms q (HR.out.alloc_ _)).mono ?_
    rintro e w1 ⟨he, hb⟩
    rw [HE.out] at he
    subst he
    have H1 := Lib.hid (show Below w.heap.size w w1 by repeat (first | (with_reducible exact Below.refl _ _) | (with_reducible assumption) | ((with_reducible refine bl_alloc ?_ _ ?_); (focus ((first | omega | (simp <;> omega)); done))) | ((with_reducible refine bl_set ?_ _ ?_); (focus ((first | omega | (simp <;> omega)); done))) | (with_reducible refine below_drewN ?_ _) | (with_reducible refine Below.drew ?_) | ((with_reducible refine bl_trans ?_ hb ?_); (focus ((first | omega | (simp <;> omega)); done)))))
    have x0 := keeps hb (p := ⟨w.heap.size, 0, none⟩) (v := .string s) (by simp [go_sem])
    have x1 := keeps hb (p := ⟨w.heap.size, 1, none⟩) (v := .int .i64 p) (by simp [go_sem])
    have x2 := keeps hb (p := ⟨w.heap.size, 2, none⟩) (v := .int .i64 f) (by simp [go_sem])
    have x3 := keeps hb (p := ⟨w.heap.size, 3, none⟩) (v := .int .i64 n) (by simp [go_sem])
    have x4 := keeps hb (p := ⟨w.heap.size, 4, none⟩) (v := .int .i64 wd) (by simp [go_sem])
    have x5 := keeps hb (p := ⟨w.heap.size, 5, none⟩) (v := v) (by simp [go_sem])
    have lW : w.heap.size < w1.heap.size := block_of_cell x5
    have zz : w.heap.size ≤ w1.heap.size := by omega
    have HRR := Lib.hid ((HR.out.alloc_ (.cells #[.string s, .int .i64 p, .int .i64 f, .int .i64 n, .int .i64 wd, v] 30)).later hb)
    clear hb
    go_wp2_with fail
    go_ret2
    exact ⟨rfl, by repeat (first | (with_reducible exact Below.refl _ _) | (with_reducible assumption) | ((with_reducible refine bl_alloc ?_ _ ?_); (focus ((first | omega | (simp <;> omega)); done))) | ((with_reducible refine bl_set ?_ _ ?_); (focus ((first | omega | (simp <;> omega)); done))) | (with_reducible refine below_drewN ?_ _) | (with_reducible refine Below.drew ?_) | ((with_reducible refine bl_trans ?_ H1.out ?_); (focus ((first | omega | (simp <;> omega)); done))))⟩
  rw [bestModeM_yes hv trivial]
  obtain ⟨_, ⟨⟨p1, p2⟩, ⟨f1, f2⟩, ⟨n1, n2⟩, ⟨d1, d2⟩, m1, m8⟩, hm⟩ := rad_parts hv
  have HE := Lib.hid hv
  have HM := Lib.hid hm
  clear hv hm
  obtain ⟨k0, k1⟩ := bestV_bd ms snr
  have HB : Hid (bestR ms snr = if bestV ms snr < 0 then (0, 3) else (bestV ms snr, 0)) := rfl
  obtain ⟨R, hR⟩ : ∃ R, R = bestR ms snr := ⟨_, rfl⟩
  rw [← hR] at HB ⊢
  obtain ⟨K, hK⟩ : ∃ K, K = bestV ms snr := ⟨_, rfl⟩
  rw [← hK] at HB k0 k1
  have HK := Lib.hid hK
  clear hK hR
  go_enter Try.func15, Try.ntmps15
  go_wp2_with fail
  refine (ValidRadio_any _ s IS.out p f n wd v ms q (HR.out.alloc_ _)).mono ?_
  rintro e w1 ⟨he, hb⟩
  rw [HE.out] at he
  subst he
  have H1 := Lib.hid (show Below w.heap.size w w1 by repeat (first | (with_reducible exact Below.refl _ _) | (with_reducible assumption) | ((with_reducible refine bl_alloc ?_ _ ?_); (focus ((first | omega | (simp <;> omega)); done))) | ((with_reducible refine bl_set ?_ _ ?_); (focus ((first | omega | (simp <;> omega)); done))) | (with_reducible refine below_drewN ?_ _) | (with_reducible refine Below.drew ?_) | ((with_reducible refine bl_trans ?_ hb ?_); (focus ((first | omega | (simp <;> omega)); done)))))
  have x0 := keeps hb (p := ⟨w.heap.size, 0, none⟩) (v := .string s) (by simp [go_sem])
  have x1 := keeps hb (p := ⟨w.heap.size, 1, none⟩) (v := .int .i64 p) (by simp [go_sem])
  have x2 := keeps hb (p := ⟨w.heap.size, 2, none⟩) (v := .int .i64 f) (by simp [go_sem])
  have x3 := keeps hb (p := ⟨w.heap.size, 3, none⟩) (v := .int .i64 n) (by simp [go_sem])
  have x4 := keeps hb (p := ⟨w.heap.size, 4, none⟩) (v := .int .i64 wd) (by simp [go_sem])
  have x5 := keeps hb (p := ⟨w.heap.size, 5, none⟩) (v := v) (by simp [go_sem])
  have lW : w.heap.size < w1.heap.size := block_of_cell x5
  have zz : w.heap.size ≤ w1.heap.size := by omega
  have HRR := Lib.hid ((HR.out.alloc_ (.cells #[.string s, .int .i64 p, .int .i64 f, .int .i64 n, .int .i64 wd, v] 30)).later hb)
  clear hb
  go_wp2_with fail
  refine (bestMode_any _ s p f n wd v ms q HRR.out snr).mono ?_
  rintro e w2 ⟨he, hb⟩
  rw [← HK.out] at he
  subst he
  have H2 := Lib.hid (show Below w.heap.size w w2 by repeat (first | (with_reducible exact Below.refl _ _) | (with_reducible assumption) | ((with_reducible refine bl_alloc ?_ _ ?_); (focus ((first | omega | (simp <;> omega)); done))) | ((with_reducible refine bl_set ?_ _ ?_); (focus ((first | omega | (simp <;> omega)); done))) | (with_reducible refine below_drewN ?_ _) | (with_reducible refine Below.drew ?_) | ((with_reducible refine bl_trans ?_ hb ?_); (focus ((first | omega | (simp <;> omega)); done))) | ((with_reducible refine bl_trans ?_ H1.out ?_); (focus ((first | omega | (simp <;> omega)); done)))))
  clear hb
  by_cases hz : K < 0
  · obtain rfl : R = (0, 3) := HB.out.trans (if_pos hz)
    have hz2 : ¬ 0 ≤ K := by omega
    have hd2 : decide (0 ≤ K) = false := decide_eq_false hz2
    have hd : decide (K < 0) = true := decide_eq_true hz
    go_wp2_with (go_at_call 59; go_in)
    all_goals go_ret2
    all_goals exact ⟨rfl, H2.out⟩
  · obtain rfl : R = (K, 0) := HB.out.trans (if_neg hz)
    have hz2 : 0 ≤ K := by omega
    have hd2 : decide (0 ≤ K) = true := decide_eq_true hz2
    have hd : decide (K < 0) = false := decide_eq_false hz
    go_wp2_with (go_at_call 59; go_in)
    all_goals go_ret2
    all_goals exact ⟨rfl, H2.out⟩
set_option maxRecDepth 20000 in
set_option maxHeartbeats 4000000 in
theorem walk (w : World) (s0_0 : ByteArray) (is0_0 : s0_0.size ≤ maxLen) (a0_1 : Int) (ia0_1 : In64 a0_1) (a0_2 : Int) (ia0_2 : In64 a0_2) (a0_3 : Int) (ia0_3 : In64 a0_3) (a0_4 : Int) (ia0_4 : In64 a0_4) (v0_5 : Value) (x0_5 : List (Int × Int)) (r0_5 : RdM w w.heap.size v0_5 x0_5) (ix0_5 : ∀ n ∈ x0_5, In64 n.1 ∧ In64 n.2) (a1 : Int) (ia1 : In64 a1) :
    Calls Try.prog 3 #[.agg #[.string s0_0, .int .i64 a0_1, .int .i64 a0_2, .int .i64 a0_3, .int .i64 a0_4, v0_5], .int .i64 a1] w fun e w' => e = .returned (.bool true) ∧ Below w.heap.size w w' := by
  by_cases hs0 : ¬ (s0_0.size : Int) + (x0_5.length : Int) ≤ 1048576
  · go_enter Try.func3, Try.ntmps3
    go_wp2_with fail
    refine (szRadio_not s0_0 a0_1 a0_2 a0_3 a0_4 _ x0_5 _ w.heap.size (by first | omega | (simp <;> omega)) (RdM.below r0_5 (by repeat (first | (with_reducible exact Below.refl _ _) | (with_reducible assumption) | ((with_reducible refine bl_alloc ?_ _ ?_); (focus ((first | omega | (simp <;> omega)); done))) | ((with_reducible refine bl_set ?_ _ ?_); (focus ((first | omega | (simp <;> omega)); done))) | (with_reducible refine below_drewN ?_ _) | (with_reducible refine Below.drew ?_)))) is0_0 _ (by omega) (by omega) (by omega)).mono ?_
    rintro e w1 ⟨rfl, hb⟩
    have zz1 : w.heap.size + 1 ≤ w1.heap.size := (by have := hb.size; ((try simp at this) <;> omega))
    have H1 := Lib.hid (show Below w.heap.size w w1 by repeat (first | (with_reducible exact Below.refl _ _) | (with_reducible assumption) | ((with_reducible refine bl_alloc ?_ _ ?_); (focus ((first | omega | (simp <;> omega)); done))) | ((with_reducible refine bl_set ?_ _ ?_); (focus ((first | omega | (simp <;> omega)); done))) | (with_reducible refine below_drewN ?_ _) | (with_reducible refine Below.drew ?_) | ((with_reducible refine bl_trans ?_ hb ?_); (focus ((first | omega | (simp <;> omega)); done)))))
    have f0_0_1 := keeps hb (p := ⟨w.heap.size, 0, none⟩) (v := .string s0_0) (by simp [go_sem])
    have f0_1_1 := keeps hb (p := ⟨w.heap.size, 1, none⟩) (v := .int .i64 a0_1) (by simp [go_sem])
    have f0_2_1 := keeps hb (p := ⟨w.heap.size, 2, none⟩) (v := .int .i64 a0_2) (by simp [go_sem])
    have f0_3_1 := keeps hb (p := ⟨w.heap.size, 3, none⟩) (v := .int .i64 a0_3) (by simp [go_sem])
    have f0_4_1 := keeps hb (p := ⟨w.heap.size, 4, none⟩) (v := .int .i64 a0_4) (by simp [go_sem])
    have f0_5_1 := keeps hb (p := ⟨w.heap.size, 5, none⟩) (v := v0_5) (by simp [go_sem])
    have g0_1 : w.heap.size < w1.heap.size := block_of_cell f0_0_1
    clear hb
    go_wp2_with fail
    go_ret
    exact ⟨rfl, (by repeat (first | (with_reducible exact Below.refl _ _) | (with_reducible assumption) | ((with_reducible refine bl_alloc ?_ _ ?_); (focus ((first | omega | (simp <;> omega)); done))) | ((with_reducible refine bl_set ?_ _ ?_); (focus ((first | omega | (simp <;> omega)); done))) | (with_reducible refine below_drewN ?_ _) | (with_reducible refine Below.drew ?_) | ((with_reducible refine bl_trans ?_ H1.out ?_); (focus ((first | omega | (simp <;> omega)); done)))))⟩
  have hs0' : (s0_0.size : Int) + (x0_5.length : Int) ≤ 1048576 := by omega
  clear hs0
  go_enter Try.func3, Try.ntmps3
  go_wp2_with fail
  refine (szRadio_fits s0_0 a0_1 a0_2 a0_3 a0_4 _ x0_5 _ w.heap.size (by first | omega | (simp <;> omega)) (RdM.below r0_5 (by repeat (first | (with_reducible exact Below.refl _ _) | (with_reducible assumption) | ((with_reducible refine bl_alloc ?_ _ ?_); (focus ((first | omega | (simp <;> omega)); done))) | ((with_reducible refine bl_set ?_ _ ?_); (focus ((first | omega | (simp <;> omega)); done))) | (with_reducible refine below_drewN ?_ _) | (with_reducible refine Below.drew ?_)))) is0_0 _ (by omega) (by omega)).mono ?_
  rintro e w1 ⟨rfl, hb⟩
  have zz1 : w.heap.size + 1 ≤ w1.heap.size := (by have := hb.size; ((try simp at this) <;> omega))
  have H1 := Lib.hid (show Below w.heap.size w w1 by repeat (first | (with_reducible exact Below.refl _ _) | (with_reducible assumption) | ((with_reducible refine bl_alloc ?_ _ ?_); (focus ((first | omega | (simp <;> omega)); done))) | ((with_reducible refine bl_set ?_ _ ?_); (focus ((first | omega | (simp <;> omega)); done))) | (with_reducible refine below_drewN ?_ _) | (with_reducible refine Below.drew ?_) | ((with_reducible refine bl_trans ?_ hb ?_); (focus ((first | omega | (simp <;> omega)); done)))))
  have f0_0_1 := keeps hb (p := ⟨w.heap.size, 0, none⟩) (v := .string s0_0) (by simp [go_sem])
  have f0_1_1 := keeps hb (p := ⟨w.heap.size, 1, none⟩) (v := .int .i64 a0_1) (by simp [go_sem])
  have f0_2_1 := keeps hb (p := ⟨w.heap.size, 2, none⟩) (v := .int .i64 a0_2) (by simp [go_sem])
  have f0_3_1 := keeps hb (p := ⟨w.heap.size, 3, none⟩) (v := .int .i64 a0_3) (by simp [go_sem])
  have f0_4_1 := keeps hb (p := ⟨w.heap.size, 4, none⟩) (v := .int .i64 a0_4) (by simp [go_sem])
  have f0_5_1 := keeps hb (p := ⟨w.heap.size, 5, none⟩) (v := v0_5) (by simp [go_sem])
  have g0_1 : w.heap.size < w1.heap.size := block_of_cell f0_0_1
  clear hb
  go_wp2_with fail
  refine (toRadio_any s0_0 a0_1 a0_2 a0_3 a0_4 v0_5 x0_5 _ w.heap.size (by first | omega | (simp <;> omega)) (RdM.below r0_5 (by repeat (first | (with_reducible exact Below.refl _ _) | (with_reducible assumption) | ((with_reducible refine bl_alloc ?_ _ ?_); (focus ((first | omega | (simp <;> omega)); done))) | ((with_reducible refine bl_set ?_ _ ?_); (focus ((first | omega | (simp <;> omega)); done))) | (with_reducible refine below_drewN ?_ _) | (with_reducible refine Below.drew ?_) | ((with_reducible refine bl_trans ?_ H1.out ?_); (focus ((first | omega | (simp <;> omega)); done)))))) (by omega)).mono ?_
  rintro e w2 ⟨A0, n0, c0, rfl, hr0, hb⟩
  have zz2 : w1.heap.size ≤ w2.heap.size := (by have := hb.size; ((try simp at this) <;> omega))
  have H2 := Lib.hid (show Below w.heap.size w w2 by repeat (first | (with_reducible exact Below.refl _ _) | (with_reducible assumption) | ((with_reducible refine bl_alloc ?_ _ ?_); (focus ((first | omega | (simp <;> omega)); done))) | ((with_reducible refine bl_set ?_ _ ?_); (focus ((first | omega | (simp <;> omega)); done))) | (with_reducible refine below_drewN ?_ _) | (with_reducible refine Below.drew ?_) | ((with_reducible refine bl_trans ?_ hb ?_); (focus ((first | omega | (simp <;> omega)); done))) | ((with_reducible refine bl_trans ?_ H1.out ?_); (focus ((first | omega | (simp <;> omega)); done)))))
  have f0_0_2 := keeps hb f0_0_1
  have f0_1_2 := keeps hb f0_1_1
  have f0_2_2 := keeps hb f0_2_1
  have f0_3_2 := keeps hb f0_3_1
  have f0_4_2 := keeps hb f0_4_1
  have f0_5_2 := keeps hb f0_5_1
  have g0_2 : w.heap.size < w2.heap.size := block_of_cell f0_0_2
  have R0_2 := Lib.hid hr0
  have RL0 := Lib.hid (show ∀ g, Value.ownBlock (.slice A0 n0 c0) = some g → w1.heap.size ≤ g ∧ g < w2.heap.size from fun g h => by have l1 := hr0.lt g h; ((try simp at l1) <;> omega))
  clear hb f0_0_1 f0_1_1 f0_2_1 f0_3_1 f0_4_1 f0_5_1 g0_1 hr0 H1
  go_wp2_with fail
  refine (spec_any _ s0_0 is0_0 a0_1 ia0_1 a0_2 ia0_2 a0_3 ia0_3 a0_4 ia0_4 _ x0_5 _ R0_2.out ix0_5 a1 ia1).mono ?_
  rintro e w3 ⟨rfl, hb⟩
  have zz3 : w2.heap.size ≤ w3.heap.size := (by have := hb.size; ((try simp at this) <;> omega))
  have H3 := Lib.hid (show Below w.heap.size w w3 by repeat (first | (with_reducible exact Below.refl _ _) | (with_reducible assumption) | ((with_reducible refine bl_alloc ?_ _ ?_); (focus ((first | omega | (simp <;> omega)); done))) | ((with_reducible refine bl_set ?_ _ ?_); (focus ((first | omega | (simp <;> omega)); done))) | (with_reducible refine below_drewN ?_ _) | (with_reducible refine Below.drew ?_) | ((with_reducible refine bl_trans ?_ hb ?_); (focus ((first | omega | (simp <;> omega)); done))) | ((with_reducible refine bl_trans ?_ H2.out ?_); (focus ((first | omega | (simp <;> omega)); done)))))
  have f0_0_3 := keeps hb f0_0_2
  have f0_1_3 := keeps hb f0_1_2
  have f0_2_3 := keeps hb f0_2_2
  have f0_3_3 := keeps hb f0_3_2
  have f0_4_3 := keeps hb f0_4_2
  have f0_5_3 := keeps hb f0_5_2
  have g0_3 : w.heap.size < w3.heap.size := block_of_cell f0_0_3
  clear hb f0_0_2 f0_1_2 f0_2_2 f0_3_2 f0_4_2 f0_5_2 g0_2 R0_2 H2
  go_wp2_with fail
  refine (toRadio_any s0_0 a0_1 a0_2 a0_3 a0_4 v0_5 x0_5 _ w.heap.size (by first | omega | (simp <;> omega)) (RdM.below r0_5 (by repeat (first | (with_reducible exact Below.refl _ _) | (with_reducible assumption) | ((with_reducible refine bl_alloc ?_ _ ?_); (focus ((first | omega | (simp <;> omega)); done))) | ((with_reducible refine bl_set ?_ _ ?_); (focus ((first | omega | (simp <;> omega)); done))) | (with_reducible refine below_drewN ?_ _) | (with_reducible refine Below.drew ?_) | ((with_reducible refine bl_trans ?_ H3.out ?_); (focus ((first | omega | (simp <;> omega)); done)))))) (by omega)).mono ?_
  rintro e w4 ⟨A1, n1, c1, rfl, hr1, hb⟩
  have zz4 : w3.heap.size ≤ w4.heap.size := (by have := hb.size; ((try simp at this) <;> omega))
  have H4 := Lib.hid (show Below w.heap.size w w4 by repeat (first | (with_reducible exact Below.refl _ _) | (with_reducible assumption) | ((with_reducible refine bl_alloc ?_ _ ?_); (focus ((first | omega | (simp <;> omega)); done))) | ((with_reducible refine bl_set ?_ _ ?_); (focus ((first | omega | (simp <;> omega)); done))) | (with_reducible refine below_drewN ?_ _) | (with_reducible refine Below.drew ?_) | ((with_reducible refine bl_trans ?_ hb ?_); (focus ((first | omega | (simp <;> omega)); done))) | ((with_reducible refine bl_trans ?_ H3.out ?_); (focus ((first | omega | (simp <;> omega)); done)))))
  have f0_0_4 := keeps hb f0_0_3
  have f0_1_4 := keeps hb f0_1_3
  have f0_2_4 := keeps hb f0_2_3
  have f0_3_4 := keeps hb f0_3_3
  have f0_4_4 := keeps hb f0_4_3
  have f0_5_4 := keeps hb f0_5_3
  have g0_4 : w.heap.size < w4.heap.size := block_of_cell f0_0_4
  have R1_4 := Lib.hid hr1
  have RL1 := Lib.hid (show ∀ g, Value.ownBlock (.slice A1 n1 c1) = some g → w3.heap.size ≤ g ∧ g < w4.heap.size from fun g h => by have l1 := hr1.lt g h; ((try simp at l1) <;> omega))
  clear hb f0_0_3 f0_1_3 f0_2_3 f0_3_3 f0_4_3 f0_5_3 g0_3 hr1 H3
  go_wp2_with fail
  refine (impl_any _ s0_0 is0_0 a0_1 ia0_1 a0_2 ia0_2 a0_3 ia0_3 a0_4 ia0_4 _ x0_5 _ (R1_4.out.alloc_ _) ix0_5 a1 ia1).mono ?_
  rintro e w5 ⟨rfl, hb⟩
  have zz5 : w4.heap.size + 1 ≤ w5.heap.size := (by have := hb.size; ((try simp at this) <;> omega))
  have H5 := Lib.hid (show Below w.heap.size w w5 by repeat (first | (with_reducible exact Below.refl _ _) | (with_reducible assumption) | ((with_reducible refine bl_alloc ?_ _ ?_); (focus ((first | omega | (simp <;> omega)); done))) | ((with_reducible refine bl_set ?_ _ ?_); (focus ((first | omega | (simp <;> omega)); done))) | (with_reducible refine below_drewN ?_ _) | (with_reducible refine Below.drew ?_) | ((with_reducible refine bl_trans ?_ hb ?_); (focus ((first | omega | (simp <;> omega)); done))) | ((with_reducible refine bl_trans ?_ H4.out ?_); (focus ((first | omega | (simp <;> omega)); done)))))
  have f0_0_5 := keeps hb (cell_alloc f0_0_4 _)
  have f0_1_5 := keeps hb (cell_alloc f0_1_4 _)
  have f0_2_5 := keeps hb (cell_alloc f0_2_4 _)
  have f0_3_5 := keeps hb (cell_alloc f0_3_4 _)
  have f0_4_5 := keeps hb (cell_alloc f0_4_4 _)
  have f0_5_5 := keeps hb (cell_alloc f0_5_4 _)
  have g0_5 : w.heap.size < w5.heap.size := block_of_cell f0_0_5
  have f1_0_5 := keeps hb (p := ⟨w4.heap.size, 0, none⟩) (v := .string s0_0) (by simp [go_sem])
  have f1_1_5 := keeps hb (p := ⟨w4.heap.size, 1, none⟩) (v := .int .i64 a0_1) (by simp [go_sem])
  have f1_2_5 := keeps hb (p := ⟨w4.heap.size, 2, none⟩) (v := .int .i64 a0_2) (by simp [go_sem])
  have f1_3_5 := keeps hb (p := ⟨w4.heap.size, 3, none⟩) (v := .int .i64 a0_3) (by simp [go_sem])
  have f1_4_5 := keeps hb (p := ⟨w4.heap.size, 4, none⟩) (v := .int .i64 a0_4) (by simp [go_sem])
  have f1_5_5 := keeps hb (p := ⟨w4.heap.size, 5, none⟩) (v := (.slice A1 n1 c1)) (by simp [go_sem])
  have g1_5 : w4.heap.size < w5.heap.size := block_of_cell f1_0_5
  have R1_5 := Lib.hid (RowM.later (R1_4.out.alloc_ _) hb)
  clear hb f0_0_4 f0_1_4 f0_2_4 f0_3_4 f0_4_4 f0_5_4 g0_4 R1_4 H4
  go_wp2_with fail
  go_region_held3 (fun w' => w'.cell? ⟨w4.heap.size, 0, none⟩ = some (.string s0_0) ∧ w'.cell? ⟨w4.heap.size, 1, none⟩ = some (.int .i64 a0_1) ∧ w'.cell? ⟨w4.heap.size, 2, none⟩ = some (.int .i64 a0_2) ∧ w'.cell? ⟨w4.heap.size, 3, none⟩ = some (.int .i64 a0_3) ∧ w'.cell? ⟨w4.heap.size, 4, none⟩ = some (.int .i64 a0_4) ∧ w'.cell? ⟨w4.heap.size, 5, none⟩ = some ((.slice A1 n1 c1)) ∧ w'.cell? ⟨w.heap.size, 0, none⟩ = some (.string s0_0) ∧ w'.cell? ⟨w.heap.size, 1, none⟩ = some (.int .i64 a0_1) ∧ w'.cell? ⟨w.heap.size, 2, none⟩ = some (.int .i64 a0_2) ∧ w'.cell? ⟨w.heap.size, 3, none⟩ = some (.int .i64 a0_3) ∧ w'.cell? ⟨w.heap.size, 4, none⟩ = some (.int .i64 a0_4) ∧ w'.cell? ⟨w.heap.size, 5, none⟩ = some (v0_5))
    (first | (refine ⟨?_, ?_, ?_, ?_, ?_, ?_, ?_, ?_, ?_, ?_, ?_, ?_⟩ <;> assumption) | (go_split_ands; (refine ⟨?_, ?_, ?_, ?_, ?_, ?_, ?_, ?_, ?_, ?_, ?_, ?_⟩ <;> first | assumption | (refine keeps hb ?_; assumption))))
    (first
      | (go_at_call 14; ((with_reducible refine (toRadio_any s0_0 a0_1 a0_2 a0_3 a0_4 v0_5 x0_5 _ w.heap.size (by first | omega | (simp <;> omega)) (RdM.below r0_5 (by repeat (first | (with_reducible exact Below.refl _ _) | (with_reducible assumption) | ((with_reducible refine bl_alloc ?_ _ ?_); (focus ((first | omega | (simp <;> omega)); done))) | ((with_reducible refine bl_set ?_ _ ?_); (focus ((first | omega | (simp <;> omega)); done))) | (with_reducible refine below_drewN ?_ _) | (with_reducible refine Below.drew ?_) | ((with_reducible refine bl_trans ?_ H5.out ?_); (focus ((first | omega | (simp <;> omega)); done)))))) (by omega)).mono ?_); rintro e w6 ⟨A2, n2, c2, rfl, hr2, hb⟩; have zz6 : w5.heap.size ≤ w6.heap.size := (by have := hb.size; ((try simp at this) <;> omega)); have H6 := Lib.hid (show Below w.heap.size w w6 by repeat (first | (with_reducible exact Below.refl _ _) | (with_reducible assumption) | ((with_reducible refine bl_alloc ?_ _ ?_); (focus ((first | omega | (simp <;> omega)); done))) | ((with_reducible refine bl_set ?_ _ ?_); (focus ((first | omega | (simp <;> omega)); done))) | (with_reducible refine below_drewN ?_ _) | (with_reducible refine Below.drew ?_) | ((with_reducible refine bl_trans ?_ hb ?_); (focus ((first | omega | (simp <;> omega)); done))) | ((with_reducible refine bl_trans ?_ H5.out ?_); (focus ((first | omega | (simp <;> omega)); done))))); have R1_6 := Lib.hid (RowM.later1 R1_5.out hb); have R2_6 := Lib.hid hr2; have RL2 := Lib.hid (show ∀ g, Value.ownBlock (.slice A2 n2 c2) = some g → w5.heap.size ≤ g ∧ g < w6.heap.size from fun g h => by have l1 := hr2.lt g h; ((try simp at l1) <;> omega)); clear f0_0_5 f0_1_5 f0_2_5 f0_3_5 f0_4_5 f0_5_5 g0_5 f1_0_5 f1_1_5 f1_2_5 f1_3_5 f1_4_5 f1_5_5 g1_5 R1_5 hr2 H5))
      | (go_at_call 16; ((with_reducible refine (eqRadio_any s0_0 a0_1 a0_2 a0_3 a0_4 _ _ _ (x0_5) _ _ R1_6.out R2_6.out).mono ?_); rintro e w7 ⟨rfl, hb⟩; have zz7 : w6.heap.size ≤ w7.heap.size := (by have := hb.size; ((try simp at this) <;> omega)); have H7 := Lib.hid (show Below w.heap.size w w7 by repeat (first | (with_reducible exact Below.refl _ _) | (with_reducible assumption) | ((with_reducible refine bl_alloc ?_ _ ?_); (focus ((first | omega | (simp <;> omega)); done))) | ((with_reducible refine bl_set ?_ _ ?_); (focus ((first | omega | (simp <;> omega)); done))) | (with_reducible refine below_drewN ?_ _) | (with_reducible refine Below.drew ?_) | ((with_reducible refine bl_trans ?_ hb ?_); (focus ((first | omega | (simp <;> omega)); done))) | ((with_reducible refine bl_trans ?_ H6.out ?_); (focus ((first | omega | (simp <;> omega)); done))))); clear R1_6 R2_6 H6)))
  go_wp2_with fail
  go_ret
  exact ⟨rfl, (by repeat (first | (with_reducible exact Below.refl _ _) | (with_reducible assumption) | ((with_reducible refine bl_alloc ?_ _ ?_); (focus ((first | omega | (simp <;> omega)); done))) | ((with_reducible refine bl_set ?_ _ ?_); (focus ((first | omega | (simp <;> omega)); done))) | (with_reducible refine below_drewN ?_ _) | (with_reducible refine Below.drew ?_) | ((with_reducible refine bl_trans ?_ H7.out ?_); (focus ((first | omega | (simp <;> omega)); done)))))⟩
end Go.Proofs.Ytdafkebnmmkeeaa.fnExactBestMode
