/-
  The places of a profile: the program's. The conditions are the hypotheses.
-/
import Derived.Test.YtedpdcdmemenhaaRows
import Derived.Test.YtedpdcdmemenhaaLib
import Derived.Test.YtedpdcdmemenhaaInt
import Derived.Test.YtedpdcdmemenhaaWithin
import Derived.Test.YtedpdcdmemenhaaAll
import Derived.Test.YtedpdcdmemenhaaArgs
import Derived.Test.YtedpdcdmemenhaaOwn
import Derived.Test.YtedpdcdmemenhaaField
import Derived.Test.YtedpdcdmemenhaaModes
import Derived.Test.YtedpdcdmemenhaaPlaP
import Derived.Test.YtedpdcdmemenhaaPlaS
import Derived.Test.YtedpdcdmemenhaaRevM
import Derived.Shelf.Abstract
import Derived.OwnWalk
import Derived.Deep.AppendLies
import Derived.Deep.RegionLaw
import Derived.Outline
import Derived.Deep.DeepCutAuto
import Derived.Deep.QuietTactic
import Derived.BigQuiet
import Derived.Deep.RegionHeld3
import Derived.Deep.DrawnRows
namespace Go.Proofs.Ytedpdcdmemenhaa
open Go.RowKit
set_option linter.unusedSimpArgs false
set_option linter.unusedVariables false
attribute [local go_sem ↓] Go.wp_at_zero Go.wp_at_succ
set_option maxRecDepth 20000 in
set_option maxHeartbeats 8000000 in
theorem profilePlaces_A (w : World) (x y s t : Int) (TEST : x < s) (x0 : 0 ≤ x) (x1 : x ≤ 200000) (y0 : 0 ≤ y) (y1 : y ≤ 200000) (s0 : 0 ≤ s) (s1 : s ≤ 200000) (t0 : 0 ≤ t) (t1 : t ≤ 200000) :
    Calls Try.prog 110 #[.agg #[.int .i64 x, .int .i64 y], .agg #[.int .i64 s, .int .i64 t], .int .i64 17] w fun e w' => ∃ g c, e = .returned (.slice (some ⟨g, 0, none⟩) 17 c) ∧ RowM 64 w' w.heap.size (.slice (some ⟨g, 0, none⟩) 17 c) (placesL x y s t) ∧ Below w.heap.size w w' := by
  obtain ⟨i0, hi, hz0, hz1, hz2⟩ := info_parts Try.info_pt
  have HI := Lib.hid hi
  have HZ0 := Lib.hid hz0
  have HZ1 := Lib.hid hz1
  have HZ2 := Lib.hid hz2
  clear hi hz0 hz1 hz2
  have h : x < s := TEST
  have hb := bef_1 (y := y) (t := t) h
  have hL := fun k => take_plK (x := x) (y := y) (s := s) (t := t) (k := k)
  have HL := Lib.hid hL
  clear hL
  have HLEN := Lib.hid (places_len x y s t)
  have HPK := Lib.hid (plK_bef (x := x) (y := y) (s := s) (t := t) hb)
  clear hb
  obtain ⟨PL, hPL⟩ : ∃ P, P = placesL x y s t := ⟨_, rfl⟩
  rw [← hPL] at HL HLEN ⊢
  clear hPL
  obtain ⟨W0, hW0⟩ : ∃ W, W = (w.alloc (.cells #[.int .i64 x, .int .i64 y] 64)).alloc (.cells #[.int .i64 s, .int .i64 t] 64) := ⟨_, rfl⟩
  have HW0 := Lib.hid (show Below w.heap.size w W0 by rw [hW0]; repeat (first | (with_reducible exact Below.refl _ _) | (with_reducible assumption) | ((with_reducible refine bl_alloc ?_ _ ?_); (focus ((first | omega | (simp <;> omega)); done))) | ((with_reducible refine bl_set ?_ _ ?_); (focus ((first | omega | (simp <;> omega)); done))) | (with_reducible refine below_drewN ?_ _) | (with_reducible refine Below.drew ?_)))
  have z0 := HW0.out.size
  have lW : w.heap.size + 1 < W0.heap.size := by rw [hW0]; simp
  have e0 : W0.cell? ⟨w.heap.size, 0, none⟩ = some (.int .i64 x) := by rw [hW0]; simp [go_sem]
  have e1 : W0.cell? ⟨w.heap.size, 1, none⟩ = some (.int .i64 y) := by rw [hW0]; simp [go_sem]
  have e2 : W0.cell? ⟨w.heap.size + 1, 0, none⟩ = some (.int .i64 s) := by rw [hW0]; simp [go_sem]
  have e3 : W0.cell? ⟨w.heap.size + 1, 1, none⟩ = some (.int .i64 t) := by rw [hW0]; simp [go_sem]
  go_enter Try.func110, Try.ntmps110
  (go_upto_region 4 with fail; rw [← hW0]; clear hW0)
  go_wp2_with fail
  go_loopw [8, 34] (fun a i wr => ∃ k : Nat, k ≤ 17 ∧ i = .int .i64 (k : Int) ∧ Hid (RowM 64 wr W0.heap.size a (PL.take k)) ∧ Hid (Below W0.heap.size W0 wr)) (fun _ i _ => 17 + 1 - (intOf i).toNat)
  case atStart => exact ⟨0, Nat.zero_le _, rfl, (show RowM _ _ _ _ _ from mapp_nil _ _), (show Below _ _ _ by repeat (first | (with_reducible exact Below.refl _ _) | (with_reducible assumption) | ((with_reducible refine bl_alloc ?_ _ ?_); (focus ((first | omega | (simp <;> omega)); done))) | ((with_reducible refine bl_set ?_ _ ?_); (focus ((first | omega | (simp <;> omega)); done))) | (with_reducible refine below_drewN ?_ _) | (with_reducible refine Below.drew ?_)))⟩
  case round =>
    obtain ⟨k, hk, rfl, hr, hbw⟩ := hrel
    have k0 : (0 : Int) ≤ (k : Int) := Int.natCast_nonneg _
    have zw := hbw.out.size
    by_cases hlt : k < 17
    · have hlt' : (k : Int) < 17 := by omega
      have f0 := keeps hbw.out e0
      have f1 := keeps hbw.out e1
      have f2 := keeps hbw.out e2
      have f3 := keeps hbw.out e3
      have hst := Lib.hid (HL.out k hlt)
      have hpk := HPK.out k
      rw [hpk] at hst
      have hlen : (PL.take k).length = k := by rw [List.length_take, HLEN.out]; omega
      obtain ⟨ys, hy⟩ : ∃ ys, ys = PL.take k := ⟨_, rfl⟩
      rw [← hy] at hr hlen hst
      clear hy hpk
      obtain ⟨A, hA⟩ : ∃ A : Int, A = (k : Int) := ⟨_, rfl⟩
      rw [← hA] at hst
      have A0 : 0 ≤ A := by omega
      have A1 : A ≤ 16 := by omega
      have mx := pl_mul (x := x) (s := s) (k := A) x0 x1 s0 s1 A0 A1
      have my := pl_mul (x := y) (s := t) (k := A) y0 y1 t0 t1 A0 A1
      have bx := (plP_bd (x := x) (y := y) (s := s) (t := t) (k := A) (M := 200000) (N := 200000) x0 x1 y0 y1 s0 s1 t0 t1 A0 A1)
      obtain ⟨PX, hPX⟩ : ∃ P, P = A * (s - x) := ⟨_, rfl⟩
      obtain ⟨PY, hPY⟩ : ∃ P, P = A * (t - y) := ⟨_, rfl⟩
      rw [← hPX] at mx
      rw [← hPY] at my
      have hpl : plP x y s t A = (x + rdiv PX 16, y + rdiv PY 16) := by unfold plP; rw [← hPX, ← hPY]
      rw [hpl] at hst bx
      have f1x : A * (s - x) = PX := hPX.symm
      have f1y : A * (t - y) = PY := hPY.symm
      have w1x : IntKind.i64.wrap (A * (s - x)) = PX := by rw [f1x, IntKind.wrap_i64]; omega
      have w1y : IntKind.i64.wrap (A * (t - y)) = PY := by rw [f1y, IntKind.wrap_i64]; omega
      have HD1 : Hid (∀ W : World, Calls Try.prog 125 #[.int .i64 PX, .int .i64 16] W fun e w' => e = .returned (.int .i64 (rdiv PX 16)) ∧ ∃ n, w' = W.drewN n) := fun W => divRound_any PX 16 (by omega) (by omega) W
      have HD2 : Hid (∀ W : World, Calls Try.prog 125 #[.int .i64 PY, .int .i64 16] W fun e w' => e = .returned (.int .i64 (rdiv PY 16)) ∧ ∃ n, w' = W.drewN n) := fun W => divRound_any PY 16 (by omega) (by omega) W
      obtain ⟨RX, hRX⟩ : ∃ R, R = rdiv PX 16 := ⟨_, rfl⟩
      obtain ⟨RY, hRY⟩ : ∃ R, R = rdiv PY 16 := ⟨_, rfl⟩
      rw [← hRX] at HD1
      rw [← hRY] at HD2
      rw [← hRX, ← hRY] at hst bx
      obtain ⟨⟨bx0, bx1⟩, by0, by1⟩ := bx
      simp only at bx0 bx1 by0 by1
      obtain ⟨QX, hQX⟩ : ∃ R, R = x + RX := ⟨_, rfl⟩
      obtain ⟨QY, hQY⟩ : ∃ R, R = y + RY := ⟨_, rfl⟩
      rw [← hQX, ← hQY] at hst
      rw [← hQX] at bx0 bx1
      rw [← hQY] at by0 by1
      have w2x : x + RX = QX := hQX.symm
      have w2y : y + RY = QY := hQY.symm
      have w3x : IntKind.i64.wrap (x + RX) = QX := by rw [w2x, IntKind.wrap_i64]; omega
      have w3y : IntKind.i64.wrap (y + RY) = QY := by rw [w2y, IntKind.wrap_i64]; omega
      have ws : IntKind.i64.wrap (s - x) = s - x := by rw [IntKind.wrap_i64]; omega
      have wt : IntKind.i64.wrap (t - y) = t - y := by rw [IntKind.wrap_i64]; omega
      have w16 : IntKind.i64.wrap 16 = 16 := by rw [IntKind.wrap_i64]; omega
      have wpx : IntKind.i64.wrap PX = PX := by rw [IntKind.wrap_i64]; omega
      have wpy : IntKind.i64.wrap PY = PY := by rw [IntKind.wrap_i64]; omega
      have wqx : IntKind.i64.wrap QX = QX := by rw [IntKind.wrap_i64]; omega
      have wqy : IntKind.i64.wrap QY = QY := by rw [IntKind.wrap_i64]; omega
      have HLE := Lib.hid (show k + 1 ≤ 17 by omega)
      have HA := Lib.hid hA
      clear hPX hPY hpl hRX hRY hQX hQY
      subst hA
      have hsz : (wr.alloc (.cells #[.int .i64 QX, .int .i64 QY] 64)).heap.size = wr.heap.size + 1 := by simp
      have HH5 := Lib.hid hsz
      have HH1 : Hid (∀ u ∈ [Value.int .i64 QX, Value.int .i64 QY], u.oneCell' = true) := fun u hu => by rcases List.mem_cons.1 hu with rfl | hu; rfl; rcases List.mem_cons.1 hu with rfl | hu; rfl; cases hu
      have HH2 : Hid (k + 1 ≤ maxLen) := by show _ ≤ _; unfold maxLen; omega
      have HH3 : Hid ((k + 1) * 16 ≤ 140737488355328) := by show _ ≤ _; omega
      have HB1 := Lib.hid (show W0.heap.size ≤ (wr.alloc (.cells #[.int .i64 QX, .int .i64 QY] 64)).heap.size by simp; omega)
      have HQ : Hid (∀ w3 : World, (wr.alloc (.cells #[.int .i64 QX, .int .i64 QY] 64)).grownBy w3 (Value.ownBlock u8) → w3.cell? ⟨w.heap.size, 0, none⟩ = some (.int .i64 x) ∧ w3.cell? ⟨w.heap.size, 1, none⟩ = some (.int .i64 y) ∧ w3.cell? ⟨w.heap.size + 1, 0, none⟩ = some (.int .i64 s) ∧ w3.cell? ⟨w.heap.size + 1, 1, none⟩ = some (.int .i64 t)) := fun w3 hgrow => by
        have hne : ∀ n, n < W0.heap.size → some n ≠ Value.ownBlock u8 := fun n hn q => by have := (hr.out.lt _ q.symm).1; omega
        exact ⟨(hgrow.cell_far ⟨w.heap.size, 0, none⟩ (by show w.heap.size < _; omega) (hne (w.heap.size) (by omega))).trans (cell_alloc f0 _), (hgrow.cell_far ⟨w.heap.size, 1, none⟩ (by show w.heap.size < _; omega) (hne (w.heap.size) (by omega))).trans (cell_alloc f1 _), (hgrow.cell_far ⟨w.heap.size + 1, 0, none⟩ (by show w.heap.size + 1 < _; omega) (hne (w.heap.size + 1) (by omega))).trans (cell_alloc f2 _), (hgrow.cell_far ⟨w.heap.size + 1, 1, none⟩ (by show w.heap.size + 1 < _; omega) (hne (w.heap.size + 1) (by omega))).trans (cell_alloc f3 _)⟩
      clear hsz
      go_wp2_with fail
      go_region_held3 (fun w' => w'.cell? ⟨w.heap.size, 0, none⟩ = some (.int .i64 x) ∧ w'.cell? ⟨w.heap.size, 1, none⟩ = some (.int .i64 y) ∧ w'.cell? ⟨w.heap.size + 1, 0, none⟩ = some (.int .i64 s) ∧ w'.cell? ⟨w.heap.size + 1, 1, none⟩ = some (.int .i64 t))
        (((try go_split_ands); (refine ⟨?_, ?_, ?_, ?_⟩ <;> (repeat (first | (with_reducible assumption) | (with_reducible refine cell_drew ?_) | (with_reducible refine cell_drewN ?_) | (with_reducible refine cell_alloc ?_ _) | fail)))))
        (first
          | (go_at_call 125; first | ((with_reducible refine (HD1.out _).mono ?_); rintro e w9 ⟨rfl, n9, rfl⟩) | ((with_reducible refine (HD2.out _).mono ?_); rintro e w9 ⟨rfl, n9, rfl⟩))
          | (refine step_append_lies _ (by rfl) _ _ _ (by rfl) (W0.heap.size) 64 i0 (.agg #[.int .i64 0, .int .i64 0]) 2 16 Try.underlying128 HI.out HZ0.out HZ1.out HZ2.out rfl Nat.two_pos u8 k (flatM ys) (by rfl) (mapp_owns hlen (hr.out.alloc_ (.cells #[.int .i64 QX, .int .i64 QY] 64))) ⟨wr.heap.size, 0, none⟩ 1 1 [.int .i64 QX, .int .i64 QY] (by rfl) (by rfl) (World.news_of_block (cs := #[.int .i64 QX, .int .i64 QY]) (t := 64) (fr := (0, 0)) (heap_alloc_new wr _)) HH1.out Nat.one_pos HH2.out HH3.out HB1.out (wr.heap.size + 1) HH5.out ?_; intro g3 cap3 w3 hown hgrow hat hlt3; obtain ⟨q0, q1, q2, q3⟩ := HQ.out w3 ⟨hgrow.os, hgrow.tape, hgrow.output, hgrow.size, hgrow.block⟩))
      have hr3 : Hid (RowM 64 w3 W0.heap.size (.slice (some ⟨g3, 0, none⟩) (k + 1) cap3) (PL.take (k + 1))) := by
        show RowM _ _ _ _ _
        rw [hst.out]
        exact mapp_row hlen hown
      have hb3 : Below W0.heap.size wr w3 := (bl_alloc (by omega) (.cells #[.int .i64 QX, .int .i64 QY] 64) (Below.refl _ _)).trans (mapp_below (hr.out.alloc_ (.cells #[.int .i64 QX, .int .i64 QY] 64)) (show (wr.alloc (.cells #[.int .i64 QX, .int .i64 QY] 64)).grownBy w3 _ from ⟨hgrow.os, hgrow.tape, hgrow.output, hgrow.size, hgrow.block⟩) (by simp; omega))
      have H3 := Lib.hid (show Below W0.heap.size W0 w3 from hbw.out.trans hb3)
      clear hown hgrow hat hb3 q0 q1 q2 q3 hr hbw hst f0 f1 f2 f3
      go_wp2_with fail
      refine ⟨?_, ?_⟩
      · first
          | ((repeat apply Exists.intro); (refine ⟨?_, rfl⟩); exact ⟨(k + 1 : Nat), HLE.out, by go_num, hr3, H3⟩)
          | exact ⟨(k + 1 : Nat), HLE.out, by go_num, hr3, H3⟩
      · simp [intOf]; omega
    · have hk' : k = 17 := by omega
      subst hk'
      have hfull : Hid (RowM 64 wr W0.heap.size u8 PL) := by
        have h := hr.out
        rw [List.take_of_length_le (by rw [HLEN.out]; exact Nat.le_refl _)] at h
        exact h
      clear hr HL HPK
      rcases hfull.out.forms with ⟨_, hz⟩ | ⟨g, cap, rfl, gB, gl, gc, gf⟩
      · exfalso; have h := HLEN.out; rw [hz] at h; simp at h
      clear gc gf
      rw [HLEN.out] at hfull ⊢
      go_wp2_with fail
      go_ret
      exact ⟨_, _, rfl, RowM.base_le hfull.out z0, by repeat (first | (with_reducible exact Below.refl _ _) | (with_reducible assumption) | ((with_reducible refine bl_alloc ?_ _ ?_); (focus ((first | omega | (simp <;> omega)); done))) | ((with_reducible refine bl_set ?_ _ ?_); (focus ((first | omega | (simp <;> omega)); done))) | (with_reducible refine below_drewN ?_ _) | (with_reducible refine Below.drew ?_) | ((with_reducible refine bl_trans ?_ hbw.out ?_); (focus ((first | omega | (simp <;> omega)); done))) | ((with_reducible refine bl_trans ?_ HW0.out ?_); (focus ((first | omega | (simp <;> omega)); done))))⟩
set_option maxRecDepth 20000 in
set_option maxHeartbeats 8000000 in
theorem profilePlaces_B (w : World) (x y s t : Int) (TEST : x = s ∧ y ≤ t) (x0 : 0 ≤ x) (x1 : x ≤ 200000) (y0 : 0 ≤ y) (y1 : y ≤ 200000) (s0 : 0 ≤ s) (s1 : s ≤ 200000) (t0 : 0 ≤ t) (t1 : t ≤ 200000) :
    Calls Try.prog 110 #[.agg #[.int .i64 x, .int .i64 y], .agg #[.int .i64 s, .int .i64 t], .int .i64 17] w fun e w' => ∃ g c, e = .returned (.slice (some ⟨g, 0, none⟩) 17 c) ∧ RowM 64 w' w.heap.size (.slice (some ⟨g, 0, none⟩) 17 c) (placesL x y s t) ∧ Below w.heap.size w w' := by
  obtain ⟨i0, hi, hz0, hz1, hz2⟩ := info_parts Try.info_pt
  have HI := Lib.hid hi
  have HZ0 := Lib.hid hz0
  have HZ1 := Lib.hid hz1
  have HZ2 := Lib.hid hz2
  clear hi hz0 hz1 hz2
  have h : x = s ∧ y ≤ t := TEST
  obtain ⟨h, h9⟩ := h
  subst h
  have h := h9
  have hb := bef_2 (Int.le_refl x) (Int.le_refl x) h
  have hL := fun k => take_plK (x := x) (y := y) (s := x) (t := t) (k := k)
  have HL := Lib.hid hL
  clear hL
  have HLEN := Lib.hid (places_len x y x t)
  have HPK := Lib.hid (plK_bef (x := x) (y := y) (s := x) (t := t) hb)
  clear hb
  obtain ⟨PL, hPL⟩ : ∃ P, P = placesL x y x t := ⟨_, rfl⟩
  rw [← hPL] at HL HLEN ⊢
  clear hPL
  obtain ⟨W0, hW0⟩ : ∃ W, W = (w.alloc (.cells #[.int .i64 x, .int .i64 y] 64)).alloc (.cells #[.int .i64 x, .int .i64 t] 64) := ⟨_, rfl⟩
  have HW0 := Lib.hid (show Below w.heap.size w W0 by rw [hW0]; repeat (first | (with_reducible exact Below.refl _ _) | (with_reducible assumption) | ((with_reducible refine bl_alloc ?_ _ ?_); (focus ((first | omega | (simp <;> omega)); done))) | ((with_reducible refine bl_set ?_ _ ?_); (focus ((first | omega | (simp <;> omega)); done))) | (with_reducible refine below_drewN ?_ _) | (with_reducible refine Below.drew ?_)))
  have z0 := HW0.out.size
  have lW : w.heap.size + 1 < W0.heap.size := by rw [hW0]; simp
  have e0 : W0.cell? ⟨w.heap.size, 0, none⟩ = some (.int .i64 x) := by rw [hW0]; simp [go_sem]
  have e1 : W0.cell? ⟨w.heap.size, 1, none⟩ = some (.int .i64 y) := by rw [hW0]; simp [go_sem]
  have e2 : W0.cell? ⟨w.heap.size + 1, 0, none⟩ = some (.int .i64 x) := by rw [hW0]; simp [go_sem]
  have e3 : W0.cell? ⟨w.heap.size + 1, 1, none⟩ = some (.int .i64 t) := by rw [hW0]; simp [go_sem]
  go_enter Try.func110, Try.ntmps110
  (go_upto_region 4 with fail; rw [← hW0]; clear hW0)
  go_wp2_with fail
  go_loopw [8, 34] (fun a i wr => ∃ k : Nat, k ≤ 17 ∧ i = .int .i64 (k : Int) ∧ Hid (RowM 64 wr W0.heap.size a (PL.take k)) ∧ Hid (Below W0.heap.size W0 wr)) (fun _ i _ => 17 + 1 - (intOf i).toNat)
  case atStart => exact ⟨0, Nat.zero_le _, rfl, (show RowM _ _ _ _ _ from mapp_nil _ _), (show Below _ _ _ by repeat (first | (with_reducible exact Below.refl _ _) | (with_reducible assumption) | ((with_reducible refine bl_alloc ?_ _ ?_); (focus ((first | omega | (simp <;> omega)); done))) | ((with_reducible refine bl_set ?_ _ ?_); (focus ((first | omega | (simp <;> omega)); done))) | (with_reducible refine below_drewN ?_ _) | (with_reducible refine Below.drew ?_)))⟩
  case round =>
    obtain ⟨k, hk, rfl, hr, hbw⟩ := hrel
    have k0 : (0 : Int) ≤ (k : Int) := Int.natCast_nonneg _
    have zw := hbw.out.size
    by_cases hlt : k < 17
    · have hlt' : (k : Int) < 17 := by omega
      have f0 := keeps hbw.out e0
      have f1 := keeps hbw.out e1
      have f2 := keeps hbw.out e2
      have f3 := keeps hbw.out e3
      have hst := Lib.hid (HL.out k hlt)
      have hpk := HPK.out k
      rw [hpk] at hst
      have hlen : (PL.take k).length = k := by rw [List.length_take, HLEN.out]; omega
      obtain ⟨ys, hy⟩ : ∃ ys, ys = PL.take k := ⟨_, rfl⟩
      rw [← hy] at hr hlen hst
      clear hy hpk
      obtain ⟨A, hA⟩ : ∃ A : Int, A = (k : Int) := ⟨_, rfl⟩
      rw [← hA] at hst
      have A0 : 0 ≤ A := by omega
      have A1 : A ≤ 16 := by omega
      have mx := pl_mul (x := x) (s := x) (k := A) x0 x1 x0 x1 A0 A1
      have my := pl_mul (x := y) (s := t) (k := A) y0 y1 t0 t1 A0 A1
      have bx := (plP_bd (x := x) (y := y) (s := x) (t := t) (k := A) (M := 200000) (N := 200000) x0 x1 y0 y1 x0 x1 t0 t1 A0 A1)
      have hPX : (0 : Int) = A * (x - x) := by rw [Int.sub_self, Int.mul_zero]
      obtain ⟨PY, hPY⟩ : ∃ P, P = A * (t - y) := ⟨_, rfl⟩
      rw [← hPX] at mx
      rw [← hPY] at my
      have hpl : plP x y x t A = (x + rdiv 0 16, y + rdiv PY 16) := by unfold plP; rw [← hPX, ← hPY]
      rw [hpl] at hst bx
      have f1x : A * (x - x) = 0 := hPX.symm
      have f1y : A * (t - y) = PY := hPY.symm
      have w1x : IntKind.i64.wrap (A * (x - x)) = 0 := by rw [f1x, IntKind.wrap_i64]; omega
      have w1y : IntKind.i64.wrap (A * (t - y)) = PY := by rw [f1y, IntKind.wrap_i64]; omega
      have HD1 : Hid (∀ W : World, Calls Try.prog 125 #[.int .i64 0, .int .i64 16] W fun e w' => e = .returned (.int .i64 (rdiv 0 16)) ∧ ∃ n, w' = W.drewN n) := fun W => divRound_any 0 16 (by omega) (by omega) W
      have HD2 : Hid (∀ W : World, Calls Try.prog 125 #[.int .i64 PY, .int .i64 16] W fun e w' => e = .returned (.int .i64 (rdiv PY 16)) ∧ ∃ n, w' = W.drewN n) := fun W => divRound_any PY 16 (by omega) (by omega) W
      obtain ⟨RX, hRX⟩ : ∃ R, R = rdiv 0 16 := ⟨_, rfl⟩
      obtain ⟨RY, hRY⟩ : ∃ R, R = rdiv PY 16 := ⟨_, rfl⟩
      rw [← hRX] at HD1
      rw [← hRY] at HD2
      rw [← hRX, ← hRY] at hst bx
      obtain ⟨⟨bx0, bx1⟩, by0, by1⟩ := bx
      simp only at bx0 bx1 by0 by1
      obtain ⟨QX, hQX⟩ : ∃ R, R = x + RX := ⟨_, rfl⟩
      obtain ⟨QY, hQY⟩ : ∃ R, R = y + RY := ⟨_, rfl⟩
      rw [← hQX, ← hQY] at hst
      rw [← hQX] at bx0 bx1
      rw [← hQY] at by0 by1
      have w2x : x + RX = QX := hQX.symm
      have w2y : y + RY = QY := hQY.symm
      have w3x : IntKind.i64.wrap (x + RX) = QX := by rw [w2x, IntKind.wrap_i64]; omega
      have w3y : IntKind.i64.wrap (y + RY) = QY := by rw [w2y, IntKind.wrap_i64]; omega
      have ws : IntKind.i64.wrap (x - x) = x - x := by rw [IntKind.wrap_i64]; omega
      have wt : IntKind.i64.wrap (t - y) = t - y := by rw [IntKind.wrap_i64]; omega
      have w16 : IntKind.i64.wrap 16 = 16 := by rw [IntKind.wrap_i64]; omega
      have wpx : IntKind.i64.wrap 0 = 0 := by rw [IntKind.wrap_i64]; omega
      have wpy : IntKind.i64.wrap PY = PY := by rw [IntKind.wrap_i64]; omega
      have wqx : IntKind.i64.wrap QX = QX := by rw [IntKind.wrap_i64]; omega
      have wqy : IntKind.i64.wrap QY = QY := by rw [IntKind.wrap_i64]; omega
      have HLE := Lib.hid (show k + 1 ≤ 17 by omega)
      have HA := Lib.hid hA
      clear hPX hPY hpl hRX hRY hQX hQY
      subst hA
      have hsz : (wr.alloc (.cells #[.int .i64 QX, .int .i64 QY] 64)).heap.size = wr.heap.size + 1 := by simp
      have HH5 := Lib.hid hsz
      have HH1 : Hid (∀ u ∈ [Value.int .i64 QX, Value.int .i64 QY], u.oneCell' = true) := fun u hu => by rcases List.mem_cons.1 hu with rfl | hu; rfl; rcases List.mem_cons.1 hu with rfl | hu; rfl; cases hu
      have HH2 : Hid (k + 1 ≤ maxLen) := by show _ ≤ _; unfold maxLen; omega
      have HH3 : Hid ((k + 1) * 16 ≤ 140737488355328) := by show _ ≤ _; omega
      have HB1 := Lib.hid (show W0.heap.size ≤ (wr.alloc (.cells #[.int .i64 QX, .int .i64 QY] 64)).heap.size by simp; omega)
      have HQ : Hid (∀ w3 : World, (wr.alloc (.cells #[.int .i64 QX, .int .i64 QY] 64)).grownBy w3 (Value.ownBlock u8) → w3.cell? ⟨w.heap.size, 0, none⟩ = some (.int .i64 x) ∧ w3.cell? ⟨w.heap.size, 1, none⟩ = some (.int .i64 y) ∧ w3.cell? ⟨w.heap.size + 1, 0, none⟩ = some (.int .i64 x) ∧ w3.cell? ⟨w.heap.size + 1, 1, none⟩ = some (.int .i64 t)) := fun w3 hgrow => by
        have hne : ∀ n, n < W0.heap.size → some n ≠ Value.ownBlock u8 := fun n hn q => by have := (hr.out.lt _ q.symm).1; omega
        exact ⟨(hgrow.cell_far ⟨w.heap.size, 0, none⟩ (by show w.heap.size < _; omega) (hne (w.heap.size) (by omega))).trans (cell_alloc f0 _), (hgrow.cell_far ⟨w.heap.size, 1, none⟩ (by show w.heap.size < _; omega) (hne (w.heap.size) (by omega))).trans (cell_alloc f1 _), (hgrow.cell_far ⟨w.heap.size + 1, 0, none⟩ (by show w.heap.size + 1 < _; omega) (hne (w.heap.size + 1) (by omega))).trans (cell_alloc f2 _), (hgrow.cell_far ⟨w.heap.size + 1, 1, none⟩ (by show w.heap.size + 1 < _; omega) (hne (w.heap.size + 1) (by omega))).trans (cell_alloc f3 _)⟩
      clear hsz
      go_wp2_with fail
      go_region_held3 (fun w' => w'.cell? ⟨w.heap.size, 0, none⟩ = some (.int .i64 x) ∧ w'.cell? ⟨w.heap.size, 1, none⟩ = some (.int .i64 y) ∧ w'.cell? ⟨w.heap.size + 1, 0, none⟩ = some (.int .i64 x) ∧ w'.cell? ⟨w.heap.size + 1, 1, none⟩ = some (.int .i64 t))
        (((try go_split_ands); (refine ⟨?_, ?_, ?_, ?_⟩ <;> (repeat (first | (with_reducible assumption) | (with_reducible refine cell_drew ?_) | (with_reducible refine cell_drewN ?_) | (with_reducible refine cell_alloc ?_ _) | fail)))))
        (first
          | (go_at_call 125; first | ((with_reducible refine (HD1.out _).mono ?_); rintro e w9 ⟨rfl, n9, rfl⟩) | ((with_reducible refine (HD2.out _).mono ?_); rintro e w9 ⟨rfl, n9, rfl⟩))
          | (refine step_append_lies _ (by rfl) _ _ _ (by rfl) (W0.heap.size) 64 i0 (.agg #[.int .i64 0, .int .i64 0]) 2 16 Try.underlying128 HI.out HZ0.out HZ1.out HZ2.out rfl Nat.two_pos u8 k (flatM ys) (by rfl) (mapp_owns hlen (hr.out.alloc_ (.cells #[.int .i64 QX, .int .i64 QY] 64))) ⟨wr.heap.size, 0, none⟩ 1 1 [.int .i64 QX, .int .i64 QY] (by rfl) (by rfl) (World.news_of_block (cs := #[.int .i64 QX, .int .i64 QY]) (t := 64) (fr := (0, 0)) (heap_alloc_new wr _)) HH1.out Nat.one_pos HH2.out HH3.out HB1.out (wr.heap.size + 1) HH5.out ?_; intro g3 cap3 w3 hown hgrow hat hlt3; obtain ⟨q0, q1, q2, q3⟩ := HQ.out w3 ⟨hgrow.os, hgrow.tape, hgrow.output, hgrow.size, hgrow.block⟩))
      have hr3 : Hid (RowM 64 w3 W0.heap.size (.slice (some ⟨g3, 0, none⟩) (k + 1) cap3) (PL.take (k + 1))) := by
        show RowM _ _ _ _ _
        rw [hst.out]
        exact mapp_row hlen hown
      have hb3 : Below W0.heap.size wr w3 := (bl_alloc (by omega) (.cells #[.int .i64 QX, .int .i64 QY] 64) (Below.refl _ _)).trans (mapp_below (hr.out.alloc_ (.cells #[.int .i64 QX, .int .i64 QY] 64)) (show (wr.alloc (.cells #[.int .i64 QX, .int .i64 QY] 64)).grownBy w3 _ from ⟨hgrow.os, hgrow.tape, hgrow.output, hgrow.size, hgrow.block⟩) (by simp; omega))
      have H3 := Lib.hid (show Below W0.heap.size W0 w3 from hbw.out.trans hb3)
      clear hown hgrow hat hb3 q0 q1 q2 q3 hr hbw hst f0 f1 f2 f3
      go_wp2_with fail
      refine ⟨?_, ?_⟩
      · first
          | ((repeat apply Exists.intro); (refine ⟨?_, rfl⟩); exact ⟨(k + 1 : Nat), HLE.out, by go_num, hr3, H3⟩)
          | exact ⟨(k + 1 : Nat), HLE.out, by go_num, hr3, H3⟩
      · simp [intOf]; omega
    · have hk' : k = 17 := by omega
      subst hk'
      have hfull : Hid (RowM 64 wr W0.heap.size u8 PL) := by
        have h := hr.out
        rw [List.take_of_length_le (by rw [HLEN.out]; exact Nat.le_refl _)] at h
        exact h
      clear hr HL HPK
      rcases hfull.out.forms with ⟨_, hz⟩ | ⟨g, cap, rfl, gB, gl, gc, gf⟩
      · exfalso; have h := HLEN.out; rw [hz] at h; simp at h
      clear gc gf
      rw [HLEN.out] at hfull ⊢
      go_wp2_with fail
      go_ret
      exact ⟨_, _, rfl, RowM.base_le hfull.out z0, by repeat (first | (with_reducible exact Below.refl _ _) | (with_reducible assumption) | ((with_reducible refine bl_alloc ?_ _ ?_); (focus ((first | omega | (simp <;> omega)); done))) | ((with_reducible refine bl_set ?_ _ ?_); (focus ((first | omega | (simp <;> omega)); done))) | (with_reducible refine below_drewN ?_ _) | (with_reducible refine Below.drew ?_) | ((with_reducible refine bl_trans ?_ hbw.out ?_); (focus ((first | omega | (simp <;> omega)); done))) | ((with_reducible refine bl_trans ?_ HW0.out ?_); (focus ((first | omega | (simp <;> omega)); done))))⟩
set_option maxRecDepth 20000 in
set_option maxHeartbeats 8000000 in
theorem profilePlaces_C (w : World) (x y s t : Int) (TEST : x = s ∧ t < y) (x0 : 0 ≤ x) (x1 : x ≤ 200000) (y0 : 0 ≤ y) (y1 : y ≤ 200000) (s0 : 0 ≤ s) (s1 : s ≤ 200000) (t0 : 0 ≤ t) (t1 : t ≤ 200000) :
    Calls Try.prog 110 #[.agg #[.int .i64 x, .int .i64 y], .agg #[.int .i64 s, .int .i64 t], .int .i64 17] w fun e w' => ∃ g c, e = .returned (.slice (some ⟨g, 0, none⟩) 17 c) ∧ RowM 64 w' w.heap.size (.slice (some ⟨g, 0, none⟩) 17 c) (placesL x y s t) ∧ Below w.heap.size w w' := by
  obtain ⟨i0, hi, hz0, hz1, hz2⟩ := info_parts Try.info_pt
  have HI := Lib.hid hi
  have HZ0 := Lib.hid hz0
  have HZ1 := Lib.hid hz1
  have HZ2 := Lib.hid hz2
  clear hi hz0 hz1 hz2
  have h : x = s ∧ t < y := TEST
  obtain ⟨h, h9⟩ := h
  subst h
  have h := h9
  have hb := bef_4 (Int.le_refl x) (Int.le_refl x) h
  have hd : decide (y ≤ t) = false := decide_eq_false (by omega)
  have hrv := places_rev hb
  rw [hrv]
  have HL := Lib.hid (fun k => take_backL (x := x) (y := t) (s := x) (t := y) (k := k))
  have HLEN := Lib.hid (backL_len x t x y)
  clear hb hrv
  obtain ⟨PL, hPL⟩ : ∃ P, P = backL x t x y := ⟨_, rfl⟩
  rw [← hPL] at HL HLEN ⊢
  clear hPL
  have HPK : Hid True := trivial
  obtain ⟨W0, hW0⟩ : ∃ W, W = (w.alloc (.cells #[.int .i64 x, .int .i64 t] 64)).alloc (.cells #[.int .i64 x, .int .i64 y] 64) := ⟨_, rfl⟩
  have HW0 := Lib.hid (show Below w.heap.size w W0 by rw [hW0]; repeat (first | (with_reducible exact Below.refl _ _) | (with_reducible assumption) | ((with_reducible refine bl_alloc ?_ _ ?_); (focus ((first | omega | (simp <;> omega)); done))) | ((with_reducible refine bl_set ?_ _ ?_); (focus ((first | omega | (simp <;> omega)); done))) | (with_reducible refine below_drewN ?_ _) | (with_reducible refine Below.drew ?_)))
  have z0 := HW0.out.size
  have lW : w.heap.size + 1 < W0.heap.size := by rw [hW0]; simp
  have e0 : W0.cell? ⟨w.heap.size, 0, none⟩ = some (.int .i64 x) := by rw [hW0]; simp [go_sem]
  have e1 : W0.cell? ⟨w.heap.size, 1, none⟩ = some (.int .i64 t) := by rw [hW0]; simp [go_sem]
  have e2 : W0.cell? ⟨w.heap.size + 1, 0, none⟩ = some (.int .i64 x) := by rw [hW0]; simp [go_sem]
  have e3 : W0.cell? ⟨w.heap.size + 1, 1, none⟩ = some (.int .i64 y) := by rw [hW0]; simp [go_sem]
  go_enter Try.func110, Try.ntmps110
  (go_upto_region 4 with fail; rw [← hW0]; clear hW0)
  go_wp2_with fail
  go_loopw [8, 34] (fun a i wr => ∃ k : Nat, k ≤ 17 ∧ i = .int .i64 (k : Int) ∧ Hid (RowM 64 wr W0.heap.size a (PL.take k)) ∧ Hid (Below W0.heap.size W0 wr)) (fun _ i _ => 17 + 1 - (intOf i).toNat)
  case atStart => exact ⟨0, Nat.zero_le _, rfl, (show RowM _ _ _ _ _ from mapp_nil _ _), (show Below _ _ _ by repeat (first | (with_reducible exact Below.refl _ _) | (with_reducible assumption) | ((with_reducible refine bl_alloc ?_ _ ?_); (focus ((first | omega | (simp <;> omega)); done))) | ((with_reducible refine bl_set ?_ _ ?_); (focus ((first | omega | (simp <;> omega)); done))) | (with_reducible refine below_drewN ?_ _) | (with_reducible refine Below.drew ?_)))⟩
  case round =>
    obtain ⟨k, hk, rfl, hr, hbw⟩ := hrel
    have k0 : (0 : Int) ≤ (k : Int) := Int.natCast_nonneg _
    have zw := hbw.out.size
    by_cases hlt : k < 17
    · have hlt' : (k : Int) < 17 := by omega
      have f0 := keeps hbw.out e0
      have f1 := keeps hbw.out e1
      have f2 := keeps hbw.out e2
      have f3 := keeps hbw.out e3
      have hst := Lib.hid (HL.out k hlt)
      have hlen : (PL.take k).length = k := by rw [List.length_take, HLEN.out]; omega
      obtain ⟨ys, hy⟩ : ∃ ys, ys = PL.take k := ⟨_, rfl⟩
      rw [← hy] at hr hlen hst
      clear hy
      obtain ⟨A, hA⟩ : ∃ A : Int, A = (k : Int) := ⟨_, rfl⟩
      rw [← hA] at hst
      have A0 : 0 ≤ A := by omega
      have A1 : A ≤ 16 := by omega
      have mx := pl_mul (x := x) (s := x) (k := A) x0 x1 x0 x1 A0 A1
      have my := pl_mul (x := t) (s := y) (k := A) t0 t1 y0 y1 A0 A1
      have bx := (plP_bd (x := x) (y := t) (s := x) (t := y) (k := A) (M := 200000) (N := 200000) x0 x1 t0 t1 x0 x1 y0 y1 A0 A1)
      have hPX : (0 : Int) = A * (x - x) := by rw [Int.sub_self, Int.mul_zero]
      obtain ⟨PY, hPY⟩ : ∃ P, P = A * (y - t) := ⟨_, rfl⟩
      rw [← hPX] at mx
      rw [← hPY] at my
      have hpl : plP x t x y A = (x + rdiv 0 16, t + rdiv PY 16) := by unfold plP; rw [← hPX, ← hPY]
      rw [hpl] at hst bx
      have f1x : A * (x - x) = 0 := hPX.symm
      have f1y : A * (y - t) = PY := hPY.symm
      have w1x : IntKind.i64.wrap (A * (x - x)) = 0 := by rw [f1x, IntKind.wrap_i64]; omega
      have w1y : IntKind.i64.wrap (A * (y - t)) = PY := by rw [f1y, IntKind.wrap_i64]; omega
      have HD1 : Hid (∀ W : World, Calls Try.prog 125 #[.int .i64 0, .int .i64 16] W fun e w' => e = .returned (.int .i64 (rdiv 0 16)) ∧ ∃ n, w' = W.drewN n) := fun W => divRound_any 0 16 (by omega) (by omega) W
      have HD2 : Hid (∀ W : World, Calls Try.prog 125 #[.int .i64 PY, .int .i64 16] W fun e w' => e = .returned (.int .i64 (rdiv PY 16)) ∧ ∃ n, w' = W.drewN n) := fun W => divRound_any PY 16 (by omega) (by omega) W
      obtain ⟨RX, hRX⟩ : ∃ R, R = rdiv 0 16 := ⟨_, rfl⟩
      obtain ⟨RY, hRY⟩ : ∃ R, R = rdiv PY 16 := ⟨_, rfl⟩
      rw [← hRX] at HD1
      rw [← hRY] at HD2
      rw [← hRX, ← hRY] at hst bx
      obtain ⟨⟨bx0, bx1⟩, by0, by1⟩ := bx
      simp only at bx0 bx1 by0 by1
      obtain ⟨QX, hQX⟩ : ∃ R, R = x + RX := ⟨_, rfl⟩
      obtain ⟨QY, hQY⟩ : ∃ R, R = t + RY := ⟨_, rfl⟩
      rw [← hQX, ← hQY] at hst
      rw [← hQX] at bx0 bx1
      rw [← hQY] at by0 by1
      have w2x : x + RX = QX := hQX.symm
      have w2y : t + RY = QY := hQY.symm
      have w3x : IntKind.i64.wrap (x + RX) = QX := by rw [w2x, IntKind.wrap_i64]; omega
      have w3y : IntKind.i64.wrap (t + RY) = QY := by rw [w2y, IntKind.wrap_i64]; omega
      have ws : IntKind.i64.wrap (x - x) = x - x := by rw [IntKind.wrap_i64]; omega
      have wt : IntKind.i64.wrap (y - t) = y - t := by rw [IntKind.wrap_i64]; omega
      have w16 : IntKind.i64.wrap 16 = 16 := by rw [IntKind.wrap_i64]; omega
      have wpx : IntKind.i64.wrap 0 = 0 := by rw [IntKind.wrap_i64]; omega
      have wpy : IntKind.i64.wrap PY = PY := by rw [IntKind.wrap_i64]; omega
      have wqx : IntKind.i64.wrap QX = QX := by rw [IntKind.wrap_i64]; omega
      have wqy : IntKind.i64.wrap QY = QY := by rw [IntKind.wrap_i64]; omega
      have HLE := Lib.hid (show k + 1 ≤ 17 by omega)
      have HA := Lib.hid hA
      clear hPX hPY hpl hRX hRY hQX hQY
      subst hA
      have hsz : (wr.alloc (.cells #[.int .i64 QX, .int .i64 QY] 64)).heap.size = wr.heap.size + 1 := by simp
      have HH5 := Lib.hid hsz
      have HH1 : Hid (∀ u ∈ [Value.int .i64 QX, Value.int .i64 QY], u.oneCell' = true) := fun u hu => by rcases List.mem_cons.1 hu with rfl | hu; rfl; rcases List.mem_cons.1 hu with rfl | hu; rfl; cases hu
      have HH2 : Hid (k + 1 ≤ maxLen) := by show _ ≤ _; unfold maxLen; omega
      have HH3 : Hid ((k + 1) * 16 ≤ 140737488355328) := by show _ ≤ _; omega
      have HB1 := Lib.hid (show W0.heap.size ≤ (wr.alloc (.cells #[.int .i64 QX, .int .i64 QY] 64)).heap.size by simp; omega)
      have HQ : Hid (∀ w3 : World, (wr.alloc (.cells #[.int .i64 QX, .int .i64 QY] 64)).grownBy w3 (Value.ownBlock u8) → w3.cell? ⟨w.heap.size, 0, none⟩ = some (.int .i64 x) ∧ w3.cell? ⟨w.heap.size, 1, none⟩ = some (.int .i64 t) ∧ w3.cell? ⟨w.heap.size + 1, 0, none⟩ = some (.int .i64 x) ∧ w3.cell? ⟨w.heap.size + 1, 1, none⟩ = some (.int .i64 y)) := fun w3 hgrow => by
        have hne : ∀ n, n < W0.heap.size → some n ≠ Value.ownBlock u8 := fun n hn q => by have := (hr.out.lt _ q.symm).1; omega
        exact ⟨(hgrow.cell_far ⟨w.heap.size, 0, none⟩ (by show w.heap.size < _; omega) (hne (w.heap.size) (by omega))).trans (cell_alloc f0 _), (hgrow.cell_far ⟨w.heap.size, 1, none⟩ (by show w.heap.size < _; omega) (hne (w.heap.size) (by omega))).trans (cell_alloc f1 _), (hgrow.cell_far ⟨w.heap.size + 1, 0, none⟩ (by show w.heap.size + 1 < _; omega) (hne (w.heap.size + 1) (by omega))).trans (cell_alloc f2 _), (hgrow.cell_far ⟨w.heap.size + 1, 1, none⟩ (by show w.heap.size + 1 < _; omega) (hne (w.heap.size + 1) (by omega))).trans (cell_alloc f3 _)⟩
      clear hsz
      go_wp2_with fail
      go_region_held3 (fun w' => w'.cell? ⟨w.heap.size, 0, none⟩ = some (.int .i64 x) ∧ w'.cell? ⟨w.heap.size, 1, none⟩ = some (.int .i64 t) ∧ w'.cell? ⟨w.heap.size + 1, 0, none⟩ = some (.int .i64 x) ∧ w'.cell? ⟨w.heap.size + 1, 1, none⟩ = some (.int .i64 y))
        (((try go_split_ands); (refine ⟨?_, ?_, ?_, ?_⟩ <;> (repeat (first | (with_reducible assumption) | (with_reducible refine cell_drew ?_) | (with_reducible refine cell_drewN ?_) | (with_reducible refine cell_alloc ?_ _) | fail)))))
        (first
          | (go_at_call 125; first | ((with_reducible refine (HD1.out _).mono ?_); rintro e w9 ⟨rfl, n9, rfl⟩) | ((with_reducible refine (HD2.out _).mono ?_); rintro e w9 ⟨rfl, n9, rfl⟩))
          | (refine step_append_lies _ (by rfl) _ _ _ (by rfl) (W0.heap.size) 64 i0 (.agg #[.int .i64 0, .int .i64 0]) 2 16 Try.underlying128 HI.out HZ0.out HZ1.out HZ2.out rfl Nat.two_pos u8 k (flatM ys) (by rfl) (mapp_owns hlen (hr.out.alloc_ (.cells #[.int .i64 QX, .int .i64 QY] 64))) ⟨wr.heap.size, 0, none⟩ 1 1 [.int .i64 QX, .int .i64 QY] (by rfl) (by rfl) (World.news_of_block (cs := #[.int .i64 QX, .int .i64 QY]) (t := 64) (fr := (0, 0)) (heap_alloc_new wr _)) HH1.out Nat.one_pos HH2.out HH3.out HB1.out (wr.heap.size + 1) HH5.out ?_; intro g3 cap3 w3 hown hgrow hat hlt3; obtain ⟨q0, q1, q2, q3⟩ := HQ.out w3 ⟨hgrow.os, hgrow.tape, hgrow.output, hgrow.size, hgrow.block⟩))
      have hr3 : Hid (RowM 64 w3 W0.heap.size (.slice (some ⟨g3, 0, none⟩) (k + 1) cap3) (PL.take (k + 1))) := by
        show RowM _ _ _ _ _
        rw [hst.out]
        exact mapp_row hlen hown
      have hb3 : Below W0.heap.size wr w3 := (bl_alloc (by omega) (.cells #[.int .i64 QX, .int .i64 QY] 64) (Below.refl _ _)).trans (mapp_below (hr.out.alloc_ (.cells #[.int .i64 QX, .int .i64 QY] 64)) (show (wr.alloc (.cells #[.int .i64 QX, .int .i64 QY] 64)).grownBy w3 _ from ⟨hgrow.os, hgrow.tape, hgrow.output, hgrow.size, hgrow.block⟩) (by simp; omega))
      have H3 := Lib.hid (show Below W0.heap.size W0 w3 from hbw.out.trans hb3)
      clear hown hgrow hat hb3 q0 q1 q2 q3 hr hbw hst f0 f1 f2 f3
      go_wp2_with fail
      refine ⟨?_, ?_⟩
      · first
          | ((repeat apply Exists.intro); (refine ⟨?_, rfl⟩); exact ⟨(k + 1 : Nat), HLE.out, by go_num, hr3, H3⟩)
          | exact ⟨(k + 1 : Nat), HLE.out, by go_num, hr3, H3⟩
      · simp [intOf]; omega
    · have hk' : k = 17 := by omega
      subst hk'
      have hfull : Hid (RowM 64 wr W0.heap.size u8 PL) := by
        have h := hr.out
        rw [List.take_of_length_le (by rw [HLEN.out]; exact Nat.le_refl _)] at h
        exact h
      clear hr HL HPK
      rcases hfull.out.forms with ⟨_, hz⟩ | ⟨g, cap, rfl, gB, gl, gc, gf⟩
      · exfalso; have h := HLEN.out; rw [hz] at h; simp at h
      clear gc gf
      rw [HLEN.out] at hfull ⊢
      go_wp2_with fail
      refine (reverse_any _ W0.heap.size g cap PL hfull.out HLEN.out).mono ?_
      rintro e w5 ⟨rfl, hr5, hg5⟩
      have H5 := Lib.hid (show Below W0.heap.size W0 w5 from hbw.out.trans ⟨hg5.os, hg5.tape, hg5.output, hg5.size, fun n hn => hg5.block n (by omega) (fun q => by injection q with q; omega)⟩)
      have HR5 := Lib.hid hr5
      clear hg5 hr5 hfull
      go_wp2_with fail
      go_ret
      exact ⟨_, _, rfl, RowM.base_le HR5.out z0, by repeat (first | (with_reducible exact Below.refl _ _) | (with_reducible assumption) | ((with_reducible refine bl_alloc ?_ _ ?_); (focus ((first | omega | (simp <;> omega)); done))) | ((with_reducible refine bl_set ?_ _ ?_); (focus ((first | omega | (simp <;> omega)); done))) | (with_reducible refine below_drewN ?_ _) | (with_reducible refine Below.drew ?_) | ((with_reducible refine bl_trans ?_ H5.out ?_); (focus ((first | omega | (simp <;> omega)); done))) | ((with_reducible refine bl_trans ?_ HW0.out ?_); (focus ((first | omega | (simp <;> omega)); done))))⟩
set_option maxRecDepth 20000 in
set_option maxHeartbeats 8000000 in
theorem profilePlaces_D (w : World) (x y s t : Int) (TEST : s < x) (x0 : 0 ≤ x) (x1 : x ≤ 200000) (y0 : 0 ≤ y) (y1 : y ≤ 200000) (s0 : 0 ≤ s) (s1 : s ≤ 200000) (t0 : 0 ≤ t) (t1 : t ≤ 200000) :
    Calls Try.prog 110 #[.agg #[.int .i64 x, .int .i64 y], .agg #[.int .i64 s, .int .i64 t], .int .i64 17] w fun e w' => ∃ g c, e = .returned (.slice (some ⟨g, 0, none⟩) 17 c) ∧ RowM 64 w' w.heap.size (.slice (some ⟨g, 0, none⟩) 17 c) (placesL x y s t) ∧ Below w.heap.size w w' := by
  obtain ⟨i0, hi, hz0, hz1, hz2⟩ := info_parts Try.info_pt
  have HI := Lib.hid hi
  have HZ0 := Lib.hid hz0
  have HZ1 := Lib.hid hz1
  have HZ2 := Lib.hid hz2
  clear hi hz0 hz1 hz2
  have h : s < x := TEST
  have hb := bef_3 (y := y) (t := t) h
  have hq : (x == s) = false := by rw [beq_eq_false_iff_ne]; omega
  have hd : decide (x < s) = false := decide_eq_false (by omega)
  have hrv := places_rev hb
  rw [hrv]
  have HL := Lib.hid (fun k => take_backL (x := s) (y := t) (s := x) (t := y) (k := k))
  have HLEN := Lib.hid (backL_len s t x y)
  clear hb hrv
  obtain ⟨PL, hPL⟩ : ∃ P, P = backL s t x y := ⟨_, rfl⟩
  rw [← hPL] at HL HLEN ⊢
  clear hPL
  have HPK : Hid True := trivial
  obtain ⟨W0, hW0⟩ : ∃ W, W = (w.alloc (.cells #[.int .i64 s, .int .i64 t] 64)).alloc (.cells #[.int .i64 x, .int .i64 y] 64) := ⟨_, rfl⟩
  have HW0 := Lib.hid (show Below w.heap.size w W0 by rw [hW0]; repeat (first | (with_reducible exact Below.refl _ _) | (with_reducible assumption) | ((with_reducible refine bl_alloc ?_ _ ?_); (focus ((first | omega | (simp <;> omega)); done))) | ((with_reducible refine bl_set ?_ _ ?_); (focus ((first | omega | (simp <;> omega)); done))) | (with_reducible refine below_drewN ?_ _) | (with_reducible refine Below.drew ?_)))
  have z0 := HW0.out.size
  have lW : w.heap.size + 1 < W0.heap.size := by rw [hW0]; simp
  have e0 : W0.cell? ⟨w.heap.size, 0, none⟩ = some (.int .i64 s) := by rw [hW0]; simp [go_sem]
  have e1 : W0.cell? ⟨w.heap.size, 1, none⟩ = some (.int .i64 t) := by rw [hW0]; simp [go_sem]
  have e2 : W0.cell? ⟨w.heap.size + 1, 0, none⟩ = some (.int .i64 x) := by rw [hW0]; simp [go_sem]
  have e3 : W0.cell? ⟨w.heap.size + 1, 1, none⟩ = some (.int .i64 y) := by rw [hW0]; simp [go_sem]
  go_enter Try.func110, Try.ntmps110
  (go_upto_region 4 with fail; rw [← hW0]; clear hW0)
  go_wp2_with fail
  go_loopw [8, 34] (fun a i wr => ∃ k : Nat, k ≤ 17 ∧ i = .int .i64 (k : Int) ∧ Hid (RowM 64 wr W0.heap.size a (PL.take k)) ∧ Hid (Below W0.heap.size W0 wr)) (fun _ i _ => 17 + 1 - (intOf i).toNat)
  case atStart => exact ⟨0, Nat.zero_le _, rfl, (show RowM _ _ _ _ _ from mapp_nil _ _), (show Below _ _ _ by repeat (first | (with_reducible exact Below.refl _ _) | (with_reducible assumption) | ((with_reducible refine bl_alloc ?_ _ ?_); (focus ((first | omega | (simp <;> omega)); done))) | ((with_reducible refine bl_set ?_ _ ?_); (focus ((first | omega | (simp <;> omega)); done))) | (with_reducible refine below_drewN ?_ _) | (with_reducible refine Below.drew ?_)))⟩
  case round =>
    obtain ⟨k, hk, rfl, hr, hbw⟩ := hrel
    have k0 : (0 : Int) ≤ (k : Int) := Int.natCast_nonneg _
    have zw := hbw.out.size
    by_cases hlt : k < 17
    · have hlt' : (k : Int) < 17 := by omega
      have f0 := keeps hbw.out e0
      have f1 := keeps hbw.out e1
      have f2 := keeps hbw.out e2
      have f3 := keeps hbw.out e3
      have hst := Lib.hid (HL.out k hlt)
      have hlen : (PL.take k).length = k := by rw [List.length_take, HLEN.out]; omega
      obtain ⟨ys, hy⟩ : ∃ ys, ys = PL.take k := ⟨_, rfl⟩
      rw [← hy] at hr hlen hst
      clear hy
      obtain ⟨A, hA⟩ : ∃ A : Int, A = (k : Int) := ⟨_, rfl⟩
      rw [← hA] at hst
      have A0 : 0 ≤ A := by omega
      have A1 : A ≤ 16 := by omega
      have mx := pl_mul (x := s) (s := x) (k := A) s0 s1 x0 x1 A0 A1
      have my := pl_mul (x := t) (s := y) (k := A) t0 t1 y0 y1 A0 A1
      have bx := (plP_bd (x := s) (y := t) (s := x) (t := y) (k := A) (M := 200000) (N := 200000) s0 s1 t0 t1 x0 x1 y0 y1 A0 A1)
      obtain ⟨PX, hPX⟩ : ∃ P, P = A * (x - s) := ⟨_, rfl⟩
      obtain ⟨PY, hPY⟩ : ∃ P, P = A * (y - t) := ⟨_, rfl⟩
      rw [← hPX] at mx
      rw [← hPY] at my
      have hpl : plP s t x y A = (s + rdiv PX 16, t + rdiv PY 16) := by unfold plP; rw [← hPX, ← hPY]
      rw [hpl] at hst bx
      have f1x : A * (x - s) = PX := hPX.symm
      have f1y : A * (y - t) = PY := hPY.symm
      have w1x : IntKind.i64.wrap (A * (x - s)) = PX := by rw [f1x, IntKind.wrap_i64]; omega
      have w1y : IntKind.i64.wrap (A * (y - t)) = PY := by rw [f1y, IntKind.wrap_i64]; omega
      have HD1 : Hid (∀ W : World, Calls Try.prog 125 #[.int .i64 PX, .int .i64 16] W fun e w' => e = .returned (.int .i64 (rdiv PX 16)) ∧ ∃ n, w' = W.drewN n) := fun W => divRound_any PX 16 (by omega) (by omega) W
      have HD2 : Hid (∀ W : World, Calls Try.prog 125 #[.int .i64 PY, .int .i64 16] W fun e w' => e = .returned (.int .i64 (rdiv PY 16)) ∧ ∃ n, w' = W.drewN n) := fun W => divRound_any PY 16 (by omega) (by omega) W
      obtain ⟨RX, hRX⟩ : ∃ R, R = rdiv PX 16 := ⟨_, rfl⟩
      obtain ⟨RY, hRY⟩ : ∃ R, R = rdiv PY 16 := ⟨_, rfl⟩
      rw [← hRX] at HD1
      rw [← hRY] at HD2
      rw [← hRX, ← hRY] at hst bx
      obtain ⟨⟨bx0, bx1⟩, by0, by1⟩ := bx
      simp only at bx0 bx1 by0 by1
      obtain ⟨QX, hQX⟩ : ∃ R, R = s + RX := ⟨_, rfl⟩
      obtain ⟨QY, hQY⟩ : ∃ R, R = t + RY := ⟨_, rfl⟩
      rw [← hQX, ← hQY] at hst
      rw [← hQX] at bx0 bx1
      rw [← hQY] at by0 by1
      have w2x : s + RX = QX := hQX.symm
      have w2y : t + RY = QY := hQY.symm
      have w3x : IntKind.i64.wrap (s + RX) = QX := by rw [w2x, IntKind.wrap_i64]; omega
      have w3y : IntKind.i64.wrap (t + RY) = QY := by rw [w2y, IntKind.wrap_i64]; omega
      have ws : IntKind.i64.wrap (x - s) = x - s := by rw [IntKind.wrap_i64]; omega
      have wt : IntKind.i64.wrap (y - t) = y - t := by rw [IntKind.wrap_i64]; omega
      have w16 : IntKind.i64.wrap 16 = 16 := by rw [IntKind.wrap_i64]; omega
      have wpx : IntKind.i64.wrap PX = PX := by rw [IntKind.wrap_i64]; omega
      have wpy : IntKind.i64.wrap PY = PY := by rw [IntKind.wrap_i64]; omega
      have wqx : IntKind.i64.wrap QX = QX := by rw [IntKind.wrap_i64]; omega
      have wqy : IntKind.i64.wrap QY = QY := by rw [IntKind.wrap_i64]; omega
      have HLE := Lib.hid (show k + 1 ≤ 17 by omega)
      have HA := Lib.hid hA
      clear hPX hPY hpl hRX hRY hQX hQY
      subst hA
      have hsz : (wr.alloc (.cells #[.int .i64 QX, .int .i64 QY] 64)).heap.size = wr.heap.size + 1 := by simp
      have HH5 := Lib.hid hsz
      have HH1 : Hid (∀ u ∈ [Value.int .i64 QX, Value.int .i64 QY], u.oneCell' = true) := fun u hu => by rcases List.mem_cons.1 hu with rfl | hu; rfl; rcases List.mem_cons.1 hu with rfl | hu; rfl; cases hu
      have HH2 : Hid (k + 1 ≤ maxLen) := by show _ ≤ _; unfold maxLen; omega
      have HH3 : Hid ((k + 1) * 16 ≤ 140737488355328) := by show _ ≤ _; omega
      have HB1 := Lib.hid (show W0.heap.size ≤ (wr.alloc (.cells #[.int .i64 QX, .int .i64 QY] 64)).heap.size by simp; omega)
      have HQ : Hid (∀ w3 : World, (wr.alloc (.cells #[.int .i64 QX, .int .i64 QY] 64)).grownBy w3 (Value.ownBlock u8) → w3.cell? ⟨w.heap.size, 0, none⟩ = some (.int .i64 s) ∧ w3.cell? ⟨w.heap.size, 1, none⟩ = some (.int .i64 t) ∧ w3.cell? ⟨w.heap.size + 1, 0, none⟩ = some (.int .i64 x) ∧ w3.cell? ⟨w.heap.size + 1, 1, none⟩ = some (.int .i64 y)) := fun w3 hgrow => by
        have hne : ∀ n, n < W0.heap.size → some n ≠ Value.ownBlock u8 := fun n hn q => by have := (hr.out.lt _ q.symm).1; omega
        exact ⟨(hgrow.cell_far ⟨w.heap.size, 0, none⟩ (by show w.heap.size < _; omega) (hne (w.heap.size) (by omega))).trans (cell_alloc f0 _), (hgrow.cell_far ⟨w.heap.size, 1, none⟩ (by show w.heap.size < _; omega) (hne (w.heap.size) (by omega))).trans (cell_alloc f1 _), (hgrow.cell_far ⟨w.heap.size + 1, 0, none⟩ (by show w.heap.size + 1 < _; omega) (hne (w.heap.size + 1) (by omega))).trans (cell_alloc f2 _), (hgrow.cell_far ⟨w.heap.size + 1, 1, none⟩ (by show w.heap.size + 1 < _; omega) (hne (w.heap.size + 1) (by omega))).trans (cell_alloc f3 _)⟩
      clear hsz
      go_wp2_with fail
      go_region_held3 (fun w' => w'.cell? ⟨w.heap.size, 0, none⟩ = some (.int .i64 s) ∧ w'.cell? ⟨w.heap.size, 1, none⟩ = some (.int .i64 t) ∧ w'.cell? ⟨w.heap.size + 1, 0, none⟩ = some (.int .i64 x) ∧ w'.cell? ⟨w.heap.size + 1, 1, none⟩ = some (.int .i64 y))
        (((try go_split_ands); (refine ⟨?_, ?_, ?_, ?_⟩ <;> (repeat (first | (with_reducible assumption) | (with_reducible refine cell_drew ?_) | (with_reducible refine cell_drewN ?_) | (with_reducible refine cell_alloc ?_ _) | fail)))))
        (first
          | (go_at_call 125; first | ((with_reducible refine (HD1.out _).mono ?_); rintro e w9 ⟨rfl, n9, rfl⟩) | ((with_reducible refine (HD2.out _).mono ?_); rintro e w9 ⟨rfl, n9, rfl⟩))
          | (refine step_append_lies _ (by rfl) _ _ _ (by rfl) (W0.heap.size) 64 i0 (.agg #[.int .i64 0, .int .i64 0]) 2 16 Try.underlying128 HI.out HZ0.out HZ1.out HZ2.out rfl Nat.two_pos u8 k (flatM ys) (by rfl) (mapp_owns hlen (hr.out.alloc_ (.cells #[.int .i64 QX, .int .i64 QY] 64))) ⟨wr.heap.size, 0, none⟩ 1 1 [.int .i64 QX, .int .i64 QY] (by rfl) (by rfl) (World.news_of_block (cs := #[.int .i64 QX, .int .i64 QY]) (t := 64) (fr := (0, 0)) (heap_alloc_new wr _)) HH1.out Nat.one_pos HH2.out HH3.out HB1.out (wr.heap.size + 1) HH5.out ?_; intro g3 cap3 w3 hown hgrow hat hlt3; obtain ⟨q0, q1, q2, q3⟩ := HQ.out w3 ⟨hgrow.os, hgrow.tape, hgrow.output, hgrow.size, hgrow.block⟩))
      have hr3 : Hid (RowM 64 w3 W0.heap.size (.slice (some ⟨g3, 0, none⟩) (k + 1) cap3) (PL.take (k + 1))) := by
        show RowM _ _ _ _ _
        rw [hst.out]
        exact mapp_row hlen hown
      have hb3 : Below W0.heap.size wr w3 := (bl_alloc (by omega) (.cells #[.int .i64 QX, .int .i64 QY] 64) (Below.refl _ _)).trans (mapp_below (hr.out.alloc_ (.cells #[.int .i64 QX, .int .i64 QY] 64)) (show (wr.alloc (.cells #[.int .i64 QX, .int .i64 QY] 64)).grownBy w3 _ from ⟨hgrow.os, hgrow.tape, hgrow.output, hgrow.size, hgrow.block⟩) (by simp; omega))
      have H3 := Lib.hid (show Below W0.heap.size W0 w3 from hbw.out.trans hb3)
      clear hown hgrow hat hb3 q0 q1 q2 q3 hr hbw hst f0 f1 f2 f3
      go_wp2_with fail
      refine ⟨?_, ?_⟩
      · first
          | ((repeat apply Exists.intro); (refine ⟨?_, rfl⟩); exact ⟨(k + 1 : Nat), HLE.out, by go_num, hr3, H3⟩)
          | exact ⟨(k + 1 : Nat), HLE.out, by go_num, hr3, H3⟩
      · simp [intOf]; omega
    · have hk' : k = 17 := by omega
      subst hk'
      have hfull : Hid (RowM 64 wr W0.heap.size u8 PL) := by
        have h := hr.out
        rw [List.take_of_length_le (by rw [HLEN.out]; exact Nat.le_refl _)] at h
        exact h
      clear hr HL HPK
      rcases hfull.out.forms with ⟨_, hz⟩ | ⟨g, cap, rfl, gB, gl, gc, gf⟩
      · exfalso; have h := HLEN.out; rw [hz] at h; simp at h
      clear gc gf
      rw [HLEN.out] at hfull ⊢
      go_wp2_with fail
      refine (reverse_any _ W0.heap.size g cap PL hfull.out HLEN.out).mono ?_
      rintro e w5 ⟨rfl, hr5, hg5⟩
      have H5 := Lib.hid (show Below W0.heap.size W0 w5 from hbw.out.trans ⟨hg5.os, hg5.tape, hg5.output, hg5.size, fun n hn => hg5.block n (by omega) (fun q => by injection q with q; omega)⟩)
      have HR5 := Lib.hid hr5
      clear hg5 hr5 hfull
      go_wp2_with fail
      go_ret
      exact ⟨_, _, rfl, RowM.base_le HR5.out z0, by repeat (first | (with_reducible exact Below.refl _ _) | (with_reducible assumption) | ((with_reducible refine bl_alloc ?_ _ ?_); (focus ((first | omega | (simp <;> omega)); done))) | ((with_reducible refine bl_set ?_ _ ?_); (focus ((first | omega | (simp <;> omega)); done))) | (with_reducible refine below_drewN ?_ _) | (with_reducible refine Below.drew ?_) | ((with_reducible refine bl_trans ?_ H5.out ?_); (focus ((first | omega | (simp <;> omega)); done))) | ((with_reducible refine bl_trans ?_ HW0.out ?_); (focus ((first | omega | (simp <;> omega)); done))))⟩
theorem profilePlaces_any (w : World) (x y s t : Int) (x0 : 0 ≤ x) (x1 : x ≤ 200000) (y0 : 0 ≤ y) (y1 : y ≤ 200000) (s0 : 0 ≤ s) (s1 : s ≤ 200000) (t0 : 0 ≤ t) (t1 : t ≤ 200000) :
    Calls Try.prog 110 #[.agg #[.int .i64 x, .int .i64 y], .agg #[.int .i64 s, .int .i64 t], .int .i64 17] w fun e w' => ∃ g c, e = .returned (.slice (some ⟨g, 0, none⟩) 17 c) ∧ RowM 64 w' w.heap.size (.slice (some ⟨g, 0, none⟩) 17 c) (placesL x y s t) ∧ Below w.heap.size w w' := by
  rcases Int.lt_trichotomy x s with h | h | h
  · exact profilePlaces_A w x y s t h x0 x1 y0 y1 s0 s1 t0 t1
  · by_cases h2 : y ≤ t
    · exact profilePlaces_B w x y s t ⟨h, h2⟩ x0 x1 y0 y1 s0 s1 t0 t1
    · exact profilePlaces_C w x y s t ⟨h, by omega⟩ x0 x1 y0 y1 s0 s1 t0 t1
  · exact profilePlaces_D w x y s t h x0 x1 y0 y1 s0 s1 t0 t1
end Go.Proofs.Ytedpdcdmemenhaa
