/-
  Contract of the program's BeamAntenna at valid arguments. The conditions are the hypotheses.
-/
import Derived.Test.YtphoamgeipoejaaRows
import Derived.Test.YtphoamgeipoejaaLib
import Derived.Test.YtphoamgeipoejaaInt
import Derived.Test.YtphoamgeipoejaaInts
import Derived.Test.YtphoamgeipoejaaWithin
import Derived.Test.YtphoamgeipoejaaNames
import Derived.Test.YtphoamgeipoejaaOwn
import Derived.Test.YtphoamgeipoejaaField
import Derived.Test.YtphoamgeipoejaaMinMax
import Derived.Outline
import Derived.Deep.RegionHeld3
import Derived.Deep.DrawnRows
import Derived.OwnWalk
import Derived.Deep.AppendLies
import Derived.Deep.RegionLaw
import Derived.Test.YtphoamgeipoejaaBeamB
namespace Go.Proofs.Ytphoamgeipoejaa.ofBeamAntenna
open Go.RowKit
set_option linter.unusedSimpArgs false
set_option linter.unusedVariables false
attribute [local go_sem ↓] Go.wp_at_zero Go.wp_at_succ
set_option maxRecDepth 20000 in
set_option maxHeartbeats 8000000 in
theorem beam_ok (w : World) (s : ByteArray) (is : s.size ≤ maxLen) (g : Int) (ig : In64 g) (a : Int) (ia : In64 a) (b : Int) (ib : In64 b) (hn : nameB s = true) (g0 : -60000 ≤ g) (g1 : g ≤ 60000) (a0 : 1 ≤ a) (a1 : a ≤ 360) (b0 : 1 ≤ b) (b1 : b ≤ 360) :
    Calls Try.prog 5 #[.string s, .int .i64 g, .int .i64 a, .int .i64 b] w fun e w' => ∃ A0 n0 c0 A1 n1 c1, e = .returned (.tuple #[.agg #[.string (bmN s g a b), .int .i64 (bmG s g a b), .slice A0 n0 c0, .slice A1 n1 c1], .int .i64 (bmC s g a b)]) ∧ Row 2 w' w.heap.size (.slice A0 n0 c0) (bmH s g a b) ∧ Row 2 w' w.heap.size (.slice A1 n1 c1) (bmV s g a b) ∧ Apart (.slice A0 n0 c0) (.slice A1 n1 c1) ∧ Below w.heap.size w w' := by
  obtain ⟨e1, e2, e3, e4, e5⟩ := bm_yes (s := s) (g := g) (a := a) (b := b) ⟨hn, ⟨g0, g1⟩, ⟨a0, a1⟩, b0, b1⟩
  rw [e1, e2, e3, e4, e5]
  clear e1 e2 e3 e4 e5 ig ia ib
  have HE := Lib.hid hn
  have IS := Lib.hid is
  clear hn is
  obtain ⟨i0, hi, hz0, hz1, hz2⟩ := info_parts Try.info_i64
  have HI := Lib.hid hi
  have HZ0 := Lib.hid hz0
  have HZ1 := Lib.hid hz1
  have HZ2 := Lib.hid hz2
  clear hi hz0 hz1 hz2
  go_enter Try.func5, Try.ntmps5
  go_wp2_with fail
  refine (IsName_any _ s IS.out).mono ?_
  rintro e w1 ⟨he, hw⟩
  obtain rfl := hw.symm
  clear hw
  rw [HE.out] at he
  subst he
  go_wp2_with (first | (go_at_call 15; go_in) | (go_at_call 14; go_in))
  go_loopw [36] (fun i wr => ∃ (k : Nat) (t : Value), k ≤ 36 ∧ i = .int .i64 (k : Int) ∧ Hid (SInv wr (w.heap.size + 1) [.string s, .int .i64 g, t, .slice none 0 0]) ∧ Hid (Row 2 wr (w.heap.size + 2) t ((beamH a).take k)) ∧ Hid (t.ownBlock ≠ some (w.heap.size + 1)) ∧ Hid (SInv wr w.heap.size [.string ⟨#[]⟩, .int .i64 0, .slice none 0 0, .slice none 0 0]) ∧ Hid (Below w.heap.size w wr)) (fun i _ => 37 - (intOf i).toNat)
  case atStart => exact ⟨0, .slice none 0 0, Nat.zero_le _, rfl, (show SInv _ _ _ by have h := SInv.fresh (w.alloc (.cells #[.string ⟨#[]⟩, .int .i64 0, .slice none 0 0, .slice none 0 0] 24)) #[.string s, .int .i64 g, .slice none 0 0, .slice none 0 0] 24; simpa using h), Row.nil_, (by simp [Value.ownBlock, Hid]), (SInv.fresh w _ _).alloc_ _, (show Below _ _ _ by repeat (first | (with_reducible exact Below.refl _ _) | (with_reducible assumption) | ((with_reducible refine bl_alloc ?_ _ ?_); (focus ((first | omega | (simp <;> omega)); done))) | ((with_reducible refine bl_set ?_ _ ?_); (focus ((first | omega | (simp <;> omega)); done))) | (with_reducible refine below_drewN ?_ _) | (with_reducible refine Below.drew ?_)))⟩
  case round =>
    obtain ⟨k, t, hk, rfl, hs, hr, hne, hz, hbw⟩ := hrel
    have k0 : (0 : Int) ≤ (k : Int) := Int.natCast_nonneg _
    by_cases hlt : k < 36
    · have hlt' : (k : Int) < 36 := by omega
      have y2 := hs.out.cell 2 _ rfl
      have zO : w.heap.size + 1 < wr.heap.size := hs.out.lt
      have yA : ∀ (n : Nat) (o : Obj), ((wr.drewN n).alloc o).cell? ⟨w.heap.size + 1, 2, none⟩ = some t := fun n o => cell_alloc (w := wr.drewN n) y2 o
      have yB : ∀ o : Obj, (wr.alloc o).cell? ⟨w.heap.size + 1, 2, none⟩ = some t := fun o => cell_alloc y2 o
      have hlen : ((beamH a).take k).length = k := by rw [List.length_take, beamH_len]; omega
      have hst := Lib.hid (beamH_step a (k := k) hlt)
      obtain ⟨ys, hy⟩ : ∃ ys, ys = (beamH a).take k := ⟨_, rfl⟩
      rw [← hy] at hr hlen hst
      clear hy
      rcases (show (10 * (k : Int) ≤ 360 - 10 * (k : Int)) ∨ (360 - 10 * (k : Int) < 10 * (k : Int)) from by omega) with hc | hc
      · have hX : min (10 * (k : Int)) (360 - 10 * (k : Int)) = 10 * (k : Int) := by omega
        rw [hX] at hst
        clear hX
        obtain ⟨K, hK⟩ : ∃ K, K = parV (10 * (k : Int)) a := ⟨_, rfl⟩
        rw [← hK] at hst
        have HC : Hid (∀ (W : World) (x : Int), x = 10 * (k : Int) → Calls Try.prog 16 #[.int .i64 x, .int .i64 a] W fun e w' => e = .returned (.int .i64 K) ∧ ∃ m, w' = W.drewN m) := fun W x hx => by
          rw [hK, hx]
          exact beamLoss_any W (10 * (k : Int)) a (by omega) (by omega) (by omega) (by omega)
        clear hK
        have i1 : IntKind.i64.wrap (10 * (k : Int)) = 10 * (k : Int) := by rw [IntKind.wrap_i64]; omega
        have i2 : IntKind.i64.wrap (360 - 10 * (k : Int)) = 360 - 10 * (k : Int) := by rw [IntKind.wrap_i64]; omega
        have hcn : ¬ (360 - 10 * (k : Int) < 10 * (k : Int)) := by omega
        go_wp2_with fail
        go_region_law (first | (refine step_append_lies _ (by rfl) _ _ _ (by rfl) (w.heap.size + 2) 2 i0 (.int .i64 0) 1 8 Try.underlying22 HI.out HZ0.out HZ1.out HZ2.out rfl (by omega) t k (ys.map (Value.int .i64)) (by rfl) (Row.owns hlen (hr.out.alloc_ (.cells #[.int .i64 K] 2))) ⟨wr.heap.size, 0, none⟩ 1 1 [.int .i64 K] (by rfl) (by rfl) (World.news_of_block (cs := #[.int .i64 K]) (t := 2) (fr := (0, 0)) (heap_alloc_new wr _)) (by simp [Value.oneCell']) (by omega) (by unfold maxLen; omega) (by omega) (by simp <;> omega) (wr.heap.size + 1) (by simp) ?_; intro g3 cap3 w3 hown hgrow hat hlt3; have q2 := (hgrow.cell_far ⟨w.heap.size + 1, 2, none⟩ (by simp <;> omega) (fun q => hne.out q.symm)).trans (cell_alloc y2 (.cells #[.int .i64 K] 2)); have qf := (hgrow.frozen_far ⟨w.heap.size + 1, 2, none⟩ (by simp <;> omega) (fun q => hne.out q.symm)).trans ((hs.out.alloc_ (.cells #[.int .i64 K] 2)).free 2)) | (go_simp; go_at_call 16; ((with_reducible refine (HC.out _ _ (by (repeat' split) <;> omega)).mono ?_); rintro e w2 ⟨rfl, m, rfl⟩)))
        all_goals
          have hp := push_row 2 (by simp) hs.out hr.out hne.out (by repeat (first | (with_reducible exact Below.refl _ _) | (with_reducible assumption) | ((with_reducible refine bl_alloc ?_ _ ?_); (focus ((first | omega | (simp <;> omega)); done))) | ((with_reducible refine bl_set ?_ _ ?_); (focus ((first | omega | (simp <;> omega)); done))) | (with_reducible refine below_drewN ?_ _) | (with_reducible refine Below.drew ?_))) hgrow hat (by omega) hlen hown
          obtain ⟨p1, p2, p3, p4, p5⟩ := hp
          have P1 := Lib.hid p1
          rw [← hst.out] at p2
          have P2 := Lib.hid p2
          have P3 := Lib.hid p3
          have PZ := Lib.hid (hz.out.writes p4 (fun q => by rcases q with q | q; (have := (hr.out.lt _ q).1; omega); omega))
          have PB := Lib.hid (show Below w.heap.size w _ from hbw.out.trans (p4.below hbw.out.size (fun b q => by rcases q with q | q; (have := (hr.out.lt _ q).1; omega); omega)))
          clear yA yB y2 hown hgrow p1 p2 p3 p4 p5 q2 qf hat
          go_wp2
          refine ⟨?_, ?_⟩
          · first
              | ((repeat apply Exists.intro); (refine ⟨?_, rfl⟩); (repeat (first | (with_reducible exact P1) | (with_reducible exact P2) | (with_reducible exact P3) | (with_reducible exact PZ) | (with_reducible exact PB) | (refine And.intro P1 ?_) | (refine And.intro P2 ?_) | (refine ⟨(k + 1 : Nat), ?_⟩) | (refine ⟨.slice (some ⟨g3, 0, none⟩) (k + 1) cap3, ?_⟩) | (refine And.intro (by first | (with_reducible assumption) | omega | (go_num; done)) ?_) | (with_reducible assumption) | omega)); done)
              | ((repeat (first | (with_reducible exact P1) | (with_reducible exact P2) | (with_reducible exact P3) | (with_reducible exact PZ) | (with_reducible exact PB) | (refine And.intro P1 ?_) | (refine And.intro P2 ?_) | (refine ⟨(k + 1 : Nat), ?_⟩) | (refine ⟨.slice (some ⟨g3, 0, none⟩) (k + 1) cap3, ?_⟩) | (refine And.intro (by first | (with_reducible assumption) | omega | (go_num; done)) ?_) | (with_reducible assumption) | omega)); done)
          · simp [intOf]; omega
      · have hX : min (10 * (k : Int)) (360 - 10 * (k : Int)) = 360 - 10 * (k : Int) := by omega
        rw [hX] at hst
        clear hX
        obtain ⟨K, hK⟩ : ∃ K, K = parV (360 - 10 * (k : Int)) a := ⟨_, rfl⟩
        rw [← hK] at hst
        have HC : Hid (∀ (W : World) (x : Int), x = 360 - 10 * (k : Int) → Calls Try.prog 16 #[.int .i64 x, .int .i64 a] W fun e w' => e = .returned (.int .i64 K) ∧ ∃ m, w' = W.drewN m) := fun W x hx => by
          rw [hK, hx]
          exact beamLoss_any W (360 - 10 * (k : Int)) a (by omega) (by omega) (by omega) (by omega)
        clear hK
        have i1 : IntKind.i64.wrap (10 * (k : Int)) = 10 * (k : Int) := by rw [IntKind.wrap_i64]; omega
        have i2 : IntKind.i64.wrap (360 - 10 * (k : Int)) = 360 - 10 * (k : Int) := by rw [IntKind.wrap_i64]; omega
        have hcn : ¬ (10 * (k : Int) ≤ 360 - 10 * (k : Int)) := by omega
        have hcm : ¬ (10 * (k : Int) < 360 - 10 * (k : Int)) := by omega
        go_wp2_with fail
        go_region_law (first | (refine step_append_lies _ (by rfl) _ _ _ (by rfl) (w.heap.size + 2) 2 i0 (.int .i64 0) 1 8 Try.underlying22 HI.out HZ0.out HZ1.out HZ2.out rfl (by omega) t k (ys.map (Value.int .i64)) (by rfl) (Row.owns hlen (hr.out.alloc_ (.cells #[.int .i64 K] 2))) ⟨wr.heap.size, 0, none⟩ 1 1 [.int .i64 K] (by rfl) (by rfl) (World.news_of_block (cs := #[.int .i64 K]) (t := 2) (fr := (0, 0)) (heap_alloc_new wr _)) (by simp [Value.oneCell']) (by omega) (by unfold maxLen; omega) (by omega) (by simp <;> omega) (wr.heap.size + 1) (by simp) ?_; intro g3 cap3 w3 hown hgrow hat hlt3; have q2 := (hgrow.cell_far ⟨w.heap.size + 1, 2, none⟩ (by simp <;> omega) (fun q => hne.out q.symm)).trans (cell_alloc y2 (.cells #[.int .i64 K] 2)); have qf := (hgrow.frozen_far ⟨w.heap.size + 1, 2, none⟩ (by simp <;> omega) (fun q => hne.out q.symm)).trans ((hs.out.alloc_ (.cells #[.int .i64 K] 2)).free 2)) | (go_simp; go_at_call 16; ((with_reducible refine (HC.out _ _ (by (repeat' split) <;> omega)).mono ?_); rintro e w2 ⟨rfl, m, rfl⟩)))
        all_goals
          have hp := push_row 2 (by simp) hs.out hr.out hne.out (by repeat (first | (with_reducible exact Below.refl _ _) | (with_reducible assumption) | ((with_reducible refine bl_alloc ?_ _ ?_); (focus ((first | omega | (simp <;> omega)); done))) | ((with_reducible refine bl_set ?_ _ ?_); (focus ((first | omega | (simp <;> omega)); done))) | (with_reducible refine below_drewN ?_ _) | (with_reducible refine Below.drew ?_))) hgrow hat (by omega) hlen hown
          obtain ⟨p1, p2, p3, p4, p5⟩ := hp
          have P1 := Lib.hid p1
          rw [← hst.out] at p2
          have P2 := Lib.hid p2
          have P3 := Lib.hid p3
          have PZ := Lib.hid (hz.out.writes p4 (fun q => by rcases q with q | q; (have := (hr.out.lt _ q).1; omega); omega))
          have PB := Lib.hid (show Below w.heap.size w _ from hbw.out.trans (p4.below hbw.out.size (fun b q => by rcases q with q | q; (have := (hr.out.lt _ q).1; omega); omega)))
          clear yA yB y2 hown hgrow p1 p2 p3 p4 p5 q2 qf hat
          go_wp2
          refine ⟨?_, ?_⟩
          · first
              | ((repeat apply Exists.intro); (refine ⟨?_, rfl⟩); (repeat (first | (with_reducible exact P1) | (with_reducible exact P2) | (with_reducible exact P3) | (with_reducible exact PZ) | (with_reducible exact PB) | (refine And.intro P1 ?_) | (refine And.intro P2 ?_) | (refine ⟨(k + 1 : Nat), ?_⟩) | (refine ⟨.slice (some ⟨g3, 0, none⟩) (k + 1) cap3, ?_⟩) | (refine And.intro (by first | (with_reducible assumption) | omega | (go_num; done)) ?_) | (with_reducible assumption) | omega)); done)
              | ((repeat (first | (with_reducible exact P1) | (with_reducible exact P2) | (with_reducible exact P3) | (with_reducible exact PZ) | (with_reducible exact PB) | (refine And.intro P1 ?_) | (refine And.intro P2 ?_) | (refine ⟨(k + 1 : Nat), ?_⟩) | (refine ⟨.slice (some ⟨g3, 0, none⟩) (k + 1) cap3, ?_⟩) | (refine And.intro (by first | (with_reducible assumption) | omega | (go_num; done)) ?_) | (with_reducible assumption) | omega)); done)
          · simp [intOf]; omega
    · have hge : 36 ≤ k := by omega
      have hgI : (36 : Int) ≤ (k : Int) := by omega
      have hrH : Hid (Row 2 wr (w.heap.size + 2) t (beamH a)) := by
        have h := hr.out
        rw [List.take_of_length_le (by rw [beamH_len]; exact hge)] at h
        exact h
      have hneH := hne
      obtain ⟨tH, htH⟩ : ∃ tH, tH = t := ⟨_, rfl⟩
      rw [← htH] at hs hrH hneH
      clear hr hne htH
      go_wp2_with fail
      go_loopw [53] (fun i wr => ∃ (k : Nat) (t : Value), k ≤ 19 ∧ i = .int .i64 (k : Int) ∧ Hid (SInv wr (w.heap.size + 1) [.string s, .int .i64 g, tH, t]) ∧ Hid (Row 2 wr (w.heap.size + 2) t ((beamV b).take k)) ∧ Hid (t.ownBlock ≠ some (w.heap.size + 1)) ∧ Hid (SInv wr w.heap.size [.string ⟨#[]⟩, .int .i64 0, .slice none 0 0, .slice none 0 0]) ∧ Hid (Row 2 wr (w.heap.size + 2) tH (beamH a)) ∧ Hid (tH.ownBlock ≠ some (w.heap.size + 1)) ∧ Hid (Apart t tH) ∧ Hid (Below w.heap.size w wr)) (fun i _ => 20 - (intOf i).toNat)
      case atStart => exact ⟨0, .slice none 0 0, Nat.zero_le _, rfl, hs, Row.nil_, (by simp [Value.ownBlock, Hid]), hz, hrH, hneH, apart_nil, hbw⟩
      case round =>
        obtain ⟨k, t, hk, rfl, hs, hr, hne, hz, hrH, hneH, hap, hbw⟩ := hrel
        have k0 : (0 : Int) ≤ (k : Int) := Int.natCast_nonneg _
        by_cases hlt : k < 19
        · have hlt' : (k : Int) < 19 := by omega
          have y2 := hs.out.cell 3 _ rfl
          have zO : w.heap.size + 1 < wr.heap.size := hs.out.lt
          have yA : ∀ (n : Nat) (o : Obj), ((wr.drewN n).alloc o).cell? ⟨w.heap.size + 1, 3, none⟩ = some t := fun n o => cell_alloc (w := wr.drewN n) y2 o
          have yB : ∀ o : Obj, (wr.alloc o).cell? ⟨w.heap.size + 1, 3, none⟩ = some t := fun o => cell_alloc y2 o
          have hlen : ((beamV b).take k).length = k := by rw [List.length_take, beamV_len]; omega
          have hst := Lib.hid (beamV_step b (k := k) hlt)
          obtain ⟨ys, hy⟩ : ∃ ys, ys = (beamV b).take k := ⟨_, rfl⟩
          rw [← hy] at hr hlen hst
          clear hy
          rcases (show (90 ≤ 10 * (k : Int)) ∨ (10 * (k : Int) < 90) from by omega) with hc | hc
          · have hX : max (10 * (k : Int) - 90) (90 - 10 * (k : Int)) = 10 * (k : Int) - 90 := by omega
            rw [hX] at hst
            clear hX
            obtain ⟨K, hK⟩ : ∃ K, K = parV (10 * (k : Int) - 90) b := ⟨_, rfl⟩
            rw [← hK] at hst
            have HC : Hid (∀ (W : World) (x : Int), x = 10 * (k : Int) - 90 → Calls Try.prog 16 #[.int .i64 x, .int .i64 b] W fun e w' => e = .returned (.int .i64 K) ∧ ∃ m, w' = W.drewN m) := fun W x hx => by
              rw [hK, hx]
              exact beamLoss_any W (10 * (k : Int) - 90) b (by omega) (by omega) (by omega) (by omega)
            clear hK
            have i1 : IntKind.i64.wrap (10 * (k : Int)) = 10 * (k : Int) := by rw [IntKind.wrap_i64]; omega
            have i2 : IntKind.i64.wrap (10 * (k : Int) - 90) = 10 * (k : Int) - 90 := by rw [IntKind.wrap_i64]; omega
            have i3 : IntKind.i64.wrap (90 - 10 * (k : Int)) = 90 - 10 * (k : Int) := by rw [IntKind.wrap_i64]; omega
            have HA : Hid (∀ W : World, Calls Try.prog 17 #[.int .i64 (10 * (k : Int) - 90)] W fun e w' => e = .returned (.int .i64 (10 * (k : Int) - 90)) ∧ W = w') := fun W => by
              first
                | exact abs_nn _ ⟨by omega, by omega⟩ W
                | (rw [show 90 - 10 * (k : Int) = -(10 * (k : Int) - 90) from by omega]; exact abs_np _ ⟨by omega, by omega⟩ W)
            go_wp2_with fail
            go_region_law (first | (refine step_append_lies _ (by rfl) _ _ _ (by rfl) (w.heap.size + 2) 2 i0 (.int .i64 0) 1 8 Try.underlying22 HI.out HZ0.out HZ1.out HZ2.out rfl (by omega) t k (ys.map (Value.int .i64)) (by rfl) (Row.owns hlen (hr.out.alloc_ (.cells #[.int .i64 K] 2))) ⟨wr.heap.size, 0, none⟩ 1 1 [.int .i64 K] (by rfl) (by rfl) (World.news_of_block (cs := #[.int .i64 K]) (t := 2) (fr := (0, 0)) (heap_alloc_new wr _)) (by simp [Value.oneCell']) (by omega) (by unfold maxLen; omega) (by omega) (by simp <;> omega) (wr.heap.size + 1) (by simp) ?_; intro g3 cap3 w3 hown hgrow hat hlt3; have q2 := (hgrow.cell_far ⟨w.heap.size + 1, 3, none⟩ (by simp <;> omega) (fun q => hne.out q.symm)).trans (cell_alloc y2 (.cells #[.int .i64 K] 2)); have qf := (hgrow.frozen_far ⟨w.heap.size + 1, 3, none⟩ (by simp <;> omega) (fun q => hne.out q.symm)).trans ((hs.out.alloc_ (.cells #[.int .i64 K] 2)).free 3)) | (go_simp; go_at_call 16; ((with_reducible refine (HC.out _ _ (by (repeat' split) <;> omega)).mono ?_); rintro e w2 ⟨rfl, m, rfl⟩)) | (go_simp; go_at_call 17; ((with_reducible refine (HA.out _).mono ?_); rintro e w2 ⟨rfl, rfl⟩)))
            all_goals
              have hp := push_row 3 (by simp) hs.out hr.out hne.out (by repeat (first | (with_reducible exact Below.refl _ _) | (with_reducible assumption) | ((with_reducible refine bl_alloc ?_ _ ?_); (focus ((first | omega | (simp <;> omega)); done))) | ((with_reducible refine bl_set ?_ _ ?_); (focus ((first | omega | (simp <;> omega)); done))) | (with_reducible refine below_drewN ?_ _) | (with_reducible refine Below.drew ?_))) hgrow hat (by omega) hlen hown
              obtain ⟨p1, p2, p3, p4, p5⟩ := hp
              have P1 := Lib.hid p1
              rw [← hst.out] at p2
              have P2 := Lib.hid p2
              have P3 := Lib.hid p3
              have PZ := Lib.hid (hz.out.writes p4 (fun q => by rcases q with q | q; (have := (hr.out.lt _ q).1; omega); omega))
              have PB := Lib.hid (show Below w.heap.size w _ from hbw.out.trans (p4.below hbw.out.size (fun b q => by rcases q with q | q; (have := (hr.out.lt _ q).1; omega); omega)))
              have PH := Lib.hid (hrH.out.writes p4 (fun b h q => by rcases q with q | q; exact hap.out _ q h; exact hneH.out (by rw [h, q])))
              have PA := Lib.hid (p5 tH (fun b h => (hrH.out.lt b h).2) hap.out)
              clear yA yB y2 hown hgrow p1 p2 p3 p4 p5 q2 qf hat
              go_wp2
              refine ⟨?_, ?_⟩
              · first
                  | ((repeat apply Exists.intro); (refine ⟨?_, rfl⟩); (repeat (first | (with_reducible exact P1) | (with_reducible exact P2) | (with_reducible exact P3) | (with_reducible exact PZ) | (with_reducible exact PB) | (refine And.intro P1 ?_) | (refine And.intro P2 ?_) | (refine ⟨(k + 1 : Nat), ?_⟩) | (refine ⟨.slice (some ⟨g3, 0, none⟩) (k + 1) cap3, ?_⟩) | (refine And.intro (by first | (with_reducible assumption) | omega | (go_num; done)) ?_) | (with_reducible assumption) | omega)); done)
                  | ((repeat (first | (with_reducible exact P1) | (with_reducible exact P2) | (with_reducible exact P3) | (with_reducible exact PZ) | (with_reducible exact PB) | (refine And.intro P1 ?_) | (refine And.intro P2 ?_) | (refine ⟨(k + 1 : Nat), ?_⟩) | (refine ⟨.slice (some ⟨g3, 0, none⟩) (k + 1) cap3, ?_⟩) | (refine And.intro (by first | (with_reducible assumption) | omega | (go_num; done)) ?_) | (with_reducible assumption) | omega)); done)
              · simp [intOf]; omega
          · have hX : max (10 * (k : Int) - 90) (90 - 10 * (k : Int)) = 90 - 10 * (k : Int) := by omega
            rw [hX] at hst
            clear hX
            obtain ⟨K, hK⟩ : ∃ K, K = parV (90 - 10 * (k : Int)) b := ⟨_, rfl⟩
            rw [← hK] at hst
            have HC : Hid (∀ (W : World) (x : Int), x = 90 - 10 * (k : Int) → Calls Try.prog 16 #[.int .i64 x, .int .i64 b] W fun e w' => e = .returned (.int .i64 K) ∧ ∃ m, w' = W.drewN m) := fun W x hx => by
              rw [hK, hx]
              exact beamLoss_any W (90 - 10 * (k : Int)) b (by omega) (by omega) (by omega) (by omega)
            clear hK
            have i1 : IntKind.i64.wrap (10 * (k : Int)) = 10 * (k : Int) := by rw [IntKind.wrap_i64]; omega
            have i2 : IntKind.i64.wrap (10 * (k : Int) - 90) = 10 * (k : Int) - 90 := by rw [IntKind.wrap_i64]; omega
            have i3 : IntKind.i64.wrap (90 - 10 * (k : Int)) = 90 - 10 * (k : Int) := by rw [IntKind.wrap_i64]; omega
            have HA : Hid (∀ W : World, Calls Try.prog 17 #[.int .i64 (10 * (k : Int) - 90)] W fun e w' => e = .returned (.int .i64 (90 - 10 * (k : Int))) ∧ W = w') := fun W => by
              first
                | exact abs_nn _ ⟨by omega, by omega⟩ W
                | (rw [show 90 - 10 * (k : Int) = -(10 * (k : Int) - 90) from by omega]; exact abs_np _ ⟨by omega, by omega⟩ W)
            go_wp2_with fail
            go_region_law (first | (refine step_append_lies _ (by rfl) _ _ _ (by rfl) (w.heap.size + 2) 2 i0 (.int .i64 0) 1 8 Try.underlying22 HI.out HZ0.out HZ1.out HZ2.out rfl (by omega) t k (ys.map (Value.int .i64)) (by rfl) (Row.owns hlen (hr.out.alloc_ (.cells #[.int .i64 K] 2))) ⟨wr.heap.size, 0, none⟩ 1 1 [.int .i64 K] (by rfl) (by rfl) (World.news_of_block (cs := #[.int .i64 K]) (t := 2) (fr := (0, 0)) (heap_alloc_new wr _)) (by simp [Value.oneCell']) (by omega) (by unfold maxLen; omega) (by omega) (by simp <;> omega) (wr.heap.size + 1) (by simp) ?_; intro g3 cap3 w3 hown hgrow hat hlt3; have q2 := (hgrow.cell_far ⟨w.heap.size + 1, 3, none⟩ (by simp <;> omega) (fun q => hne.out q.symm)).trans (cell_alloc y2 (.cells #[.int .i64 K] 2)); have qf := (hgrow.frozen_far ⟨w.heap.size + 1, 3, none⟩ (by simp <;> omega) (fun q => hne.out q.symm)).trans ((hs.out.alloc_ (.cells #[.int .i64 K] 2)).free 3)) | (go_simp; go_at_call 16; ((with_reducible refine (HC.out _ _ (by (repeat' split) <;> omega)).mono ?_); rintro e w2 ⟨rfl, m, rfl⟩)) | (go_simp; go_at_call 17; ((with_reducible refine (HA.out _).mono ?_); rintro e w2 ⟨rfl, rfl⟩)))
            all_goals
              have hp := push_row 3 (by simp) hs.out hr.out hne.out (by repeat (first | (with_reducible exact Below.refl _ _) | (with_reducible assumption) | ((with_reducible refine bl_alloc ?_ _ ?_); (focus ((first | omega | (simp <;> omega)); done))) | ((with_reducible refine bl_set ?_ _ ?_); (focus ((first | omega | (simp <;> omega)); done))) | (with_reducible refine below_drewN ?_ _) | (with_reducible refine Below.drew ?_))) hgrow hat (by omega) hlen hown
              obtain ⟨p1, p2, p3, p4, p5⟩ := hp
              have P1 := Lib.hid p1
              rw [← hst.out] at p2
              have P2 := Lib.hid p2
              have P3 := Lib.hid p3
              have PZ := Lib.hid (hz.out.writes p4 (fun q => by rcases q with q | q; (have := (hr.out.lt _ q).1; omega); omega))
              have PB := Lib.hid (show Below w.heap.size w _ from hbw.out.trans (p4.below hbw.out.size (fun b q => by rcases q with q | q; (have := (hr.out.lt _ q).1; omega); omega)))
              have PH := Lib.hid (hrH.out.writes p4 (fun b h q => by rcases q with q | q; exact hap.out _ q h; exact hneH.out (by rw [h, q])))
              have PA := Lib.hid (p5 tH (fun b h => (hrH.out.lt b h).2) hap.out)
              clear yA yB y2 hown hgrow p1 p2 p3 p4 p5 q2 qf hat
              go_wp2
              refine ⟨?_, ?_⟩
              · first
                  | ((repeat apply Exists.intro); (refine ⟨?_, rfl⟩); (repeat (first | (with_reducible exact P1) | (with_reducible exact P2) | (with_reducible exact P3) | (with_reducible exact PZ) | (with_reducible exact PB) | (refine And.intro P1 ?_) | (refine And.intro P2 ?_) | (refine ⟨(k + 1 : Nat), ?_⟩) | (refine ⟨.slice (some ⟨g3, 0, none⟩) (k + 1) cap3, ?_⟩) | (refine And.intro (by first | (with_reducible assumption) | omega | (go_num; done)) ?_) | (with_reducible assumption) | omega)); done)
                  | ((repeat (first | (with_reducible exact P1) | (with_reducible exact P2) | (with_reducible exact P3) | (with_reducible exact PZ) | (with_reducible exact PB) | (refine And.intro P1 ?_) | (refine And.intro P2 ?_) | (refine ⟨(k + 1 : Nat), ?_⟩) | (refine ⟨.slice (some ⟨g3, 0, none⟩) (k + 1) cap3, ?_⟩) | (refine And.intro (by first | (with_reducible assumption) | omega | (go_num; done)) ?_) | (with_reducible assumption) | omega)); done)
              · simp [intOf]; omega
        · have hge : 19 ≤ k := by omega
          have hgI : (19 : Int) ≤ (k : Int) := by omega
          have hrV : Hid (Row 2 wr (w.heap.size + 2) t (beamV b)) := by
            have h := hr.out
            rw [List.take_of_length_le (by rw [beamV_len]; exact hge)] at h
            exact h
          clear hr
          have fH : ∃ A n c, tH = .slice A n c := by rcases hrH.out.forms with ⟨h, _⟩ | ⟨_, _, h, _⟩ <;> exact ⟨_, _, _, h⟩
          have fV : ∃ A n c, t = .slice A n c := by rcases hrV.out.forms with ⟨h, _⟩ | ⟨_, _, h, _⟩ <;> exact ⟨_, _, _, h⟩
          obtain ⟨A0, n0, c0, rfl⟩ := fH
          obtain ⟨A1, n1, c1, rfl⟩ := fV
          have y0 := hs.out.cell 0 _ rfl
          have y1 := hs.out.cell 1 _ rfl
          have y2 := hs.out.cell 2 _ rfl
          have y3 := hs.out.cell 3 _ rfl
          have z0 := hz.out.cell 0 _ rfl
          have z1 := hz.out.cell 1 _ rfl
          have z2 := hz.out.cell 2 _ rfl
          have z3 := hz.out.cell 3 _ rfl
          have zf := hz.out.free
          have zO : w.heap.size + 1 < wr.heap.size := hs.out.lt
          go_wp2_with fail
          refine bodyPost_ret (v := .tuple #[.agg #[.string s, .int .i64 g, .slice A0 n0 c0, .slice A1 n1 c1], .int .i64 0]) (by simp [results, Try.results5, go_sem, *]) rfl ?_
          refine ⟨_, _, _, _, _, _, rfl, ?_, ?_, hap.out.symm, by repeat (first | (with_reducible exact Below.refl _ _) | (with_reducible assumption) | ((with_reducible refine bl_alloc ?_ _ ?_); (focus ((first | omega | (simp <;> omega)); done))) | ((with_reducible refine bl_set ?_ _ ?_); (focus ((first | omega | (simp <;> omega)); done))) | (with_reducible refine below_drewN ?_ _) | (with_reducible refine Below.drew ?_) | ((with_reducible refine bl_trans ?_ hbw.out ?_); (focus ((first | omega | (simp <;> omega)); done))))⟩
          · refine Row.base_le (base := w.heap.size + 2) ?_ (by omega)
            repeat (first | (with_reducible exact hrH.out) | ((with_reducible refine Row.low ?_ _ ?_); (focus ((first | omega | (simp <;> omega)); done))))
          · refine Row.base_le (base := w.heap.size + 2) ?_ (by omega)
            repeat (first | (with_reducible exact hrV.out) | ((with_reducible refine Row.low ?_ _ ?_); (focus ((first | omega | (simp <;> omega)); done))))
end Go.Proofs.Ytphoamgeipoejaa.ofBeamAntenna
