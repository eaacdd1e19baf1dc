/-
  A number put to its place among rising ones: the reference's. The conditions are the hypotheses.
-/
import Derived.Test.YtgbehaapmnmifaaRows
import Derived.Test.YtgbehaapmnmifaaLib
import Derived.Test.YtgbehaapmnmifaaInts
import Derived.Test.YtgbehaapmnmifaaOwn
import Derived.Test.YtgbehaapmnmifaaMeetP
import Derived.Shelf.Abstract
import Derived.OwnWalk
import Derived.Outline
import Derived.Deep.DeepCutAuto
import Derived.Deep.QuietTactic
import Derived.BigQuiet
import Derived.Deep.RegionHeld3
import Derived.Deep.DrawnRows
namespace Go.Proofs.Ytgbehaapmnmifaa
open Go.RowKit
set_option linter.unusedSimpArgs false
set_option linter.unusedVariables false
attribute [local go_sem ↓] Go.wp_at_zero Go.wp_at_succ
theorem putSt_len {xs : List Int} {n : Int} : ∀ k, (putSt xs n k).2.length ≤ 2 * k
  | 0 => by simp [putSt]
  | k + 1 => by
    have ih := putSt_len (xs := xs) (n := n) k
    unfold putSt
    simp only
    split
    · simp; omega
    · split
      · simp; omega
      · split
        · simp; omega
        · simp; omega
set_option maxRecDepth 20000 in
set_option maxHeartbeats 8000000 in
theorem l00Put_any (w : World) (v : Value) (xs : List Int) (p : Nat) (h : Row 2 w p v xs) (h0 : 0 < xs.length) (h1 : xs.length ≤ 1000) (n : Int) :
    Calls Try.prog 14 #[v, .int .i64 n] w fun e w' => ∃ A m c, e = .returned (.slice A m c) ∧ Row 2 w' w.heap.size (.slice A m c) (putL xs n) ∧ Below w.heap.size w w' := by
  rcases h.forms with ⟨_, hz⟩ | ⟨g, cap, rfl, _, gl, hc, _⟩
  · rw [hz] at h0; simp at h0
  have HC := Lib.hid hc
  clear h hc
  have HEND := Lib.hid (putSt_end (xs := xs) (n := n))
  have HLS : Hid (∀ k, (putSt xs n k).2.length ≤ 2 * k) := putSt_len
  obtain ⟨i0, hi, hz0, hz1, hz2⟩ := info_parts Try.info_i64
  have HI := Lib.hid hi
  have HZ0 := Lib.hid hz0
  have HZ1 := Lib.hid hz1
  have HZ2 := Lib.hid hz2
  clear hi hz0 hz1 hz2
  obtain ⟨N, hN⟩ : ∃ N, N = xs.length := ⟨_, rfl⟩
  have HN := Lib.hid hN
  rw [← hN] at h0 h1 HC HEND ⊢
  clear hN
  go_enter Try.func14, Try.ntmps14
  go_wp2_with fail
  go_loopw [5, 6, 7] (fun a d i wr => ∃ k : Nat, k ≤ N ∧ i = .int .i64 (k : Int) ∧ d = .bool (putSt xs n k).1 ∧ Hid (Row 2 wr w.heap.size a (putSt xs n k).2) ∧ Hid (Below w.heap.size w wr)) (fun _ _ i _ => N + 1 - (intOf i).toNat)
  case atStart => exact ⟨0, Nat.zero_le _, rfl, rfl, (show Row _ _ _ _ _ from app_row0 w (Nat.le_refl _)), (show Below _ _ _ by repeat (first | (with_reducible exact Below.refl _ _) | (with_reducible assumption) | ((with_reducible refine bl_alloc ?_ _ ?_); (focus ((first | omega | (simp <;> omega)); done))) | ((with_reducible refine bl_set ?_ _ ?_); (focus ((first | omega | (simp <;> omega)); done))) | (with_reducible refine below_drewN ?_ _) | (with_reducible refine Below.drew ?_)))⟩
  case round =>
    obtain ⟨k, hk, rfl, rfl, hr, hb⟩ := hrel
    have k0 : (0 : Int) ≤ (k : Int) := Int.natCast_nonneg _
    have zw := hb.out.size
    have hls := HLS.out k
    by_cases hlt : k < N
    · have hlt' : (k : Int) < (N : Int) := by omega
      have ck := (hb.out.cell (p := ⟨g, k, none⟩) gl).trans (HC.out k hlt)
      have HST : Hid (putSt xs n (k + 1) = if (putSt xs n k).1 = true then (true, (putSt xs n k).2 ++ [xs.getD k 0]) else if xs.getD k 0 < n then (false, (putSt xs n k).2 ++ [xs.getD k 0]) else if n < xs.getD k 0 then (true, (putSt xs n k).2 ++ [n] ++ [xs.getD k 0]) else (true, (putSt xs n k).2 ++ [xs.getD k 0])) := rfl
      obtain ⟨x, hx⟩ : ∃ x, x = xs.getD k 0 := ⟨_, rfl⟩
      rw [← hx] at ck HST
      obtain ⟨dn, hdn⟩ : ∃ d, d = (putSt xs n k).1 := ⟨_, rfl⟩
      obtain ⟨ys, hys⟩ : ∃ y, y = (putSt xs n k).2 := ⟨_, rfl⟩
      rw [← hdn, ← hys] at HST
      rw [← hys] at hr hls
      rw [← hdn]
      have HXX := Lib.hid hx.symm; clear hx hdn hys
      have HLE := Lib.hid (show k + 1 ≤ N by omega)
      have hl2 : ys.length ≤ 2000 := by omega
      clear hls
      cases dn with
      | true =>
        have hst := Lib.hid (show putSt xs n (k + 1) = (true, ys ++ [x]) by rw [HST.out, if_pos rfl])
        clear HST
        go_wp2_with (first | (at_builtin; refine wpList_append_own _ rfl _ _ 22 rfl w.heap.size 2 i0 (.int .i64 0) 1 8 Try.underlying22 HI.out HZ0.out HZ1.out HZ2.out rfl (by decide) _ _ _ rfl (hr.out.alloc_ _) ⟨wr.heap.size, 0, none⟩ 1 1 [.int .i64 x] rfl rfl ?c1a ?c2a ?c3a ?c4a ?c5a ?_))
        try case c1a =>
          intro j u hj
          match j, hj with
          | 0, hj => simp at hj; subst hj; simp [Addr.add]
        try case c2a => first | rfl | (intro u hu; simp at hu; subst hu; rfl)
        try case c3a => unfold maxLen; (try simp); omega
        try case c4a => (try simp); omega
        try case c5a => first | omega | (simp; omega)
        · intro v' w3 hown hgrow _
          have hr3 : Hid (Row 2 w3 w.heap.size v' (putSt xs n (k + 1)).2) := by
            show Row _ _ _ _ _
            rw [hst.out]
            first | exact app_row rfl hown | exact app_row rfl (by simpa using hown)
          have hd3 := Lib.hid (show (putSt xs n (k + 1)).1 = true by rw [hst.out])
          have hb3 := app_below (hr.out.alloc_ _) hgrow (by simp; omega)
          have H3 := Lib.hid (show Below w.heap.size w w3 from (bl_alloc zw _ hb.out).trans hb3)
          clear hown hgrow hb3
          go_wp2_with fail
          refine ⟨?_, ?_⟩
          · first
              | ((repeat apply Exists.intro); (refine ⟨?_, rfl⟩); exact ⟨(k + 1 : Nat), HLE.out, by go_num, by rw [hd3.out], hr3, H3⟩)
              | exact ⟨(k + 1 : Nat), HLE.out, by go_num, by rw [hd3.out], hr3, H3⟩
          · simp [intOf]; omega
      | false =>
        by_cases hc1 : x < n
        · have hst := Lib.hid (show putSt xs n (k + 1) = (false, ys ++ [x]) by rw [HST.out, if_neg (by simp), if_pos hc1])
          have hc1' : ¬ n ≤ x := by omega
          clear HST
          go_wp2_with (first | (at_builtin; refine wpList_append_own _ rfl _ _ 22 rfl w.heap.size 2 i0 (.int .i64 0) 1 8 Try.underlying22 HI.out HZ0.out HZ1.out HZ2.out rfl (by decide) _ _ _ rfl (hr.out.alloc_ _) ⟨wr.heap.size, 0, none⟩ 1 1 [.int .i64 x] rfl rfl ?c1b ?c2b ?c3b ?c4b ?c5b ?_))
          try case c1b =>
            intro j u hj
            match j, hj with
            | 0, hj => simp at hj; subst hj; simp [Addr.add]
          try case c2b => first | rfl | (intro u hu; simp at hu; subst hu; rfl)
          try case c3b => unfold maxLen; (try simp); omega
          try case c4b => (try simp); omega
          try case c5b => first | omega | (simp; omega)
          · intro v' w3 hown hgrow _
            have hr3 : Hid (Row 2 w3 w.heap.size v' (putSt xs n (k + 1)).2) := by
              show Row _ _ _ _ _
              rw [hst.out]
              first | exact app_row rfl hown | exact app_row rfl (by simpa using hown)
            have hd3 := Lib.hid (show (putSt xs n (k + 1)).1 = false by rw [hst.out])
            have hb3 := app_below (hr.out.alloc_ _) hgrow (by simp; omega)
            have H3 := Lib.hid (show Below w.heap.size w w3 from (bl_alloc zw _ hb.out).trans hb3)
            clear hown hgrow hb3
            go_wp2_with fail
            refine ⟨?_, ?_⟩
            · first
                | ((repeat apply Exists.intro); (refine ⟨?_, rfl⟩); exact ⟨(k + 1 : Nat), HLE.out, by go_num, by rw [hd3.out], hr3, H3⟩)
                | exact ⟨(k + 1 : Nat), HLE.out, by go_num, by rw [hd3.out], hr3, H3⟩
            · simp [intOf]; omega
        · by_cases hc2 : n < x
          · have hst := Lib.hid (show putSt xs n (k + 1) = (true, ys ++ [n] ++ [x]) by rw [HST.out, if_neg (by simp), if_neg hc1, if_pos hc2])
            have hc1' : n ≤ x := by omega
            clear HST
            go_wp2_with (first | (at_builtin; refine wpList_append_own _ rfl _ _ 22 rfl w.heap.size 2 i0 (.int .i64 0) 1 8 Try.underlying22 HI.out HZ0.out HZ1.out HZ2.out rfl (by decide) _ _ _ rfl (hr.out.alloc_ _) ⟨wr.heap.size, 0, none⟩ 1 1 [.int .i64 n] rfl rfl ?c1c ?c2c ?c3c ?c4c ?c5c ?_))
            try case c1c =>
              intro j u hj
              match j, hj with
              | 0, hj => simp at hj; subst hj; simp [Addr.add]
            try case c2c => first | rfl | (intro u hu; simp at hu; subst hu; rfl)
            try case c3c => unfold maxLen; (try simp); omega
            try case c4c => (try simp); omega
            try case c5c => first | omega | (simp; omega)
            intro v2 w2 hown hgrow _
            have hr2 : Hid (Row 2 w2 w.heap.size v2 (ys ++ [n])) := by
              show Row _ _ _ _ _
              exact app_row rfl hown
            have hb2 := app_below (hr.out.alloc_ _) hgrow (by simp; omega)
            have HQ := Lib.hid (show Below w.heap.size w w2 from (bl_alloc zw _ hb.out).trans hb2)
            have zq := HQ.out.size
            have ck2 := (HQ.out.cell (p := ⟨g, k, none⟩) gl).trans (HC.out k hlt)
            rw [HXX.out] at ck2
            have hl3 : (ys ++ [n]).length ≤ 2001 := by simp; omega
            clear hown hgrow hb2 hr ck
            go_wp2_with (first | (at_builtin; refine wpList_append_own _ rfl _ _ 22 rfl w.heap.size 2 i0 (.int .i64 0) 1 8 Try.underlying22 HI.out HZ0.out HZ1.out HZ2.out rfl (by decide) _ _ _ rfl (hr2.out.alloc_ _) ⟨w2.heap.size, 0, none⟩ 1 1 [.int .i64 x] rfl rfl ?c1d ?c2d ?c3d ?c4d ?c5d ?_))
            try case c1d =>
              intro j u hj
              match j, hj with
              | 0, hj => simp at hj; subst hj; simp [Addr.add]
            try case c2d => first | rfl | (intro u hu; simp at hu; subst hu; rfl)
            try case c3d => unfold maxLen; (try simp); omega
            try case c4d => (try simp); omega
            try case c5d => first | omega | (simp; omega)
            · intro v' w3 hown hgrow _
              have hr3 : Hid (Row 2 w3 w.heap.size v' (putSt xs n (k + 1)).2) := by
                show Row _ _ _ _ _
                rw [hst.out]
                first | exact app_row rfl hown | exact app_row rfl (by simpa using hown)
              have hd3 := Lib.hid (show (putSt xs n (k + 1)).1 = true by rw [hst.out])
              have hb3 := app_below (hr2.out.alloc_ _) hgrow (by simp; omega)
              have H3 := Lib.hid (show Below w.heap.size w w3 from (bl_alloc zq _ HQ.out).trans hb3)
              clear hown hgrow hb3
              go_wp2_with fail
              refine ⟨?_, ?_⟩
              · first
                  | ((repeat apply Exists.intro); (refine ⟨?_, rfl⟩); exact ⟨(k + 1 : Nat), HLE.out, by go_num, by rw [hd3.out], hr3, H3⟩)
                  | exact ⟨(k + 1 : Nat), HLE.out, by go_num, by rw [hd3.out], hr3, H3⟩
              · simp [intOf]; omega
          · have hst := Lib.hid (show putSt xs n (k + 1) = (true, ys ++ [x]) by rw [HST.out, if_neg (by simp), if_neg hc1, if_neg hc2])
            have hc1' : n ≤ x := by omega
            clear HST
            go_wp2_with (first | (at_builtin; refine wpList_append_own _ rfl _ _ 22 rfl w.heap.size 2 i0 (.int .i64 0) 1 8 Try.underlying22 HI.out HZ0.out HZ1.out HZ2.out rfl (by decide) _ _ _ rfl (hr.out.alloc_ _) ⟨wr.heap.size, 0, none⟩ 1 1 [.int .i64 x] rfl rfl ?c1e ?c2e ?c3e ?c4e ?c5e ?_))
            try case c1e =>
              intro j u hj
              match j, hj with
              | 0, hj => simp at hj; subst hj; simp [Addr.add]
            try case c2e => first | rfl | (intro u hu; simp at hu; subst hu; rfl)
            try case c3e => unfold maxLen; (try simp); omega
            try case c4e => (try simp); omega
            try case c5e => first | omega | (simp; omega)
            · intro v' w3 hown hgrow _
              have hr3 : Hid (Row 2 w3 w.heap.size v' (putSt xs n (k + 1)).2) := by
                show Row _ _ _ _ _
                rw [hst.out]
                first | exact app_row rfl hown | exact app_row rfl (by simpa using hown)
              have hd3 := Lib.hid (show (putSt xs n (k + 1)).1 = true by rw [hst.out])
              have hb3 := app_below (hr.out.alloc_ _) hgrow (by simp; omega)
              have H3 := Lib.hid (show Below w.heap.size w w3 from (bl_alloc zw _ hb.out).trans hb3)
              clear hown hgrow hb3
              go_wp2_with fail
              refine ⟨?_, ?_⟩
              · first
                  | ((repeat apply Exists.intro); (refine ⟨?_, rfl⟩); exact ⟨(k + 1 : Nat), HLE.out, by go_num, by rw [hd3.out], hr3, H3⟩)
                  | exact ⟨(k + 1 : Nat), HLE.out, by go_num, by rw [hd3.out], hr3, H3⟩
              · simp [intOf]; omega
    · obtain rfl : k = N := by omega
      obtain ⟨dn, hdn⟩ : ∃ d, d = (putSt xs n k).1 := ⟨_, rfl⟩
      obtain ⟨ys, hys⟩ : ∃ y, y = (putSt xs n k).2 := ⟨_, rfl⟩
      rw [← hdn, ← hys] at HEND
      rw [← hys] at hr hls
      rw [← hdn]
      clear hdn hys
      cases dn with
      | true =>
        have he := Lib.hid (show putL xs n = ys by rw [HEND.out, if_pos rfl])
        have hform : ∃ A m c, u5 = .slice A m c := by rcases hr.out.forms with ⟨rfl, _⟩ | ⟨g2, cap2, rfl, _⟩ <;> exact ⟨_, _, _, rfl⟩
        obtain ⟨A, m, c, rfl⟩ := hform
        go_wp2_with fail
        go_ret
        exact ⟨A, m, c, rfl, by rw [he.out]; exact hr.out, hb.out⟩
      | false =>
        have he := Lib.hid (show putL xs n = ys ++ [n] by rw [HEND.out, if_neg (by simp)])
        have hl2 : ys.length ≤ 2000 := by omega
        clear hls
        go_wp2_with (first | (at_builtin; refine wpList_append_own _ rfl _ _ 22 rfl w.heap.size 2 i0 (.int .i64 0) 1 8 Try.underlying22 HI.out HZ0.out HZ1.out HZ2.out rfl (by decide) _ _ _ rfl (hr.out.alloc_ _) ⟨wr.heap.size, 0, none⟩ 1 1 [.int .i64 n] rfl rfl ?c1f ?c2f ?c3f ?c4f ?c5f ?_))
        try case c1f =>
          intro j u hj
          match j, hj with
          | 0, hj => simp at hj; subst hj; simp [Addr.add]
        try case c2f => first | rfl | (intro u hu; simp at hu; subst hu; rfl)
        try case c3f => unfold maxLen; (try simp); omega
        try case c4f => (try simp); omega
        try case c5f => first | omega | (simp; omega)
        intro v2 w2 hown hgrow _
        have hr2 : Hid (Row 2 w2 w.heap.size v2 (ys ++ [n])) := by
          show Row _ _ _ _ _
          exact app_row rfl hown
        have hb2 := app_below (hr.out.alloc_ _) hgrow (by simp; omega)
        have HQ := Lib.hid (show Below w.heap.size w w2 from (bl_alloc zw _ hb.out).trans hb2)
        clear hown hgrow hb2 hr
        have hform : ∃ A m c, v2 = .slice A m c := by rcases hr2.out.forms with ⟨rfl, _⟩ | ⟨g2, cap2, rfl, _⟩ <;> exact ⟨_, _, _, rfl⟩
        obtain ⟨A, m, c, rfl⟩ := hform
        go_wp2_with fail
        go_ret
        exact ⟨A, m, c, rfl, by rw [he.out]; exact hr2.out, HQ.out⟩
end Go.Proofs.Ytgbehaapmnmifaa
