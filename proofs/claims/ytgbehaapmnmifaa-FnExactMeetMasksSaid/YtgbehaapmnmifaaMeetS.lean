/-
  Two masks met: the reference's. The conditions are the hypotheses.
-/
import Derived.Test.YtgbehaapmnmifaaRows
import Derived.Test.YtgbehaapmnmifaaLib
import Derived.Test.YtgbehaapmnmifaaInts
import Derived.Test.YtgbehaapmnmifaaOwn
import Derived.Test.YtgbehaapmnmifaaMeetP
import Derived.Test.YtgbehaapmnmifaaMeetM
import Derived.Test.YtgbehaapmnmifaaPut
import Derived.Test.YtgbehaapmnmifaaMaskB
import Derived.Test.YtgbehaapmnmifaaMaskS
import Derived.Test.YtgbehaapmnmifaaLoss
import Derived.Test.YtgbehaapmnmifaaMinMax
import Derived.Test.YtgbehaapmnmifaaField
import Derived.Test.YtgbehaapmnmifaaMk
import Derived.Test.YtgbehaapmnmifaaCat
import Derived.Shelf.Abstract
import Derived.OwnWalk
import Derived.Outline
import Derived.Deep.AppendLies
import Derived.Deep.RegionLaw
import Derived.Laws.Cover1
import Derived.Deep.DeepCutAuto
import Derived.Deep.DeepCutAuto
import Derived.Deep.QuietTactic
import Derived.BigQuiet
import Derived.Deep.RegionHeld3
import Derived.Deep.DrawnRows
namespace Go.Proofs.Ytgbehaapmnmifaa
open Go.RowKit
set_option linter.unusedSimpArgs false
set_option linter.unusedVariables false
attribute [local go_sem ↓] Go.wp_at_zero Go.wp_at_succ
theorem cell_heap {W V : World} (h : W.heap = V.heap) (a : Addr) : W.cell? a = V.cell? a := by unfold World.cell?; rw [h]
theorem heap_dN (w : World) (n : Nat) : (w.drewN n).heap = w.heap := rfl
theorem heap_d (w : World) : w.drew.heap = w.heap := rfl
theorem Row.owns {e : TypeId} {w : World} {b n : Nat} {v : Value} {xs : List Int} (hn : xs.length = n) (h : Row e w b v xs) : w.ownsRow b e 1 v n (xs.map (Value.int .i64)) := by
  subst hn
  exact h
theorem two_bools (b : Bool) : b = true ∨ b = false := by cases b <;> simp
theorem getD_get {α : Type} (l : List α) (d : α) {k : Nat} (h : k < l.length) : l.getD k d = l[k] := by simp [List.getD, h]
theorem zip_getD {xs ys : List Int} (h : ys.length = xs.length) {k : Nat} (hk : k < xs.length) : (xs.zip ys).getD k (0, 0) = (xs.getD k 0, ys.getD k 0) := by
  have h1 : k < (xs.zip ys).length := by rw [List.length_zip]; omega
  have h2 : k < ys.length := by omega
  rw [getD_get _ _ h1, getD_get _ _ hk, getD_get _ _ h2, List.getElem_zip]
/-- What a valid mask's two rows give as a table. -/
theorem mask_tab {xs ys : List Int} (h : maskB xs ys = true) {w : World} {a b : Value} {p q : Nat} (ha : Row 2 w p a xs) (hb : Row 2 w q b ys) :
    ∃ (n ga ca gb cb : Nat), a = .slice (some ⟨ga, 0, none⟩) n ca ∧ b = .slice (some ⟨gb, 0, none⟩) n cb ∧ (xs.zip ys).length = n ∧ 2 ≤ n ∧ n ≤ 12 ∧ (∀ r ∈ xs.zip ys, Mid r.1 ∧ Mid r.2) ∧
      (∀ k, k + 1 < n → ((xs.zip ys).getD k (0, 0)).1 < ((xs.zip ys).getD (k + 1) (0, 0)).1) ∧
      (∀ k, k < n → w.cell? ⟨ga, k, none⟩ = some (.int .i64 ((xs.zip ys).getD k (0, 0)).1) ∧ w.cell? ⟨gb, k, none⟩ = some (.int .i64 ((xs.zip ys).getD k (0, 0)).2)) := by
  obtain ⟨n2, n12, hl, _, _, hr, hs⟩ := mask_parts h
  rcases ha.forms with ⟨_, h0⟩ | ⟨ga, ca, rfl, _, la, hc, _⟩
  · rw [h0] at n2; simp at n2
  rcases hb.forms with ⟨_, h0⟩ | ⟨gb, cb, rfl, _, lb, hd, _⟩
  · rw [h0] at hl; simp at hl; omega
  refine ⟨xs.length, ga, ca, gb, cb, rfl, by rw [hl], by rw [List.length_zip]; omega, n2, n12, ?_, ?_, ?_⟩
  · intro r hm
    obtain ⟨k, hk, rfl⟩ := List.getElem_of_mem hm
    have hk' : k < xs.length := by rw [List.length_zip] at hk; omega
    have e : (xs.zip ys)[k] = (xs.getD k 0, ys.getD k 0) := by rw [← zip_getD hl hk', getD_get _ _ hk]
    rw [e]
    have h1 := (hr k hk').1
    have h2 := (hs k (by omega)).1
    exact ⟨⟨by show -2000000 ≤ xs.getD k 0; omega, by show xs.getD k 0 ≤ 2000000; omega⟩, ⟨by show -2000000 ≤ ys.getD k 0; omega, by show ys.getD k 0 ≤ 2000000; omega⟩⟩
  · intro k hk
    rw [zip_getD hl (by omega), zip_getD hl hk]
    have := (hr (k + 1) hk).2 (by omega)
    simpa using this
  · intro k hk
    rw [zip_getD hl hk]
    exact ⟨hc k hk, hd k (by omega)⟩
set_option maxRecDepth 20000 in
set_option maxHeartbeats 4000000 in
theorem specMeet_bad (w : World) (a : Value) (xs : List Int) (p : Nat) (ha : Row 2 w p a xs) (b : Value) (ys : List Int) (q : Nat) (hb : Row 2 w q b ys) (a2 : Value) (us : List Int) (p2 : Nat) (ha2 : Row 2 w p2 a2 us) (b2 : Value) (vs : List Int) (q2 : Nat) (hb2 : Row 2 w q2 b2 vs) (h : maskB xs ys = false ∨ maskB us vs = false) :
    Calls Try.prog 5 #[.agg #[a, b], .agg #[a2, b2]] w fun e w' => ∃ A0 n0 c0 A1 n1 c1, e = .returned (.tuple #[.agg #[.slice A0 n0 c0, .slice A1 n1 c1], .int .i64 (mtC xs ys us vs)]) ∧ Row 2 w' w.heap.size (.slice A0 n0 c0) (mtF xs ys us vs) ∧ Row 2 w' w.heap.size (.slice A1 n1 c1) (mtL xs ys us vs) ∧ Apart (.slice A0 n0 c0) (.slice A1 n1 c1) ∧ Below w.heap.size w w' := by
  obtain ⟨e1, e2, e3⟩ := mt_bad h
  rw [e1, e2, e3]
  have HA := Lib.hid ha
  have HB := Lib.hid hb
  have HA2 := Lib.hid ha2
  have HB2 := Lib.hid hb2
  clear ha hb ha2 hb2 e1 e2 e3
  go_enter Try.func5, Try.ntmps5
  go_wp2_with fail
  rcases two_bools (maskB xs ys) with h1 | h1
  rotate_left
  · have HE := Lib.hid h1
    clear h1 h
    refine (l08Ok_any _ _ a xs p (((HA.out.alloc_ _).alloc_ _).alloc_ _) b ys q (((HB.out.alloc_ _).alloc_ _).alloc_ _) (by simp [go_sem]) (by simp [go_sem])).mono ?_
    rintro e w1 ⟨he, k, rfl⟩
    rw [HE.out] at he
    subst he
    go_wp2_with fail
    refine bodyPost_ret (v := .tuple #[.agg #[.slice none 0 0, .slice none 0 0], .int .i64 1]) (by simp [results, Try.results5, go_sem, *]) rfl ?_
    exact ⟨_, _, _, _, _, _, rfl, Row.nil_, Row.nil_, (fun g h _ => by simp [Value.ownBlock] at h), by repeat (first | (with_reducible exact Below.refl _ _) | (with_reducible assumption) | ((with_reducible refine bl_alloc ?_ _ ?_); (focus ((first | omega | (simp <;> omega)); done))) | ((with_reducible refine bl_set ?_ _ ?_); (focus ((first | omega | (simp <;> omega)); done))) | (with_reducible refine below_drewN ?_ _) | (with_reducible refine Below.drew ?_))⟩
  · have h2 : maskB us vs = false := by rcases h with h | h; (rw [h1] at h; cases h); exact h
    have HE := Lib.hid h1
    have HE2 := Lib.hid h2
    clear h1 h2 h
    refine (l08Ok_any _ _ a xs p (((HA.out.alloc_ _).alloc_ _).alloc_ _) b ys q (((HB.out.alloc_ _).alloc_ _).alloc_ _) (by simp [go_sem]) (by simp [go_sem])).mono ?_
    rintro e w1 ⟨he, k, rfl⟩
    rw [HE.out] at he
    subst he
    go_wp2_with fail
    refine (l08Ok_any _ _ a2 us p2 ((((HA2.out.alloc_ _).alloc_ _).alloc_ _).drewN _) b2 vs q2 ((((HB2.out.alloc_ _).alloc_ _).alloc_ _).drewN _) (by simp [go_sem]) (by simp [go_sem])).mono ?_
    rintro e w2 ⟨he, k2, rfl⟩
    rw [HE2.out] at he
    subst he
    go_wp2_with fail
    refine bodyPost_ret (v := .tuple #[.agg #[.slice none 0 0, .slice none 0 0], .int .i64 1]) (by simp [results, Try.results5, go_sem, *]) rfl ?_
    exact ⟨_, _, _, _, _, _, rfl, Row.nil_, Row.nil_, (fun g h _ => by simp [Value.ownBlock] at h), by repeat (first | (with_reducible exact Below.refl _ _) | (with_reducible assumption) | ((with_reducible refine bl_alloc ?_ _ ?_); (focus ((first | omega | (simp <;> omega)); done))) | ((with_reducible refine bl_set ?_ _ ?_); (focus ((first | omega | (simp <;> omega)); done))) | (with_reducible refine below_drewN ?_ _) | (with_reducible refine Below.drew ?_))⟩
set_option maxRecDepth 20000 in
set_option maxHeartbeats 16000000 in
theorem specMeet_good (w : World) (a : Value) (xs : List Int) (p : Nat) (ha : Row 2 w p a xs) (b : Value) (ys : List Int) (q : Nat) (hb : Row 2 w q b ys) (a2 : Value) (us : List Int) (p2 : Nat) (ha2 : Row 2 w p2 a2 us) (b2 : Value) (vs : List Int) (q2 : Nat) (hb2 : Row 2 w q2 b2 vs) (h1 : maskB xs ys = true) (h2 : maskB us vs = true) :
    Calls Try.prog 5 #[.agg #[a, b], .agg #[a2, b2]] w fun e w' => ∃ A0 n0 c0 A1 n1 c1, e = .returned (.tuple #[.agg #[.slice A0 n0 c0, .slice A1 n1 c1], .int .i64 (mtC xs ys us vs)]) ∧ Row 2 w' w.heap.size (.slice A0 n0 c0) (mtF xs ys us vs) ∧ Row 2 w' w.heap.size (.slice A1 n1 c1) (mtL xs ys us vs) ∧ Apart (.slice A0 n0 c0) (.slice A1 n1 c1) ∧ Below w.heap.size w w' := by
  have HA := Lib.hid ha
  have HB := Lib.hid hb
  have HA2 := Lib.hid ha2
  have HB2 := Lib.hid hb2
  obtain ⟨n, ga, ca, gb, cb, rfl, rfl, n1, n2, n3, hm, hr, hc⟩ := mask_tab h1 ha hb
  obtain ⟨m, gc, cc, gd, cd, rfl, rfl, m1, m2, m3, hm2, hr2, hc2⟩ := mask_tab h2 ha2 hb2
  have HN1 := Lib.hid n1
  have HM := Lib.hid hm
  have HR := Lib.hid hr
  have HC := Lib.hid hc
  have HN2 := Lib.hid m1
  have HM2 := Lib.hid hm2
  have HR2 := Lib.hid hr2
  have HC2 := Lib.hid hc2
  have hX := row_at ha
  have hY := row_at ha2
  have LX := Lib.hid hX.1
  have LY := Lib.hid hY.1
  have HCY := Lib.hid hY.2.2
  have lc := hY.2.1
  have la := hX.2.1
  have lb := (row_at hb).2.1
  have ld := (row_at hb2).2.1
  obtain ⟨i0, hi, hz0, hz1, hz2⟩ := info_parts Try.info_i64
  have HI := Lib.hid hi
  have HZ0 := Lib.hid hz0
  have HZ1 := Lib.hid hz1
  have HZ2 := Lib.hid hz2
  clear hi hz0 hz1 hz2
  have HE := Lib.hid h1
  have HE2 := Lib.hid h2
  have HAT := Lib.hid (fun k (h : k < (meetL xs us).length) => meet_at h1 h2 h)
  have HML := Lib.hid (meetL_len (xs := xs) (ys := us))
  clear h1 h2 ha hb ha2 hb2 n1 hm hr hc m1 hm2 hr2 hc2 hX hY
  go_enter Try.func5, Try.ntmps5
  go_wp2_with fail
  refine (l08Ok_any _ _ _ xs p (((HA.out.alloc_ _).alloc_ _).alloc_ _) _ ys q (((HB.out.alloc_ _).alloc_ _).alloc_ _) (by simp [go_sem]) (by simp [go_sem])).mono ?_
  rintro e w1 ⟨he, k1, rfl⟩
  rw [HE.out] at he
  subst he
  go_wp2_with fail
  refine (l08Ok_any _ _ _ us p2 ((((HA2.out.alloc_ _).alloc_ _).alloc_ _).drewN _) _ vs q2 ((((HB2.out.alloc_ _).alloc_ _).alloc_ _).drewN _) (by simp [go_sem]) (by simp [go_sem])).mono ?_
  rintro e w2 ⟨he, k2, rfl⟩
  rw [HE2.out] at he
  subst he
  go_wp2_with fail
  obtain ⟨W0, hW0⟩ : ∃ W, W = (((w.alloc (.cells #[.slice (some ⟨ga, 0, none⟩) n ca, .slice (some ⟨gb, 0, none⟩) n cb] 26)).alloc (.cells #[.slice (some ⟨gc, 0, none⟩) m cc, .slice (some ⟨gd, 0, none⟩) m cd] 26)).alloc (.cells #[.slice none 0 0, .slice none 0 0] 26)).drewN (k1 + k2) := ⟨_, rfl⟩
  rw [← hW0]
  have HW0 := Lib.hid (show Below w.heap.size w W0 by rw [hW0]; repeat (first | (with_reducible exact Below.refl _ _) | (with_reducible assumption) | ((with_reducible refine bl_alloc ?_ _ ?_); (focus ((first | omega | (simp <;> omega)); done))) | ((with_reducible refine bl_set ?_ _ ?_); (focus ((first | omega | (simp <;> omega)); done))) | (with_reducible refine below_drewN ?_ _) | (with_reducible refine Below.drew ?_)))
  have lW : W0.heap.size = w.heap.size + 3 := by rw [hW0]; simp [go_sem]
  have s0 : W0.cell? ⟨w.heap.size, 0, none⟩ = some (.slice (some ⟨ga, 0, none⟩) n ca) := by rw [hW0]; simp [go_sem]
  have s1 : W0.cell? ⟨w.heap.size, 1, none⟩ = some (.slice (some ⟨gb, 0, none⟩) n cb) := by rw [hW0]; simp [go_sem]
  have s2 : W0.cell? ⟨w.heap.size + 1, 0, none⟩ = some (.slice (some ⟨gc, 0, none⟩) m cc) := by rw [hW0]; simp [go_sem]
  have s3 : W0.cell? ⟨w.heap.size + 1, 1, none⟩ = some (.slice (some ⟨gd, 0, none⟩) m cd) := by rw [hW0]; simp [go_sem]
  have SR0 : Hid (SInv W0 (w.heap.size + 2) [.slice none 0 0, .slice none 0 0]) := by
    show SInv _ _ _
    rw [hW0]
    have h := SInv.fresh ((w.alloc (.cells #[.slice (some ⟨ga, 0, none⟩) n ca, .slice (some ⟨gb, 0, none⟩) n cb] 26)).alloc (.cells #[.slice (some ⟨gc, 0, none⟩) m cc, .slice (some ⟨gd, 0, none⟩) m cd] 26)) #[.slice none 0 0, .slice none 0 0] 26
    have e : ((w.alloc (.cells #[.slice (some ⟨ga, 0, none⟩) n ca, .slice (some ⟨gb, 0, none⟩) n cb] 26)).alloc (.cells #[.slice (some ⟨gc, 0, none⟩) m cc, .slice (some ⟨gd, 0, none⟩) m cd] 26)).heap.size = w.heap.size + 2 := by simp
    rw [e] at h
    exact h.draw _
  clear hW0
  refine (l00Own_any W0 _ xs p (HA.out.later HW0.out) (by rw [LX.out]; omega) (by rw [LX.out]; omega)).mono ?_
  rintro e V0 ⟨A, n', c, rfl, hr0, hb0⟩
  have H1 := Lib.hid (show Below w.heap.size w V0 from HW0.out.trans (hb0.mono HW0.out.size))
  have R0 := Lib.hid (Row.base_le (b' := w.heap.size + 3) hr0 (by omega))
  have SR1 := Lib.hid (SR0.out.later hb0)
  have z1 := hb0.size
  have t0 := keeps hb0 s0
  have t1 := keeps hb0 s1
  have t2 := keeps hb0 s2
  have t3 := keeps hb0 s3
  clear hr0 hb0 SR0 s0 s1 s2 s3
  go_wp2_with fail
  go_loopw [6, 7] (fun s i wr => ∃ k : Nat, k ≤ m ∧ i = .int .i64 (k : Int) ∧ Hid (Row 2 wr (w.heap.size + 3) s (meetL xs (us.take k))) ∧ Hid (Below V0.heap.size V0 wr)) (fun _ i _ => m + 1 - (intOf i).toNat)
  case atStart => exact ⟨0, Nat.zero_le _, rfl, R0, (show Below _ _ _ by repeat (first | (with_reducible exact Below.refl _ _) | (with_reducible assumption) | ((with_reducible refine bl_alloc ?_ _ ?_); (focus ((first | omega | (simp <;> omega)); done))) | ((with_reducible refine bl_set ?_ _ ?_); (focus ((first | omega | (simp <;> omega)); done))) | (with_reducible refine below_drewN ?_ _) | (with_reducible refine Below.drew ?_)))⟩
  case round =>
    obtain ⟨k, hk, rfl, hr, hb⟩ := hrel
    have k0 : (0 : Int) ≤ (k : Int) := Int.natCast_nonneg _
    have zw := hb.out.size
    have HL1 := Lib.hid (meetL_len (xs := xs) (ys := us.take k))
    have v0 := keeps hb.out t0
    have v1 := keeps hb.out t1
    have v2 := keeps hb.out t2
    have v3 := keeps hb.out t3
    by_cases hlt : k < m
    · have hlt' : (k : Int) < (m : Int) := by omega
      have ck := (hb.out.cell (p := ⟨gc, k, none⟩) (by show gc < _; omega)).trans ((H1.out.cell (p := ⟨gc, k, none⟩) lc).trans (HCY.out k hlt))
      have hst := Lib.hid (meetL_take (xs := xs) (ys := us) (k := k) (by rw [LY.out]; exact hlt))
      obtain ⟨x, hx⟩ : ∃ x, x = us.getD k 0 := ⟨_, rfl⟩
      rw [← hx] at ck hst
      obtain ⟨zs, hzs⟩ : ∃ z, z = meetL xs (us.take k) := ⟨_, rfl⟩
      rw [← hzs] at hr hst HL1
      have hl1 : 0 < zs.length ∧ zs.length ≤ 24 := by have h := HL1.out; have h2 := LX.out; rw [List.length_take, LY.out] at h; omega
      have HLE := Lib.hid (show k + 1 ≤ m by omega)
      clear hx hzs
      go_wp2_with fail
      refine (l00Put_any wr _ zs _ hr.out hl1.1 (by omega) x).mono ?_
      rintro e w4 ⟨A4, n4, c4, rfl, hr4, hb4⟩
      have R4 : Hid (Row 2 w4 (w.heap.size + 3) (.slice A4 n4 c4) (meetL xs (us.take (k + 1)))) := by
        show Row _ _ _ _ _
        rw [hst.out]
        exact Row.base_le hr4 (by omega)
      have H4 := Lib.hid (show Below V0.heap.size V0 w4 from hb.out.trans (hb4.mono hb.out.size))
      clear hr4 hb4
      go_wp2_with fail
      refine ⟨?_, ?_⟩
      · first
          | ((repeat apply Exists.intro); (refine ⟨?_, rfl⟩); exact ⟨(k + 1 : Nat), HLE.out, by go_num, R4, H4⟩)
          | exact ⟨(k + 1 : Nat), HLE.out, by go_num, R4, H4⟩
      · simp [intOf]; omega
    · have hkm : k = m := by omega
      have htk : us.take k = us := List.take_of_length_le (by rw [LY.out, hkm]; exact Nat.le_refl _)
      rw [htk] at hr
      have hl1 : 2 ≤ (meetL xs us).length ∧ (meetL xs us).length ≤ 24 := by have h := HML.out; have h2 := LX.out; have h3 := LY.out; omega
      clear HL1 htk hkm
      have HBAD := Lib.hid (fun h => mt_full (xs := xs) (ys := ys) (us := us) (vs := vs) HE.out HE2.out h)
      have HYES := Lib.hid (fun h => mt_yes (xs := xs) (ys := ys) (us := us) (vs := vs) HE.out HE2.out h)
      obtain ⟨zs, hzs⟩ : ∃ z, z = meetL xs us := ⟨_, rfl⟩
      rw [← hzs] at hr hl1 HAT HBAD HYES
      clear hzs HML
      obtain ⟨N, hN⟩ : ∃ N, N = zs.length := ⟨_, rfl⟩
      have HLZ := Lib.hid hN.symm
      rcases hr.out.forms with ⟨_, hz⟩ | ⟨g, cap, rfl, gb0, gl, hcz, _⟩
      · rw [hz] at hl1; simp at hl1
      have HCZ := Lib.hid hcz
      rw [← hN] at hl1 HAT HBAD HYES HCZ hr ⊢
      clear hN hcz
      have HMT := Lib.hid (fun j (h : j < N) => mtL_take (xs := xs) (ys := ys) (us := us) (vs := vs) (zs := zs) (k := j) (by rw [HLZ.out]; exact h))
      have HLM := Lib.hid (show (zs.map (mtV xs ys us vs)).length = N by rw [List.length_map]; exact HLZ.out)
      have HMV : Hid (∀ o, mtV xs ys us vs o = max (tabAt (absV o) (xs.zip ys)) (tabAt (absV o) (us.zip vs))) := fun o => rfl
      obtain ⟨MT, hMT⟩ : ∃ M, M = zs.map (mtV xs ys us vs) := ⟨_, rfl⟩
      rw [← hMT] at HLM HMT HYES
      clear hMT
      rename World => V1
      have HBV := Lib.hid (show Below w.heap.size w V1 from H1.out.trans (hb.out.mono H1.out.size))
      have RZ := hr
      have SRV := Lib.hid (SR1.out.later hb.out)
      have l3 : w.heap.size + 3 ≤ V1.heap.size := by omega
      clear hr SR1 hb R0
      go_wp2_with fail
      go_loopw [9] (fun i wr => ∃ (j : Nat) (t : Value), j ≤ N ∧ i = .int .i64 (j : Int) ∧ Hid (SInv wr V1.heap.size [.slice (some ⟨g, 0, none⟩) N cap, t]) ∧ Hid (Row 2 wr (V1.heap.size + 1) t (MT.take j)) ∧ Hid (t.ownBlock ≠ some V1.heap.size) ∧ Hid (Below V1.heap.size V1 wr)) (fun i _ => N + 1 - (intOf i).toNat)
      case atStart => exact ⟨0, .slice none 0 0, Nat.zero_le _, rfl, (show SInv _ _ _ from SInv.fresh _ _ _), (show Row _ _ _ _ _ from Row.nil_), (show _ ≠ _ by simp [Value.ownBlock]), (show Below _ _ _ by repeat (first | (with_reducible exact Below.refl _ _) | (with_reducible assumption) | ((with_reducible refine bl_alloc ?_ _ ?_); (focus ((first | omega | (simp <;> omega)); done))) | ((with_reducible refine bl_set ?_ _ ?_); (focus ((first | omega | (simp <;> omega)); done))) | (with_reducible refine below_drewN ?_ _) | (with_reducible refine Below.drew ?_)))⟩
      case round =>
        obtain ⟨j, t, hj, rfl, hs, hr, hne, hbw⟩ := hrel
        have j0 : (0 : Int) ≤ (j : Int) := Int.natCast_nonneg _
        have zO : V1.heap.size < wr.heap.size := hs.out.lt
        by_cases hlt : j < N
        · have hlt' : (j : Int) < (N : Int) := by omega
          have HLE := Lib.hid (show j + 1 ≤ N by omega)
          have y2 := hs.out.cell 1 _ rfl
          have yA : ∀ (n : Nat) (o : Obj), ((wr.drewN n).alloc o).cell? ⟨V1.heap.size, 1, none⟩ = some t := fun n o => cell_alloc (w := wr.drewN n) y2 o
          have yB : ∀ o : Obj, (wr.alloc o).cell? ⟨V1.heap.size, 1, none⟩ = some t := fun o => cell_alloc y2 o
          have ck := (hbw.out.cell (p := ⟨g, j, none⟩) gl).trans (HCZ.out j hlt)
          have BW := Lib.hid (HBV.out.trans (hbw.out.mono HBV.out.size))
          have x0 := keeps hbw.out v0
          have x1 := keeps hbw.out v1
          have x2 := keeps hbw.out v2
          have x3 := keeps hbw.out v3
          obtain ⟨o0, o1⟩ := HAT.out j hlt
          have HCA : Hid (∀ W : World, W.heap = wr.heap → Calls Try.prog 16 #[.pointer (some ⟨w.heap.size, 0, none⟩), .int .i64 (zs.getD j 0)] W fun e w' => e = .returned (.int .i64 (tabAt (absV (zs.getD j 0)) (xs.zip ys))) ∧ ∃ m, w' = W.drewN m) := fun W hW => l08Loss_any (xs.zip ys) _ (by omega) (by omega) _ ga gb n ca cb HN1.out n2 (by omega) HM.out HR.out W ((cell_heap hW _).trans x0) ((cell_heap hW _).trans x1) (fun q hq => ⟨(cell_heap hW _).trans ((BW.out.cell (p := ⟨ga, q, none⟩) la).trans (HC.out q hq).1), (cell_heap hW _).trans ((BW.out.cell (p := ⟨gb, q, none⟩) lb).trans (HC.out q hq).2)⟩)
          have HCB : Hid (∀ W : World, W.heap = wr.heap → Calls Try.prog 16 #[.pointer (some ⟨w.heap.size + 1, 0, none⟩), .int .i64 (zs.getD j 0)] W fun e w' => e = .returned (.int .i64 (tabAt (absV (zs.getD j 0)) (us.zip vs))) ∧ ∃ m, w' = W.drewN m) := fun W hW => l08Loss_any (us.zip vs) _ (by omega) (by omega) _ gc gd m cc cd HN2.out m2 (by omega) HM2.out HR2.out W ((cell_heap hW _).trans x2) ((cell_heap hW _).trans x3) (fun q hq => ⟨(cell_heap hW _).trans ((BW.out.cell (p := ⟨gc, q, none⟩) lc).trans (HC2.out q hq).1), (cell_heap hW _).trans ((BW.out.cell (p := ⟨gd, q, none⟩) ld).trans (HC2.out q hq).2)⟩)
          have hlen : (MT.take j).length = j := by rw [List.length_take, HLM.out]; omega
          have hst := Lib.hid (HMT.out j hlt)
          rw [HMV.out] at hst
          obtain ⟨ws, hws⟩ : ∃ z, z = MT.take j := ⟨_, rfl⟩
          rw [← hws] at hr hlen hst
          obtain ⟨x, hx⟩ : ∃ x, x = zs.getD j 0 := ⟨_, rfl⟩
          rw [← hx] at ck HCA HCB hst o0 o1
          obtain ⟨ka, hka⟩ : ∃ z, z = tabAt (absV x) (xs.zip ys) := ⟨_, rfl⟩
          obtain ⟨kb, hkb⟩ : ∃ z, z = tabAt (absV x) (us.zip vs) := ⟨_, rfl⟩
          rw [← hka] at HCA hst
          rw [← hkb] at HCB hst
          have HCM : Hid (∀ W : World, Calls Try.prog 15 #[.int .i64 ka, .int .i64 kb] W fun e w' => e = .returned (.int .i64 (max ka kb)) ∧ W = w') := fun W => cMax_any W ka kb
          obtain ⟨K, hK⟩ : ∃ z, z = max ka kb := ⟨_, rfl⟩
          rw [← hK] at HCM hst
          clear hws hx hka hkb hK x0 x1 x2 x3
          go_wp2_with fail
          go_region_law (first | (refine step_append_lies _ (by rfl) _ _ _ (by rfl) (V1.heap.size + 1) 2 i0 (.int .i64 0) 1 8 Try.underlying22 HI.out HZ0.out HZ1.out HZ2.out rfl (by omega) t j (ws.map (Value.int .i64)) (by rfl) (Row.owns hlen (hr.out.alloc_ (.cells #[.int .i64 K] 2))) ⟨wr.heap.size, 0, none⟩ 1 1 [.int .i64 K] (by rfl) (by rfl) (World.news_of_block (cs := #[.int .i64 K]) (t := 2) (fr := (0, 0)) (heap_alloc_new wr _)) (by simp [Value.oneCell']) (by omega) (by unfold maxLen; omega) (by omega) (by simp <;> omega) (wr.heap.size + 1) (by simp) ?_; intro g3 cap3 w3 hown hgrow hat hlt3; have q2 := (hgrow.cell_far ⟨V1.heap.size, 1, none⟩ (by simp <;> omega) (fun q => hne.out q.symm)).trans (cell_alloc y2 (.cells #[.int .i64 K] 2)); have qf := (hgrow.frozen_far ⟨V1.heap.size, 1, none⟩ (by simp <;> omega) (fun q => hne.out q.symm)).trans ((hs.out.alloc_ (.cells #[.int .i64 K] 2)).free 1)) | (go_simp; go_at_call 16; ((with_reducible refine (HCA.out _ (by simp only [heap_dN, heap_d])).mono ?_); rintro e wA ⟨rfl, mA, rfl⟩)) | (go_simp; go_at_call 16; ((with_reducible refine (HCB.out _ (by simp only [heap_dN, heap_d])).mono ?_); rintro e wA ⟨rfl, mA, rfl⟩)) | (go_simp; go_at_call 15; ((with_reducible refine (HCM.out _).mono ?_); rintro e wA ⟨rfl, rfl⟩)))
          all_goals
            have hp := push_row 1 (by simp) hs.out hr.out hne.out (by repeat (first | (with_reducible exact Below.refl _ _) | (with_reducible assumption) | ((with_reducible refine bl_alloc ?_ _ ?_); (focus ((first | omega | (simp <;> omega)); done))) | ((with_reducible refine bl_set ?_ _ ?_); (focus ((first | omega | (simp <;> omega)); done))) | (with_reducible refine below_drewN ?_ _) | (with_reducible refine Below.drew ?_))) hgrow hat (by omega) hlen hown
            obtain ⟨p1, p2, p3, p4, p5⟩ := hp
            have P1 := Lib.hid p1
            rw [← hst.out] at p2
            have P2 := Lib.hid p2
            have P3 := Lib.hid p3
            have PB := Lib.hid (show Below V1.heap.size V1 _ from hbw.out.trans (p4.below hbw.out.size (fun b q => by rcases q with q | q; (have := (hr.out.lt _ q).1; omega); omega)))
            clear yA yB y2 hown hgrow p1 p2 p3 p4 p5 q2 qf hat ck
            go_wp2
            refine ⟨?_, ?_⟩
            · first
                | ((repeat apply Exists.intro); (refine ⟨?_, rfl⟩); exact ⟨(j + 1 : Nat), .slice (some ⟨g3, 0, none⟩) (j + 1) cap3, HLE.out, by go_num, P1, P2, P3, PB⟩)
                | exact ⟨(j + 1 : Nat), .slice (some ⟨g3, 0, none⟩) (j + 1) cap3, HLE.out, by go_num, P1, P2, P3, PB⟩
            · first | (simp [intOf]; done) | (simp [intOf]; omega)
        · have hjN : j = N := by omega
          subst hjN
          have hrE : Hid (Row 2 wr (V1.heap.size + 1) t MT) := by
            have h := hr.out
            rw [List.take_of_length_le (by rw [HLM.out]; exact Nat.le_refl _)] at h
            exact h
          have ft : ∃ A n c, t = .slice A n c := by rcases hrE.out.forms with ⟨h, _⟩ | ⟨_, _, h, _⟩ <;> exact ⟨_, _, _, h⟩
          obtain ⟨A1, n1, c1, rfl⟩ := ft
          have RZ2 := Lib.hid (RZ.out.later hbw.out)
          have SZ := Lib.hid (SRV.out.later hbw.out)
          have y0 := hs.out.cell 0 _ rfl
          have y1 := hs.out.cell 1 _ rfl
          have z0 := SZ.out.cell 0 _ rfl
          have z1 := SZ.out.cell 1 _ rfl
          have zf := SZ.out.free
          have zl := SZ.out.lt
          have HBE := Lib.hid (HBV.out.trans (hbw.out.mono HBV.out.size))
          have HAp : Hid (Apart (.slice (some ⟨g, 0, none⟩) j cap) (.slice A1 n1 c1)) := fun b hb1 hq => by have h1 := (hrE.out.lt b hq).1; simp [Value.ownBlock] at hb1; omega
          clear hr hs hbw SRV RZ
          by_cases h12 : j ≤ 12
          · have HYY := Lib.hid (HYES.out h12)
            have h12' : (j : Int) ≤ 12 := by omega
            clear HYES HBAD
            go_wp2_with fail
            refine bodyPost_ret (v := .tuple #[.agg #[.slice (some ⟨g, 0, none⟩) j cap, .slice A1 n1 c1], .int .i64 0]) (by simp [results, Try.results5, go_sem, *]) rfl ?_
            rw [HYY.out.1, HYY.out.2.1, HYY.out.2.2]
            refine ⟨_, _, _, _, _, _, rfl, ?_, ?_, HAp.out, by repeat (first | (with_reducible exact Below.refl _ _) | (with_reducible assumption) | ((with_reducible refine bl_alloc ?_ _ ?_); (focus ((first | omega | (simp <;> omega)); done))) | ((with_reducible refine bl_set ?_ _ ?_); (focus ((first | omega | (simp <;> omega)); done))) | (with_reducible refine below_drewN ?_ _) | (with_reducible refine Below.drew ?_) | ((with_reducible refine bl_trans ?_ HBE.out ?_); (focus ((first | omega | (simp <;> omega)); done))))⟩
            · refine Row.base_le (base := w.heap.size + 3) ?_ (by omega)
              repeat (first | (with_reducible exact RZ2.out) | ((with_reducible refine Row.low ?_ _ ?_); (focus ((first | omega | (simp <;> omega)); done))))
            · refine Row.base_le (base := V1.heap.size + 1) ?_ (by omega)
              repeat (first | (with_reducible exact hrE.out) | ((with_reducible refine Row.low ?_ _ ?_); (focus ((first | omega | (simp <;> omega)); done))))
          · have HYY := Lib.hid (HBAD.out (by omega))
            have h12' : (12 : Int) < (j : Int) := by omega
            clear HYES HBAD
            go_wp2_with fail
            refine bodyPost_ret (v := .tuple #[.agg #[.slice none 0 0, .slice none 0 0], .int .i64 5]) (by simp [results, Try.results5, go_sem, *]) rfl ?_
            rw [HYY.out.1, HYY.out.2.1, HYY.out.2.2]
            exact ⟨_, _, _, _, _, _, rfl, Row.nil_, Row.nil_, (fun g h _ => by simp [Value.ownBlock] at h), by repeat (first | (with_reducible exact Below.refl _ _) | (with_reducible assumption) | ((with_reducible refine bl_alloc ?_ _ ?_); (focus ((first | omega | (simp <;> omega)); done))) | ((with_reducible refine bl_set ?_ _ ?_); (focus ((first | omega | (simp <;> omega)); done))) | (with_reducible refine below_drewN ?_ _) | (with_reducible refine Below.drew ?_) | ((with_reducible refine bl_trans ?_ HBE.out ?_); (focus ((first | omega | (simp <;> omega)); done))))⟩
end Go.Proofs.Ytgbehaapmnmifaa
