/-
  Two masks met: the program's. The conditions are the hypotheses.
-/
import Derived.Test.YtgbehaapmnmifaaRows
import Derived.Test.YtgbehaapmnmifaaLib
import Derived.Test.YtgbehaapmnmifaaInts
import Derived.Test.YtgbehaapmnmifaaOwn
import Derived.Test.YtgbehaapmnmifaaMeetP
import Derived.Test.YtgbehaapmnmifaaMeetM
import Derived.Test.YtgbehaapmnmifaaMaskB
import Derived.Test.YtgbehaapmnmifaaMaskI
import Derived.Test.YtgbehaapmnmifaaLoss
import Derived.Test.YtgbehaapmnmifaaField
import Derived.Test.YtgbehaapmnmifaaMk
import Derived.Test.YtgbehaapmnmifaaCat
import Derived.Test.YtgbehaapmnmifaaSortC
import Derived.Test.YtgbehaapmnmifaaMeetS
import Derived.Shelf.Abstract
import Derived.OwnWalk
import Derived.Outline
import Derived.Deep.AppendLies
import Derived.Deep.RegionLaw
import Derived.Laws.Cover1
import Derived.Deep.DeepCutAuto
import Derived.Deep.DeepCutAuto
import Derived.Deep.QuietTactic
import Derived.BigQuiet
import Derived.Deep.RegionHeld3
import Derived.Deep.DrawnRows
namespace Go.Proofs.Ytgbehaapmnmifaa
open Go.RowKit
set_option linter.unusedSimpArgs false
set_option linter.unusedVariables false
attribute [local go_sem ↓] Go.wp_at_zero Go.wp_at_succ
set_option maxRecDepth 20000 in
set_option maxHeartbeats 8000000 in
theorem implMeet_bad (w : World) (a : Value) (xs : List Int) (p : Nat) (ha : Row 2 w p a xs) (b : Value) (ys : List Int) (q : Nat) (hb : Row 2 w q b ys) (a2 : Value) (us : List Int) (p2 : Nat) (ha2 : Row 2 w p2 a2 us) (b2 : Value) (vs : List Int) (q2 : Nat) (hb2 : Row 2 w q2 b2 vs) (h : maskB xs ys = false ∨ maskB us vs = false) :
    Calls Try.prog 7 #[.agg #[a, b], .agg #[a2, b2]] w fun e w' => ∃ A0 n0 c0 A1 n1 c1, e = .returned (.tuple #[.agg #[.slice A0 n0 c0, .slice A1 n1 c1], .int .i64 (mtC xs ys us vs)]) ∧ Row 2 w' w.heap.size (.slice A0 n0 c0) (mtF xs ys us vs) ∧ Row 2 w' w.heap.size (.slice A1 n1 c1) (mtL xs ys us vs) ∧ Apart (.slice A0 n0 c0) (.slice A1 n1 c1) ∧ Below w.heap.size w w' := by
  obtain ⟨e1, e2, e3⟩ := mt_bad h
  rw [e1, e2, e3]
  have HA := Lib.hid ha
  have HB := Lib.hid hb
  have HA2 := Lib.hid ha2
  have HB2 := Lib.hid hb2
  clear ha hb ha2 hb2 e1 e2 e3
  rcases two_bools (maskB xs ys) with h1 | h1
  rotate_left
  · have HE := Lib.hid h1
    clear h1 h
    obtain ⟨W0, hW0⟩ : ∃ W, W = (((w.alloc (.cells #[a, b] 26)).alloc (.cells #[a2, b2] 26)).alloc (.cells #[.slice none 0 0, .slice none 0 0] 26)) := ⟨_, rfl⟩
    have HW0 := Lib.hid (show Below w.heap.size w W0 by rw [hW0]; repeat (first | (with_reducible exact Below.refl _ _) | (with_reducible assumption) | ((with_reducible refine bl_alloc ?_ _ ?_); (focus ((first | omega | (simp <;> omega)); done))) | ((with_reducible refine bl_set ?_ _ ?_); (focus ((first | omega | (simp <;> omega)); done))) | (with_reducible refine below_drewN ?_ _) | (with_reducible refine Below.drew ?_)))
    have lW : W0.heap.size = w.heap.size + 3 := by rw [hW0]; simp [go_sem]
    have s0 : W0.cell? ⟨w.heap.size, 0, none⟩ = some (a) := by rw [hW0]; simp [go_sem]
    have s1 : W0.cell? ⟨w.heap.size, 1, none⟩ = some (b) := by rw [hW0]; simp [go_sem]
    have s2 : W0.cell? ⟨w.heap.size + 1, 0, none⟩ = some (a2) := by rw [hW0]; simp [go_sem]
    have s3 : W0.cell? ⟨w.heap.size + 1, 1, none⟩ = some (b2) := by rw [hW0]; simp [go_sem]
    have SR0 : Hid (SInv W0 (w.heap.size + 2) [.slice none 0 0, .slice none 0 0]) := by
      show SInv _ _ _
      rw [hW0]
      have h := SInv.fresh ((w.alloc (.cells #[a, b] 26)).alloc (.cells #[a2, b2] 26)) #[.slice none 0 0, .slice none 0 0] 26
      have e : ((w.alloc (.cells #[a, b] 26)).alloc (.cells #[a2, b2] 26)).heap.size = w.heap.size + 2 := by simp
      rw [e] at h
      exact h
    go_enter Try.func7, Try.ntmps7
    (go_upto_region 1 with fail; rw [← hW0]; clear hW0)
    go_wp2_with fail
    refine (ValidMask_any _ a xs p (HA.out.later HW0.out) b ys q (HB.out.later HW0.out)).mono ?_
    rintro e w1 ⟨he, hb⟩
    rw [HE.out] at he
    subst he
    have H1 := Lib.hid (show Below w.heap.size w w1 from HW0.out.trans (hb.mono HW0.out.size))
    have z1_ := hb.size
    have SR1 := Lib.hid (SR0.out.later hb)
    have t1_0 := keeps hb s0
    have t1_1 := keeps hb s1
    have t1_2 := keeps hb s2
    have t1_3 := keeps hb s3
    clear hb s0 s1 s2 s3
    have n0 := SR1.out.cell 0 _ rfl
    have n1 := SR1.out.cell 1 _ rfl
    have nf := SR1.out.free
    go_wp2_with fail
    refine bodyPost_ret (v := .tuple #[.agg #[.slice none 0 0, .slice none 0 0], .int .i64 1]) (by simp [results, Try.results7, go_sem, *]) rfl ?_
    exact ⟨_, _, _, _, _, _, rfl, Row.nil_, Row.nil_, (fun g h _ => by simp [Value.ownBlock] at h), by repeat (first | (with_reducible exact Below.refl _ _) | (with_reducible assumption) | ((with_reducible refine bl_alloc ?_ _ ?_); (focus ((first | omega | (simp <;> omega)); done))) | ((with_reducible refine bl_set ?_ _ ?_); (focus ((first | omega | (simp <;> omega)); done))) | (with_reducible refine below_drewN ?_ _) | (with_reducible refine Below.drew ?_) | ((with_reducible refine bl_trans ?_ H1.out ?_); (focus ((first | omega | (simp <;> omega)); done))))⟩
  · have h2 : maskB us vs = false := by rcases h with h | h; (rw [h1] at h; cases h); exact h
    have HE := Lib.hid h1
    have HE2 := Lib.hid h2
    clear h1 h2 h
    obtain ⟨W0, hW0⟩ : ∃ W, W = (((w.alloc (.cells #[a, b] 26)).alloc (.cells #[a2, b2] 26)).alloc (.cells #[.slice none 0 0, .slice none 0 0] 26)) := ⟨_, rfl⟩
    have HW0 := Lib.hid (show Below w.heap.size w W0 by rw [hW0]; repeat (first | (with_reducible exact Below.refl _ _) | (with_reducible assumption) | ((with_reducible refine bl_alloc ?_ _ ?_); (focus ((first | omega | (simp <;> omega)); done))) | ((with_reducible refine bl_set ?_ _ ?_); (focus ((first | omega | (simp <;> omega)); done))) | (with_reducible refine below_drewN ?_ _) | (with_reducible refine Below.drew ?_)))
    have lW : W0.heap.size = w.heap.size + 3 := by rw [hW0]; simp [go_sem]
    have s0 : W0.cell? ⟨w.heap.size, 0, none⟩ = some (a) := by rw [hW0]; simp [go_sem]
    have s1 : W0.cell? ⟨w.heap.size, 1, none⟩ = some (b) := by rw [hW0]; simp [go_sem]
    have s2 : W0.cell? ⟨w.heap.size + 1, 0, none⟩ = some (a2) := by rw [hW0]; simp [go_sem]
    have s3 : W0.cell? ⟨w.heap.size + 1, 1, none⟩ = some (b2) := by rw [hW0]; simp [go_sem]
    have SR0 : Hid (SInv W0 (w.heap.size + 2) [.slice none 0 0, .slice none 0 0]) := by
      show SInv _ _ _
      rw [hW0]
      have h := SInv.fresh ((w.alloc (.cells #[a, b] 26)).alloc (.cells #[a2, b2] 26)) #[.slice none 0 0, .slice none 0 0] 26
      have e : ((w.alloc (.cells #[a, b] 26)).alloc (.cells #[a2, b2] 26)).heap.size = w.heap.size + 2 := by simp
      rw [e] at h
      exact h
    go_enter Try.func7, Try.ntmps7
    (go_upto_region 1 with fail; rw [← hW0]; clear hW0)
    go_wp2_with fail
    refine (ValidMask_any _ a xs p (HA.out.later HW0.out) b ys q (HB.out.later HW0.out)).mono ?_
    rintro e w1 ⟨he, hb⟩
    rw [HE.out] at he
    subst he
    have H1 := Lib.hid (show Below w.heap.size w w1 from HW0.out.trans (hb.mono HW0.out.size))
    have z1_ := hb.size
    have SR1 := Lib.hid (SR0.out.later hb)
    have t1_0 := keeps hb s0
    have t1_1 := keeps hb s1
    have t1_2 := keeps hb s2
    have t1_3 := keeps hb s3
    clear hb s0 s1 s2 s3
    have n0 := SR1.out.cell 0 _ rfl
    have n1 := SR1.out.cell 1 _ rfl
    have nf := SR1.out.free
    go_wp2_with fail
    refine (ValidMask_any _ a2 us p2 (HA2.out.later H1.out) b2 vs q2 (HB2.out.later H1.out)).mono ?_
    rintro e w2 ⟨he, hb⟩
    rw [HE2.out] at he
    subst he
    have H2 := Lib.hid (show Below w.heap.size w w2 from H1.out.trans (hb.mono H1.out.size))
    have z2_ := hb.size
    have SR2 := Lib.hid (SR1.out.later hb)
    have t2_0 := keeps hb t1_0
    have t2_1 := keeps hb t1_1
    have t2_2 := keeps hb t1_2
    have t2_3 := keeps hb t1_3
    clear hb t1_0 t1_1 t1_2 t1_3
    have n0 := SR2.out.cell 0 _ rfl
    have n1 := SR2.out.cell 1 _ rfl
    have nf := SR2.out.free
    go_wp2_with fail
    refine bodyPost_ret (v := .tuple #[.agg #[.slice none 0 0, .slice none 0 0], .int .i64 1]) (by simp [results, Try.results7, go_sem, *]) rfl ?_
    exact ⟨_, _, _, _, _, _, rfl, Row.nil_, Row.nil_, (fun g h _ => by simp [Value.ownBlock] at h), by repeat (first | (with_reducible exact Below.refl _ _) | (with_reducible assumption) | ((with_reducible refine bl_alloc ?_ _ ?_); (focus ((first | omega | (simp <;> omega)); done))) | ((with_reducible refine bl_set ?_ _ ?_); (focus ((first | omega | (simp <;> omega)); done))) | (with_reducible refine below_drewN ?_ _) | (with_reducible refine Below.drew ?_) | ((with_reducible refine bl_trans ?_ H2.out ?_); (focus ((first | omega | (simp <;> omega)); done))))⟩
set_option maxRecDepth 20000 in
set_option maxHeartbeats 32000000 in
theorem implMeet_good (w : World) (a : Value) (xs : List Int) (p : Nat) (ha : Row 2 w p a xs) (b : Value) (ys : List Int) (q : Nat) (hb : Row 2 w q b ys) (a2 : Value) (us : List Int) (p2 : Nat) (ha2 : Row 2 w p2 a2 us) (b2 : Value) (vs : List Int) (q2 : Nat) (hb2 : Row 2 w q2 b2 vs) (h1 : maskB xs ys = true) (h2 : maskB us vs = true) :
    Calls Try.prog 7 #[.agg #[a, b], .agg #[a2, b2]] w fun e w' => ∃ A0 n0 c0 A1 n1 c1, e = .returned (.tuple #[.agg #[.slice A0 n0 c0, .slice A1 n1 c1], .int .i64 (mtC xs ys us vs)]) ∧ Row 2 w' w.heap.size (.slice A0 n0 c0) (mtF xs ys us vs) ∧ Row 2 w' w.heap.size (.slice A1 n1 c1) (mtL xs ys us vs) ∧ Apart (.slice A0 n0 c0) (.slice A1 n1 c1) ∧ Below w.heap.size w w' := by
  have HA := Lib.hid ha
  have HB := Lib.hid hb
  have HA2 := Lib.hid ha2
  have HB2 := Lib.hid hb2
  obtain ⟨n, ga, ca, gb, cb, rfl, rfl, n1, n2, n3, hm, hr, hc⟩ := mask_tab h1 ha hb
  obtain ⟨m, gc, cc, gd, cd, rfl, rfl, m1, m2, m3, hm2, hr2, hc2⟩ := mask_tab h2 ha2 hb2
  have HN1 := Lib.hid n1
  have HM := Lib.hid hm
  have HC := Lib.hid hc
  have HN2 := Lib.hid m1
  have HM2 := Lib.hid hm2
  have HC2 := Lib.hid hc2
  have la := (row_at ha).2.1
  have lb := (row_at hb).2.1
  have lc := (row_at ha2).2.1
  have ld := (row_at hb2).2.1
  have LX := Lib.hid (row_at ha).1
  have LY := Lib.hid (row_at ha2).1
  have HE := Lib.hid h1
  have HE2 := Lib.hid h2
  have HAT := Lib.hid (fun k (h : k < (meetL xs us).length) => meet_at h1 h2 h)
  have HML := Lib.hid (meetL_len (xs := xs) (ys := us))
  have HMI := Lib.hid (meet_is (ys := us) (mask_pair h1).1)
  have HBAD := Lib.hid (fun h => mt_full (xs := xs) (ys := ys) (us := us) (vs := vs) h1 h2 h)
  have HYES := Lib.hid (fun h => mt_yes (xs := xs) (ys := ys) (us := us) (vs := vs) h1 h2 h)
  clear h1 h2 ha hb ha2 hb2 n1 hm hr hc m1 hm2 hr2 hc2
  obtain ⟨i0, hi, hz0, hz1, hz2⟩ := info_parts Try.info_i64
  have HI := Lib.hid hi
  have HZ0 := Lib.hid hz0
  have HZ1 := Lib.hid hz1
  have HZ2 := Lib.hid hz2
  clear hi hz0 hz1 hz2
  obtain ⟨W0, hW0⟩ : ∃ W, W = (((w.alloc (.cells #[.slice (some ⟨ga, 0, none⟩) n ca, .slice (some ⟨gb, 0, none⟩) n cb] 26)).alloc (.cells #[.slice (some ⟨gc, 0, none⟩) m cc, .slice (some ⟨gd, 0, none⟩) m cd] 26)).alloc (.cells #[.slice none 0 0, .slice none 0 0] 26)) := ⟨_, rfl⟩
  have HW0 := Lib.hid (show Below w.heap.size w W0 by rw [hW0]; repeat (first | (with_reducible exact Below.refl _ _) | (with_reducible assumption) | ((with_reducible refine bl_alloc ?_ _ ?_); (focus ((first | omega | (simp <;> omega)); done))) | ((with_reducible refine bl_set ?_ _ ?_); (focus ((first | omega | (simp <;> omega)); done))) | (with_reducible refine below_drewN ?_ _) | (with_reducible refine Below.drew ?_)))
  have lW : W0.heap.size = w.heap.size + 3 := by rw [hW0]; simp [go_sem]
  have s0 : W0.cell? ⟨w.heap.size, 0, none⟩ = some (.slice (some ⟨ga, 0, none⟩) n ca) := by rw [hW0]; simp [go_sem]
  have s1 : W0.cell? ⟨w.heap.size, 1, none⟩ = some (.slice (some ⟨gb, 0, none⟩) n cb) := by rw [hW0]; simp [go_sem]
  have s2 : W0.cell? ⟨w.heap.size + 1, 0, none⟩ = some (.slice (some ⟨gc, 0, none⟩) m cc) := by rw [hW0]; simp [go_sem]
  have s3 : W0.cell? ⟨w.heap.size + 1, 1, none⟩ = some (.slice (some ⟨gd, 0, none⟩) m cd) := by rw [hW0]; simp [go_sem]
  have SR0 : Hid (SInv W0 (w.heap.size + 2) [.slice none 0 0, .slice none 0 0]) := by
    show SInv _ _ _
    rw [hW0]
    have h := SInv.fresh ((w.alloc (.cells #[.slice (some ⟨ga, 0, none⟩) n ca, .slice (some ⟨gb, 0, none⟩) n cb] 26)).alloc (.cells #[.slice (some ⟨gc, 0, none⟩) m cc, .slice (some ⟨gd, 0, none⟩) m cd] 26)) #[.slice none 0 0, .slice none 0 0] 26
    have e : ((w.alloc (.cells #[.slice (some ⟨ga, 0, none⟩) n ca, .slice (some ⟨gb, 0, none⟩) n cb] 26)).alloc (.cells #[.slice (some ⟨gc, 0, none⟩) m cc, .slice (some ⟨gd, 0, none⟩) m cd] 26)).heap.size = w.heap.size + 2 := by simp
    rw [e] at h
    exact h
  go_enter Try.func7, Try.ntmps7
  (go_upto_region 1 with fail; rw [← hW0]; clear hW0)
  go_wp2_with fail
  refine (ValidMask_any _ _ xs p (HA.out.later HW0.out) _ ys q (HB.out.later HW0.out)).mono ?_
  rintro e w1 ⟨he, hb⟩
  rw [HE.out] at he
  subst he
  have H1 := Lib.hid (show Below w.heap.size w w1 from HW0.out.trans (hb.mono HW0.out.size))
  have z1_ := hb.size
  have SR1 := Lib.hid (SR0.out.later hb)
  have t1_0 := keeps hb s0
  have t1_1 := keeps hb s1
  have t1_2 := keeps hb s2
  have t1_3 := keeps hb s3
  clear hb s0 s1 s2 s3
  have n0 := SR1.out.cell 0 _ rfl
  have n1 := SR1.out.cell 1 _ rfl
  have nf := SR1.out.free
  go_wp2_with fail
  clear n0 n1 nf
  refine (ValidMask_any _ _ us p2 (HA2.out.later H1.out) _ vs q2 (HB2.out.later H1.out)).mono ?_
  rintro e w2 ⟨he, hb⟩
  rw [HE2.out] at he
  subst he
  have H2 := Lib.hid (show Below w.heap.size w w2 from H1.out.trans (hb.mono H1.out.size))
  have z2_ := hb.size
  have SR2 := Lib.hid (SR1.out.later hb)
  have t2_0 := keeps hb t1_0
  have t2_1 := keeps hb t1_1
  have t2_2 := keeps hb t1_2
  have t2_3 := keeps hb t1_3
  clear hb t1_0 t1_1 t1_2 t1_3
  have n0 := SR2.out.cell 0 _ rfl
  have n1 := SR2.out.cell 1 _ rfl
  have nf := SR2.out.free
  go_wp2_with fail
  clear n0 n1 nf
  refine (concat_any _ ga gc p p2 ca cc _ n m _ xs us ((HA.out.later H2.out).alloc_ _) ((HA2.out.later H2.out).alloc_ _) (by simp [go_sem]) (by simp [go_sem]) (by simp) (by omega) (by omega) (by omega) (by omega)).mono ?_
  rintro e w3 ⟨A3, c3, rfl, hr3, hb3⟩
  have H3 := Lib.hid (show Below w.heap.size w w3 by repeat (first | (with_reducible exact Below.refl _ _) | (with_reducible assumption) | ((with_reducible refine bl_alloc ?_ _ ?_); (focus ((first | omega | (simp <;> omega)); done))) | ((with_reducible refine bl_set ?_ _ ?_); (focus ((first | omega | (simp <;> omega)); done))) | (with_reducible refine below_drewN ?_ _) | (with_reducible refine Below.drew ?_) | ((with_reducible refine bl_trans ?_ hb3 ?_); (focus ((first | omega | (simp <;> omega)); done))) | ((with_reducible refine bl_trans ?_ H2.out ?_); (focus ((first | omega | (simp <;> omega)); done)))))
  have SR3 := Lib.hid ((SR2.out.alloc_ _).later hb3)
  have z3_ := hb3.size
  have d0 := keeps hb3 (cell_alloc t2_0 _)
  have d1 := keeps hb3 (cell_alloc t2_1 _)
  have d2 := keeps hb3 (cell_alloc t2_2 _)
  have d3 := keeps hb3 (cell_alloc t2_3 _)
  clear hb3 SR2 t2_0 t2_1 t2_2 t2_3
  obtain ⟨S, hS⟩ : ∃ S, S = n + m := ⟨_, rfl⟩
  rw [← hS] at hr3 ⊢
  have LS := Lib.hid (show (xs ++ us).length = S by rw [List.length_append, LX.out, LY.out, hS])
  have S1 : 4 ≤ S ∧ S ≤ 24 := by omega
  clear hS
  rcases hr3.forms with ⟨_, hz⟩ | ⟨g, cq, hv, g0, gl, _, _⟩
  · have h := LS.out; rw [hz] at h; simp at h; omega
  rw [LS.out] at hv
  simp only [Value.slice.injEq] at hv
  obtain ⟨rfl, _, rfl⟩ := hv
  have g1 : w.heap.size + 3 < g := by simp at g0; omega
  simp at z3_
  have R3 := Lib.hid (hr3.base_le (b' := w.heap.size + 4) (by simp; omega))
  clear hr3 g0
  go_wp2_with fail
  refine (sort_row _ (w.heap.size + 4) g c3 S (xs ++ us) (R3.out.alloc_ _) LS.out (by omega)).mono ?_
  rintro e w4 ⟨rfl, hr4, hg4⟩
  have hw4 := Writes.of_grown (S := fun b => b = g) hg4 (fun x hx => by injection hx with hx; exact hx.symm)
  have z4_ := hg4.size
  simp at z4_
  have SO4 := Lib.hid ((SInv.fresh w3 #[.slice (some ⟨g, 0, none⟩) S c3, .slice none 0 0] 26).writes hw4 (by show ¬ w3.heap.size = g; omega))
  have SR4 := Lib.hid ((SR3.out.alloc_ _).writes hw4 (by show ¬ _ = g; omega))
  have H4 := Lib.hid (show Below w.heap.size w w4 from (bl_alloc (by omega) _ H3.out).trans (hw4.below (by simp; omega) (fun x hx => by subst hx; omega)))
  have e0 := keepsW hw4 (cell_alloc d0 _) (by show ¬ w.heap.size = g; omega)
  have e1 := keepsW hw4 (cell_alloc d1 _) (by show ¬ w.heap.size = g; omega)
  have e2 := keepsW hw4 (cell_alloc d2 _) (by show ¬ w.heap.size + 1 = g; omega)
  have e3 := keepsW hw4 (cell_alloc d3 _) (by show ¬ w.heap.size + 1 = g; omega)
  have R4 := Lib.hid hr4
  have LS4 := Lib.hid ((sortL_len (xs ++ us)).trans LS.out)
  have o0 := SO4.out.cell 0 _ rfl
  clear hg4 hw4 hr4 SR3 R3 d0 d1 d2 d3
  go_wp2_with fail
  have HCMP : Calls Try.prog 21 #[.slice (some ⟨g, 0, none⟩) S c3] w4 fun e w' => e = .returned (.slice (some ⟨g, 0, none⟩) (meetL xs us).length c3) ∧ Row 2 w' (w.heap.size + 4) (.slice (some ⟨g, 0, none⟩) (meetL xs us).length c3) (meetL xs us) ∧ w4.grownBy w' (some g) := by
    have h := compact_row w4 (w.heap.size + 4) g c3 S (sortL (xs ++ us)) R4.out LS4.out (by omega)
    rw [HMI.out] at h
    exact h
  have HLEN := Lib.hid (show 2 ≤ (meetL xs us).length ∧ (meetL xs us).length ≤ 24 by have h := HML.out; have h2 := LX.out; have h3 := LY.out; omega)
  obtain ⟨zs, hzs⟩ : ∃ z, z = meetL xs us := ⟨_, rfl⟩
  rw [← hzs] at HCMP HAT HBAD HYES HLEN
  clear hzs HML HMI R4 LS4 LS
  obtain ⟨N, hN⟩ : ∃ N, N = zs.length := ⟨_, rfl⟩
  have HLZ := Lib.hid hN.symm
  have hl1 := HLEN.out
  rw [← hN] at HCMP HAT HBAD HYES hl1
  clear hN HLEN
  refine HCMP.mono ?_
  rintro e w5 ⟨rfl, hr5, hg5⟩
  clear HCMP o0
  have hw5 := Writes.of_grown (S := fun b => b = g) hg5 (fun x hx => by injection hx with hx; exact hx.symm)
  have z5_ := hg5.size
  have SO5 := Lib.hid (SO4.out.writes hw5 (by show ¬ w3.heap.size = g; omega))
  have SR5 := Lib.hid (SR4.out.writes hw5 (by show ¬ _ = g; omega))
  have H5 := Lib.hid (show Below w.heap.size w w5 from H4.out.trans (hw5.below (by omega) (fun x hx => by subst hx; omega)))
  have k0 := keepsW hw5 e0 (by show ¬ w.heap.size = g; omega)
  have k1 := keepsW hw5 e1 (by show ¬ w.heap.size = g; omega)
  have k2 := keepsW hw5 e2 (by show ¬ w.heap.size + 1 = g; omega)
  have k3 := keepsW hw5 e3 (by show ¬ w.heap.size + 1 = g; omega)
  have R5 := Lib.hid hr5
  have o0 := SO5.out.cell 0 _ rfl
  have o1 := SO5.out.cell 1 _ rfl
  have of := SO5.out.free
  have n0 := SR5.out.cell 0 _ rfl
  have n1 := SR5.out.cell 1 _ rfl
  have nf := SR5.out.free
  have hne1 : ¬ w3.heap.size = w.heap.size + 2 := by omega
  have hne2 : ¬ w.heap.size + 2 = w3.heap.size := by omega
  clear hg5 hw5 hr5 SR4 SO4 e0 e1 e2 e3
  by_cases h12 : N ≤ 12
  rotate_left
  · have HYY := Lib.hid (HBAD.out (by omega))
    have h12' : (12 : Int) < (N : Int) := by omega
    clear HYES HBAD
    go_wp2_with fail
    refine bodyPost_ret (v := .tuple #[.agg #[.slice none 0 0, .slice none 0 0], .int .i64 5]) (by simp [results, Try.results7, go_sem, *]) rfl ?_
    rw [HYY.out.1, HYY.out.2.1, HYY.out.2.2]
    exact ⟨_, _, _, _, _, _, rfl, Row.nil_, Row.nil_, (fun g h _ => by simp [Value.ownBlock] at h), by repeat (first | (with_reducible exact Below.refl _ _) | (with_reducible assumption) | ((with_reducible refine bl_alloc ?_ _ ?_); (focus ((first | omega | (simp <;> omega)); done))) | ((with_reducible refine bl_set ?_ _ ?_); (focus ((first | omega | (simp <;> omega)); done))) | (with_reducible refine below_drewN ?_ _) | (with_reducible refine Below.drew ?_) | ((with_reducible refine bl_trans ?_ H5.out ?_); (focus ((first | omega | (simp <;> omega)); done))))⟩
  have HYY := Lib.hid (HYES.out h12)
  have h12' : (N : Int) ≤ 12 := by omega
  clear HYES HBAD
  have HMT := Lib.hid (fun j (h : j < N) => mtL_take (xs := xs) (ys := ys) (us := us) (vs := vs) (zs := zs) (k := j) (by rw [HLZ.out]; exact h))
  have HLM := Lib.hid (show (zs.map (mtV xs ys us vs)).length = N by rw [List.length_map]; exact HLZ.out)
  have HMV : Hid (∀ o, mtV xs ys us vs o = max (tabAt (absV o) (xs.zip ys)) (tabAt (absV o) (us.zip vs))) := fun o => rfl
  obtain ⟨MT, hMT⟩ : ∃ M, M = zs.map (mtV xs ys us vs) := ⟨_, rfl⟩
  rw [← hMT] at HLM HMT HYY
  clear hMT
  go_wp2_with fail
  obtain ⟨V1, hV1⟩ : ∃ V, V = w5.setCell ⟨w3.heap.size, 0, none⟩ (.slice (some ⟨g, 0, none⟩) N c3) := ⟨_, rfl⟩
  rw [← hV1]
  have SV := Lib.hid (show SInv V1 w3.heap.size [.slice (some ⟨g, 0, none⟩) N c3, .slice none 0 0] by rw [hV1]; exact SO5.out.set 0 (by simp) _)
  have SRV := Lib.hid (show SInv V1 (w.heap.size + 2) [.slice none 0 0, .slice none 0 0] by rw [hV1]; exact SR5.out.other (by show ¬ w3.heap.size = _; omega) _)
  have RZ := Lib.hid (show Row 2 V1 (w.heap.size + 4) (.slice (some ⟨g, 0, none⟩) N c3) zs by rw [hV1]; exact R5.out.other (by simp [Value.ownBlock]; omega) _)
  have HBV := Lib.hid (show Below w.heap.size w V1 by rw [hV1]; repeat (first | (with_reducible exact Below.refl _ _) | (with_reducible assumption) | ((with_reducible refine bl_alloc ?_ _ ?_); (focus ((first | omega | (simp <;> omega)); done))) | ((with_reducible refine bl_set ?_ _ ?_); (focus ((first | omega | (simp <;> omega)); done))) | (with_reducible refine below_drewN ?_ _) | (with_reducible refine Below.drew ?_) | ((with_reducible refine bl_trans ?_ H5.out ?_); (focus ((first | omega | (simp <;> omega)); done)))))
  have zV : V1.heap.size = w5.heap.size := by rw [hV1]; simp
  have v0 : V1.cell? ⟨w.heap.size, 0, none⟩ = some (.slice (some ⟨ga, 0, none⟩) n ca) := by rw [hV1]; exact cell_set1 (by omega) k0
  have v1 : V1.cell? ⟨w.heap.size, 1, none⟩ = some (.slice (some ⟨gb, 0, none⟩) n cb) := by rw [hV1]; exact cell_set1 (by omega) k1
  have v2 : V1.cell? ⟨w.heap.size + 1, 0, none⟩ = some (.slice (some ⟨gc, 0, none⟩) m cc) := by rw [hV1]; exact cell_set1 (by omega) k2
  have v3 : V1.cell? ⟨w.heap.size + 1, 1, none⟩ = some (.slice (some ⟨gd, 0, none⟩) m cd) := by rw [hV1]; exact cell_set1 (by omega) k3
  have HCZ := Lib.hid ((row_at RZ.out).2.2)
  clear hV1 o0 o1 of n0 n1 nf SO5 SR5 R5 k0 k1 k2 k3
  go_loopw [40] (fun i wr => ∃ (j : Nat) (t : Value), j ≤ N ∧ i = .int .i64 (j : Int) ∧ Hid (SInv wr w3.heap.size [.slice (some ⟨g, 0, none⟩) N c3, t]) ∧ Hid (Row 2 wr V1.heap.size t (MT.take j)) ∧ Hid (t.ownBlock ≠ some w3.heap.size) ∧ Hid (Writes V1 wr (fun b => b = w3.heap.size))) (fun i _ => N + 1 - (intOf i).toNat)
  case atStart => exact ⟨0, .slice none 0 0, Nat.zero_le _, rfl, SV, (show Row _ _ _ _ _ from Row.nil_), (show _ ≠ _ by simp [Value.ownBlock]), (show Writes _ _ _ from Writes.of_below (Below.refl _ _) _)⟩
  case round =>
    obtain ⟨j, t, hj, rfl, hs, hr, hne, hw⟩ := hrel
    have j0 : (0 : Int) ≤ (j : Int) := Int.natCast_nonneg _
    have zw := hw.out.size
    have zO : w3.heap.size < wr.heap.size := hs.out.lt
    by_cases hlt : j < N
    · have hlt' : (j : Int) < (N : Int) := by omega
      have HLE := Lib.hid (show j + 1 ≤ N by omega)
      have y2 := hs.out.cell 1 _ rfl
      have yA : ∀ o : Obj, (wr.alloc o).cell? ⟨w3.heap.size, 1, none⟩ = some t := fun o => cell_alloc y2 o
      have ck := keepsW hw.out (HCZ.out j hlt) (by show ¬ g = w3.heap.size; omega)
      have BW := Lib.hid (show Below w.heap.size w wr from HBV.out.trans (hw.out.below HBV.out.size (fun b hb => by subst hb; omega)))
      have x0 := keepsW hw.out v0 (by show ¬ w.heap.size = w3.heap.size; omega)
      have x1 := keepsW hw.out v1 (by show ¬ w.heap.size = w3.heap.size; omega)
      have x2 := keepsW hw.out v2 (by show ¬ w.heap.size + 1 = w3.heap.size; omega)
      have x3 := keepsW hw.out v3 (by show ¬ w.heap.size + 1 = w3.heap.size; omega)
      obtain ⟨o0, o1⟩ := HAT.out j hlt
      have HCA : Hid (∀ W : World, Below w.heap.size w W → Calls Try.prog 22 #[.agg #[.slice (some ⟨ga, 0, none⟩) n ca, .slice (some ⟨gb, 0, none⟩) n cb], .int .i64 (zs.getD j 0)] W fun e w' => e = .returned (.int .i64 (tabAt (absV (zs.getD j 0)) (xs.zip ys))) ∧ Below W.heap.size W w') := fun W hW => loss_any (xs.zip ys) _ (by omega) (by omega) ga gb n ca cb HN1.out n2 (by omega) HM.out W (fun q hq => ⟨(hW.cell (p := ⟨ga, q, none⟩) la).trans (HC.out q hq).1, (hW.cell (p := ⟨gb, q, none⟩) lb).trans (HC.out q hq).2⟩)
      have HCB : Hid (∀ W : World, Below w.heap.size w W → Calls Try.prog 22 #[.agg #[.slice (some ⟨gc, 0, none⟩) m cc, .slice (some ⟨gd, 0, none⟩) m cd], .int .i64 (zs.getD j 0)] W fun e w' => e = .returned (.int .i64 (tabAt (absV (zs.getD j 0)) (us.zip vs))) ∧ Below W.heap.size W w') := fun W hW => loss_any (us.zip vs) _ (by omega) (by omega) gc gd m cc cd HN2.out m2 (by omega) HM2.out W (fun q hq => ⟨(hW.cell (p := ⟨gc, q, none⟩) lc).trans (HC2.out q hq).1, (hW.cell (p := ⟨gd, q, none⟩) ld).trans (HC2.out q hq).2⟩)
      have hlen : (MT.take j).length = j := by rw [List.length_take, HLM.out]; omega
      have hst := Lib.hid (HMT.out j hlt)
      rw [HMV.out] at hst
      obtain ⟨ws, hws⟩ : ∃ z, z = MT.take j := ⟨_, rfl⟩
      rw [← hws] at hr hlen hst
      obtain ⟨x, hx⟩ : ∃ x, x = zs.getD j 0 := ⟨_, rfl⟩
      rw [← hx] at ck HCA HCB hst o0 o1
      obtain ⟨ka, hka⟩ : ∃ z, z = tabAt (absV x) (xs.zip ys) := ⟨_, rfl⟩
      obtain ⟨kb, hkb⟩ : ∃ z, z = tabAt (absV x) (us.zip vs) := ⟨_, rfl⟩
      rw [← hka] at HCA hst
      rw [← hkb] at HCB hst
      clear hws hx hka hkb o0 o1
      go_wp2_with fail
      go_region_law (first
        | (refine step_append_lies _ (by rfl) _ _ _ (by rfl) V1.heap.size 2 i0 (.int .i64 0) 1 8 Try.underlying22 HI.out HZ0.out HZ1.out HZ2.out rfl (by omega) t j (ws.map (Value.int .i64)) (by rfl) (Row.owns hlen (hr7.out.alloc_ (.cells #[.int .i64 (max ka kb)] 2))) ⟨w7.heap.size, 0, none⟩ 1 1 [.int .i64 (max ka kb)] (by rfl) (by rfl) (World.news_of_block (cs := #[.int .i64 (max ka kb)]) (t := 2) (fr := (0, 0)) (heap_alloc_new w7 _)) (by simp [Value.oneCell']) (by omega) (by unfold maxLen; omega) (by omega) (by simp <;> omega) (w7.heap.size + 1) (by simp) ?_; intro g3 cap3 w8 hown hgrow hat hlt3; have hgw : (w7.alloc (.cells #[.int .i64 (max ka kb)] 2)).grownBy w8 t.ownBlock := ⟨hgrow.os, hgrow.tape, hgrow.output, hgrow.size, hgrow.block⟩; have y3 := (hgw.cell_far ⟨w3.heap.size, 1, none⟩ (by show w3.heap.size < _; simp; omega) (fun q => hne.out q.symm)).trans (cell_alloc u7 (.cells #[.int .i64 (max ka kb)] 2)); have yf := (hgw.frozen_far ⟨w3.heap.size, 1, none⟩ (by show w3.heap.size < _; simp; omega) (fun q => hne.out q.symm)).trans ((SI7.out.alloc_ (.cells #[.int .i64 (max ka kb)] 2)).free 1))
        | (go_simp; go_at_call 22; ((with_reducible refine (HCA.out _ (by repeat (first | (with_reducible exact Below.refl _ _) | (with_reducible assumption) | ((with_reducible refine bl_alloc ?_ _ ?_); (focus ((first | omega | (simp <;> omega)); done))) | ((with_reducible refine bl_set ?_ _ ?_); (focus ((first | omega | (simp <;> omega)); done))) | (with_reducible refine below_drewN ?_ _) | (with_reducible refine Below.drew ?_) | ((with_reducible refine bl_trans ?_ BW.out ?_); (focus ((first | omega | (simp <;> omega)); done)))))).mono ?_); rintro e w6 ⟨rfl, hb⟩; have hb6 : Below wr.heap.size wr w6 := ⟨hb.os, hb.tape, hb.output, hb.size, hb.block⟩; have SI6 := Lib.hid (hs.out.later hb6); have hr6 := Lib.hid (hr.out.later hb6); have u6 := SI6.out.cell 1 _ rfl; have uf6 := SI6.out.free; have l6 := SI6.out.lt; have ua6 := fun o => (SI6.out.alloc_ o).cell 1 _ rfl; have p6_0 := keeps hb6 x0; have p6_1 := keeps hb6 x1; have p6_2 := keeps hb6 x2; have p6_3 := keeps hb6 x3; have zz6 := hb6.size; have H16 := Lib.hid hb6))
        | (go_simp; go_at_call 22; ((with_reducible refine (HCB.out _ (by repeat (first | (with_reducible exact Below.refl _ _) | (with_reducible assumption) | ((with_reducible refine bl_alloc ?_ _ ?_); (focus ((first | omega | (simp <;> omega)); done))) | ((with_reducible refine bl_set ?_ _ ?_); (focus ((first | omega | (simp <;> omega)); done))) | (with_reducible refine below_drewN ?_ _) | (with_reducible refine Below.drew ?_) | ((with_reducible refine bl_trans ?_ H16.out ?_); (focus ((first | omega | (simp <;> omega)); done))) | ((with_reducible refine bl_trans ?_ BW.out ?_); (focus ((first | omega | (simp <;> omega)); done)))))).mono ?_); rintro e w7 ⟨rfl, hb⟩; have hb7 : Below w6.heap.size w6 w7 := ⟨hb.os, hb.tape, hb.output, hb.size, hb.block⟩; have SI7 := Lib.hid (SI6.out.later hb7); have hr7 := Lib.hid (hr6.out.later hb7); have u7 := SI7.out.cell 1 _ rfl; have uf7 := SI7.out.free; have l7 := SI7.out.lt; have ua7 := fun o => (SI7.out.alloc_ o).cell 1 _ rfl; have p7_0 := keeps hb7 p6_0; have p7_1 := keeps hb7 p6_1; have p7_2 := keeps hb7 p6_2; have p7_3 := keeps hb7 p6_3; have zz7 := hb7.size; have H17 := Lib.hid hb7)))
      all_goals
        obtain ⟨r1, r2, r3, r4, _⟩ := push_row 1 (by simp) hs.out hr.out hne.out (show Below wr.heap.size wr (w7.alloc (.cells #[.int .i64 (max ka kb)] 2)) from (hb6.trans (hb7.mono hb6.size)).trans (bl_alloc (by omega) _ (Below.refl _ _))) hgw hat (by omega) hlen hown
        have SI5 := Lib.hid r1
        have HN5 := Lib.hid r3
        rw [← hst.out] at r2
        have HR5 := Lib.hid r2
        have HW5 : Hid (Writes V1 (w8.setCell ⟨w3.heap.size, 1, none⟩ (.slice (some ⟨g3, 0, none⟩) (j + 1) cap3)) (fun b => b = w3.heap.size)) := ⟨r4.os.trans hw.out.os, r4.tape.trans hw.out.tape, r4.output.trans hw.out.output, Nat.le_trans hw.out.size r4.size, fun n hn hne2 => (r4.block n (by omega) (by rintro (q | q); have := (hr.out.lt n q).1; omega; exact hne2 q)).trans (hw.out.block n hn hne2)⟩
        clear r1 r2 r3 r4 hown hgrow hgw hat y3 yf
        go_wp2_with fail
        refine ⟨?_, ?_⟩
        · first
            | ((repeat apply Exists.intro); (refine ⟨?_, rfl⟩); exact ⟨(j + 1 : Nat), .slice (some ⟨g3, 0, none⟩) (j + 1) cap3, HLE.out, by go_num, SI5, HR5, HN5, HW5⟩)
            | exact ⟨(j + 1 : Nat), .slice (some ⟨g3, 0, none⟩) (j + 1) cap3, HLE.out, by go_num, SI5, HR5, HN5, HW5⟩
        · first | (simp [intOf]; done) | (simp [intOf]; omega)
    · have hjN : j = N := by omega
      subst hjN
      have hrE : Hid (Row 2 wr V1.heap.size t MT) := by
        have h := hr.out
        rw [List.take_of_length_le (by rw [HLM.out]; exact Nat.le_refl _)] at h
        exact h
      have ft : ∃ A n c, t = .slice A n c := by rcases hrE.out.forms with ⟨h, _⟩ | ⟨_, _, h, _⟩ <;> exact ⟨_, _, _, h⟩
      obtain ⟨A1, n1, c1, rfl⟩ := ft
      have RZ2 := Lib.hid (RZ.out.writes hw.out (fun b hb1 => by simp [Value.ownBlock] at hb1; omega))
      have SZ := Lib.hid (SRV.out.writes hw.out (by omega))
      have y0 := hs.out.cell 0 _ rfl
      have y1 := hs.out.cell 1 _ rfl
      have n0_ := SZ.out.cell 0 _ rfl
      have n1_ := SZ.out.cell 1 _ rfl
      have nf := SZ.out.free
      have zl := SZ.out.lt
      have HBE := Lib.hid (show Below w.heap.size w wr from HBV.out.trans (hw.out.below HBV.out.size (fun b hb => by subst hb; omega)))
      have HAp : Hid (Apart (.slice (some ⟨g, 0, none⟩) j c3) (.slice A1 n1 c1)) := fun b hb1 hq => by have h1 := (hrE.out.lt b hq).1; simp [Value.ownBlock] at hb1; omega
      clear hr hs hw SRV RZ SV HCZ
      go_wp2_with fail
      refine bodyPost_ret (v := .tuple #[.agg #[.slice (some ⟨g, 0, none⟩) j c3, .slice A1 n1 c1], .int .i64 0]) (by simp [results, Try.results7, go_sem, *]) rfl ?_
      rw [HYY.out.1, HYY.out.2.1, HYY.out.2.2]
      refine ⟨_, _, _, _, _, _, rfl, ?_, ?_, HAp.out, by repeat (first | (with_reducible exact Below.refl _ _) | (with_reducible assumption) | ((with_reducible refine bl_alloc ?_ _ ?_); (focus ((first | omega | (simp <;> omega)); done))) | ((with_reducible refine bl_set ?_ _ ?_); (focus ((first | omega | (simp <;> omega)); done))) | (with_reducible refine below_drewN ?_ _) | (with_reducible refine Below.drew ?_) | ((with_reducible refine bl_trans ?_ HBE.out ?_); (focus ((first | omega | (simp <;> omega)); done))))⟩
      · refine Row.base_le (base := w.heap.size + 4) ?_ (by omega)
        repeat (first | (with_reducible exact RZ2.out) | ((with_reducible refine Row.low ?_ _ ?_); (focus ((first | omega | (simp <;> omega)); done))))
      · refine Row.base_le (base := V1.heap.size) ?_ (by omega)
        repeat (first | (with_reducible exact hrE.out) | ((with_reducible refine Row.low ?_ _ ?_); (focus ((first | omega | (simp <;> omega)); done))))
end Go.Proofs.Ytgbehaapmnmifaa
