/-
  A radio read off a text: the reference's. The conditions are the hypotheses.
-/
import Derived.Test.YtampjgfddakdoaaDoorRows
import Derived.Test.YtampjgfddakdoaaDoorLib
import Derived.Test.YtampjgfddakdoaaDoorInt
import Derived.Test.YtampjgfddakdoaaDoorInts
import Derived.Test.YtampjgfddakdoaaDoorOwn
import Derived.Test.YtampjgfddakdoaaDoorField
import Derived.Test.YtampjgfddakdoaaDoorNames
import Derived.Test.YtampjgfddakdoaaDoorRadioB
import Derived.Test.YtampjgfddakdoaaDoorArgs
import Derived.Test.YtampjgfddakdoaaDoorModes
import Derived.Test.YtampjgfddakdoaaDoorRadios
import Derived.Test.YtampjgfddakdoaaDoorRadioS
import Derived.Test.YtampjgfddakdoaaDoorMk
import Derived.Test.YtampjgfddakdoaaDoorNumP
import Derived.Test.YtampjgfddakdoaaDoorNumS
import Derived.Test.YtampjgfddakdoaaDoorSplP
import Derived.Test.YtampjgfddakdoaaDoorSplS
import Derived.Test.YtampjgfddakdoaaDoorRdP
import Derived.Test.YtampjgfddakdoaaDoorRdS
import Derived.Test.YtampjgfddakdoaaDoorRdW
import Derived.Test.YtampjgfddakdoaaDoorRdD
import Derived.Test.YtampjgfddakdoaaDoorRdI
import Derived.Test.YtampjgfddakdoaaDoorRdC
import Derived.Test.YtampjgfddakdoaaDoorRadT
import Derived.Test.YtampjgfddakdoaaDoorRrP
import Derived.Test.YtampjgfddakdoaaDoorRrN
import Derived.OwnWalk
import Derived.Outline
import Derived.Deep.AppendLies
import Derived.Deep.RegionLaw
import Derived.Deep.DeepCutAuto
import Derived.Deep.QuietTactic
import Derived.BigQuiet
import Derived.Deep.RegionHeld3
import Derived.Deep.DrawnRows
namespace Go.Proofs.YtampjgfddakdoaaDoor
open Go.RowKit ofRadioText
set_option linter.unusedSimpArgs false
set_option linter.unusedVariables false
attribute [local go_sem ↓] Go.wp_at_zero Go.wp_at_succ
set_option maxRecDepth 20000 in
set_option maxHeartbeats 16000000 in
theorem specReadRadio_any (w : World) (s : ByteArray) (hs : s.size ≤ 1048576) :
    Calls Tryd.prog 11 #[.string s] w fun e w' => ∃ A0 n0 c0, e = .returned (.tuple #[.agg #[.string (rrN s.data.toList), .int .i64 (rrV 1 s.data.toList), .int .i64 (rrV 2 s.data.toList), .int .i64 (rrV 3 s.data.toList), .int .i64 (rrV 4 s.data.toList), .slice A0 n0 c0], .bool (rrOk s.data.toList)]) ∧ RowM 57 w' w.heap.size (.slice A0 n0 c0) (rrMs s.data.toList) ∧ Below w.heap.size w w' := by
  obtain ⟨i0, hi, hz0, hz1, hz2⟩ := info_parts Tryd.info_i64
  have HI := Lib.hid hi
  have HZ0 := Lib.hid hz0
  have HZ1 := Lib.hid hz1
  have HZ2 := Lib.hid hz2
  clear hi hz0 hz1 hz2
  obtain ⟨i1, hi, hz0, hz1, hz2⟩ := info_parts Tryd.info_md
  have MI := Lib.hid hi
  have MZ0 := Lib.hid hz0
  have MZ1 := Lib.hid hz1
  have MZ2 := Lib.hid hz2
  clear hi hz0 hz1 hz2
  have HSP := Lib.hid (fun (W : World) => l01Split_any W s hs 32 32 (by rfl))
  have HSQ := Lib.hid (fun (W : World) (p : List UInt8) (h : p.length ≤ 1048576) (c : UInt8) (b : Int) (hb : b = (c.toNat : Int)) => l01Split_any W ⟨p.toArray⟩ (by rw [psize]; exact h) c b hb)
  have HRN := Lib.hid (fun (W : World) (p : List UInt8) (h : p.length ≤ 1048576) => (l01Number_any W ⟨p.toArray⟩ (by rw [psize]; omega)).mono (fun e w' q => (⟨q.1, q.2.symm⟩ : _ ∧ W = w')))
  simp only [numV_size] at HSQ HRN
  have HPL := Lib.hid (fun p (h : p ∈ splitL 32 s.data.toList) => split_part p h)
  have HSL := Lib.hid (size_len s)
  obtain ⟨L, hL⟩ : ∃ L, L = s.data.toList := ⟨_, rfl⟩
  rw [← hL] at HSP HPL HSL ⊢
  clear hL
  have SR0 := Lib.hid (SInv.fresh w #[.string ⟨#[]⟩, .int .i64 0, .int .i64 0, .int .i64 0, .int .i64 0, .slice none 0 0] 32)
  go_enter Tryd.func11, Tryd.ntmps11
  go_wp2_with fail
  refine (HSP.out _).mono ?_
  rintro e w1 ⟨g, cap, rfl, gB, gl, hcc, hb⟩
  have H1 := Lib.hid (show Below w.heap.size w w1 by repeat (first | (with_reducible exact Below.refl _ _) | (with_reducible assumption) | ((with_reducible refine bl_alloc ?_ _ ?_); (focus ((first | omega | (simp <;> omega)); done))) | ((with_reducible refine bl_set ?_ _ ?_); (focus ((first | omega | (simp <;> omega)); done))) | (with_reducible refine below_drewN ?_ _) | (with_reducible refine Below.drew ?_) | ((with_reducible refine bl_trans ?_ hb ?_); (focus ((first | omega | (simp <;> omega)); done)))))
  have SR1 := Lib.hid (SR0.out.later hb)
  have HCC := Lib.hid hcc
  have q1_ := hb.size
  simp at q1_
  clear hcc hb HSP SR0
  have z0 := SR1.out.cell 0 _ rfl
  have z1 := SR1.out.cell 1 _ rfl
  have z2 := SR1.out.cell 2 _ rfl
  have z3 := SR1.out.cell 3 _ rfl
  have z4 := SR1.out.cell 4 _ rfl
  have z5 := SR1.out.cell 5 _ rfl
  have zf := SR1.out.free
  have zl := SR1.out.lt
  by_cases h6 : (splitL 32 L).length = 6
  rotate_left
  · have HN := Lib.hid (rr_no (rr_no6 h6))
    obtain ⟨N, hN⟩ : ∃ N, N = (splitL 32 L).length := ⟨_, rfl⟩
    rw [← hN] at h6 ⊢
    clear hN HCC HPL
    have q1 : ((N : Int) == 6) = false := by rw [beq_eq_false_iff_ne]; omega
    have q2 : ((N : Int) != 6) = true := by rw [bne_iff_ne]; omega
    have q3 : ¬ (N : Int) = 6 := by omega
    go_wp2_with fail
    refine bodyPost_ret (v := .tuple #[.agg #[.string ⟨#[]⟩, .int .i64 0, .int .i64 0, .int .i64 0, .int .i64 0, .slice none 0 0], .bool false]) (by simp [results, Tryd.results11, go_sem, *]) rfl ?_
    rw [HN.out.1, HN.out.2.1, HN.out.2.2.1, HN.out.2.2.2.1, HN.out.2.2.2.2.1, HN.out.2.2.2.2.2.1, HN.out.2.2.2.2.2.2]
    exact ⟨_, _, _, rfl, RowM.nil_, by repeat (first | (with_reducible exact Below.refl _ _) | (with_reducible assumption) | ((with_reducible refine bl_alloc ?_ _ ?_); (focus ((first | omega | (simp <;> omega)); done))) | ((with_reducible refine bl_set ?_ _ ?_); (focus ((first | omega | (simp <;> omega)); done))) | (with_reducible refine below_drewN ?_ _) | (with_reducible refine Below.drew ?_) | ((with_reducible refine bl_trans ?_ H1.out ?_); (focus ((first | omega | (simp <;> omega)); done))))⟩
  have HNO := Lib.hid (fun (h : ¬ rrOk L = true) => rr_no (L := L) (not_true h))
  have HYES := Lib.hid (fun h => rr_yes (L := L) h)
  have HNUM := Lib.hid (fun h => rr_nums (L := L) h)
  have HMOD := Lib.hid (fun h => rr_modes (L := L) h)
  have HGOOD := Lib.hid (fun h1 h2 h3 h4 h8 hp => rr_good (L := L) h6 h1 h2 h3 h4 h8 hp)
  have HIS := Lib.hid (fun hb ht => rr_is (L := L) h6 hb ht)
  have HNOB := Lib.hid (fun h => rr_no (rr_nob (L := L) h))
  have p0 := part_mem (ps := splitL 32 L) (k := 0) (by omega)
  have p1 := part_mem (ps := splitL 32 L) (k := 1) (by omega)
  have p2 := part_mem (ps := splitL 32 L) (k := 2) (by omega)
  have p3 := part_mem (ps := splitL 32 L) (k := 3) (by omega)
  have p4 := part_mem (ps := splitL 32 L) (k := 4) (by omega)
  have p5 := part_mem (ps := splitL 32 L) (k := 5) (by omega)
  have c0 := HCC.out 0 _ p0.2
  have c1 := HCC.out 1 _ p1.2
  have c2 := HCC.out 2 _ p2.2
  have c3 := HCC.out 3 _ p3.2
  have c4 := HCC.out 4 _ p4.2
  have c5 := HCC.out 5 _ p5.2
  have l0 := HPL.out _ p0.1
  have l1 := HPL.out _ p1.1
  have l2 := HPL.out _ p2.1
  have l3 := HPL.out _ p3.1
  have l4 := HPL.out _ p4.1
  have l5 := HPL.out _ p5.1
  rw [h6]
  change w1.cell? _ = some (encL (rrW 0 L)) at c0
  change (rrW 0 L).length ≤ _ at l0
  change w1.cell? _ = some (encL (rrW 1 L)) at c1
  change (rrW 1 L).length ≤ _ at l1
  change w1.cell? _ = some (encL (rrW 2 L)) at c2
  change (rrW 2 L).length ≤ _ at l2
  change w1.cell? _ = some (encL (rrW 3 L)) at c3
  change (rrW 3 L).length ≤ _ at l3
  change w1.cell? _ = some (encL (rrW 4 L)) at c4
  change (rrW 4 L).length ≤ _ at l4
  change w1.cell? _ = some (encL (rrW 5 L)) at c5
  change (rrW 5 L).length ≤ _ at l5
  clear p0 p1 p2 p3 p4 p5 h6 HCC HPL
  have ll := HSL.out
  have ce0 : w1.cell? ⟨g, 0, none⟩ = some (.string (rrS L)) := c0
  have HSS := Lib.hid (show (rrS L).size ≤ maxLen by unfold rrS maxLen; rw [psize]; omega)
  have HP5 := Lib.hid (fun W => HSQ.out W (rrW 5 L) (by omega) 44 44 (by rfl))
  have HPL := Lib.hid (fun p (h : p ∈ splitL 44 (rrW 5 L)) => Nat.le_trans (split_part p h) (show (rrW 5 L).length ≤ 1048576 by omega))
  have HN1 := Lib.hid (fun W => HRN.out W (rrW 1 L) (by omega))
  have HN2 := Lib.hid (fun W => HRN.out W (rrW 2 L) (by omega))
  have HN3 := Lib.hid (fun W => HRN.out W (rrW 3 L) (by omega))
  have HN4 := Lib.hid (fun W => HRN.out W (rrW 4 L) (by omega))
  obtain ⟨e1, he1⟩ : ∃ z : ByteArray, z = ⟨(rrW 1 L).toArray⟩ := ⟨_, rfl⟩
  rw [← he1] at HN1
  rw [show encL (rrW 1 L) = .string e1 by rw [he1]; rfl] at c1
  clear he1
  obtain ⟨e2, he2⟩ : ∃ z : ByteArray, z = ⟨(rrW 2 L).toArray⟩ := ⟨_, rfl⟩
  rw [← he2] at HN2
  rw [show encL (rrW 2 L) = .string e2 by rw [he2]; rfl] at c2
  clear he2
  obtain ⟨e3, he3⟩ : ∃ z : ByteArray, z = ⟨(rrW 3 L).toArray⟩ := ⟨_, rfl⟩
  rw [← he3] at HN3
  rw [show encL (rrW 3 L) = .string e3 by rw [he3]; rfl] at c3
  clear he3
  obtain ⟨e4, he4⟩ : ∃ z : ByteArray, z = ⟨(rrW 4 L).toArray⟩ := ⟨_, rfl⟩
  rw [← he4] at HN4
  rw [show encL (rrW 4 L) = .string e4 by rw [he4]; rfl] at c4
  clear he4
  obtain ⟨e5, he5⟩ : ∃ z : ByteArray, z = ⟨(rrW 5 L).toArray⟩ := ⟨_, rfl⟩
  rw [← he5] at HP5
  rw [show encL (rrW 5 L) = .string e5 by rw [he5]; rfl] at c5
  clear he5
  obtain ⟨es, hes⟩ : ∃ z, z = rrS L := ⟨_, rfl⟩
  have HRB : Hid (rrB L = radB (rrS L) (numV (rrW 1 L)) (numV (rrW 2 L)) (numV (rrW 3 L)) (numV (rrW 4 L)) (rrM L)) := rfl
  rw [← hes] at ce0 HSS HRB HYES
  clear hes c0 l0 l1 l2 l3 l4 l5
  obtain ⟨v1, hv1⟩ : ∃ z, z = numV (rrW 1 L) := ⟨_, rfl⟩
  obtain ⟨o1, ho1⟩ : ∃ z, z = numB (rrW 1 L) := ⟨_, rfl⟩
  rw [← hv1, ← ho1] at HN1
  rw [← hv1] at HRB HYES
  rw [← ho1] at HNUM HGOOD
  clear hv1 ho1
  obtain ⟨v2, hv2⟩ : ∃ z, z = numV (rrW 2 L) := ⟨_, rfl⟩
  obtain ⟨o2, ho2⟩ : ∃ z, z = numB (rrW 2 L) := ⟨_, rfl⟩
  rw [← hv2, ← ho2] at HN2
  rw [← hv2] at HRB HYES
  rw [← ho2] at HNUM HGOOD
  clear hv2 ho2
  obtain ⟨v3, hv3⟩ : ∃ z, z = numV (rrW 3 L) := ⟨_, rfl⟩
  obtain ⟨o3, ho3⟩ : ∃ z, z = numB (rrW 3 L) := ⟨_, rfl⟩
  rw [← hv3, ← ho3] at HN3
  rw [← hv3] at HRB HYES
  rw [← ho3] at HNUM HGOOD
  clear hv3 ho3
  obtain ⟨v4, hv4⟩ : ∃ z, z = numV (rrW 4 L) := ⟨_, rfl⟩
  obtain ⟨o4, ho4⟩ : ∃ z, z = numB (rrW 4 L) := ⟨_, rfl⟩
  rw [← hv4, ← ho4] at HN4
  rw [← hv4] at HRB HYES
  rw [← ho4] at HNUM HGOOD
  clear hv4 ho4
  obtain ⟨P, hP⟩ : ∃ z, z = splitL 44 (rrW 5 L) := ⟨_, rfl⟩
  rw [← hP] at HP5 HPL HMOD HGOOD
  clear hP HSL
  clear z0 z1 z2 z3 z4 z5 zf zl
  go_wp2_with fail
  go_loopw [5, 6] (fun t i wr => Hid (Below w1.heap.size w1 wr) ∧ ((i = .int .i64 1 ∧ Hid (Row 2 wr w1.heap.size t [])) ∨ (i = .int .i64 2 ∧ o1 = true ∧ Hid (Row 2 wr w1.heap.size t [v1])) ∨ (i = .int .i64 3 ∧ o1 = true ∧ o2 = true ∧ Hid (Row 2 wr w1.heap.size t [v1, v2])) ∨ (i = .int .i64 4 ∧ o1 = true ∧ o2 = true ∧ o3 = true ∧ Hid (Row 2 wr w1.heap.size t [v1, v2, v3])) ∨ (i = .int .i64 5 ∧ o1 = true ∧ o2 = true ∧ o3 = true ∧ o4 = true ∧ Hid (Row 2 wr w1.heap.size t [v1, v2, v3, v4])))) (fun _ i _ => 6 - (intOf i).toNat)
  case atStart => exact ⟨(show Below _ _ _ by repeat (first | (with_reducible exact Below.refl _ _) | (with_reducible assumption) | ((with_reducible refine bl_alloc ?_ _ ?_); (focus ((first | omega | (simp <;> omega)); done))) | ((with_reducible refine bl_set ?_ _ ?_); (focus ((first | omega | (simp <;> omega)); done))) | (with_reducible refine below_drewN ?_ _) | (with_reducible refine Below.drew ?_))), .inl ⟨rfl, (show Row _ _ _ _ _ from app_row0 w1 (Nat.le_refl _))⟩⟩
  case round =>
    obtain ⟨hb, hrel⟩ := hrel
    have zw := hb.out.size
    have HBW := Lib.hid (show Below w.heap.size w wr by repeat (first | (with_reducible exact Below.refl _ _) | (with_reducible assumption) | ((with_reducible refine bl_alloc ?_ _ ?_); (focus ((first | omega | (simp <;> omega)); done))) | ((with_reducible refine bl_set ?_ _ ?_); (focus ((first | omega | (simp <;> omega)); done))) | (with_reducible refine below_drewN ?_ _) | (with_reducible refine Below.drew ?_) | ((with_reducible refine bl_trans ?_ hb.out ?_); (focus ((first | omega | (simp <;> omega)); done))) | ((with_reducible refine bl_trans ?_ H1.out ?_); (focus ((first | omega | (simp <;> omega)); done)))))
    have SR2 := Lib.hid (SR1.out.later hb.out)
    have z0 := SR2.out.cell 0 _ rfl
    have z1 := SR2.out.cell 1 _ rfl
    have z2 := SR2.out.cell 2 _ rfl
    have z3 := SR2.out.cell 3 _ rfl
    have z4 := SR2.out.cell 4 _ rfl
    have z5 := SR2.out.cell 5 _ rfl
    have zf := SR2.out.free
    have zl := SR2.out.lt
    rcases hrel with ⟨rfl, hr⟩ | ⟨rfl, t1, hr⟩ | ⟨rfl, t1, t2, hr⟩ | ⟨rfl, t1, t2, t3, hr⟩ | ⟨rfl, t1, t2, t3, t4, hr⟩
    · have ck := (hb.out.cell (p := ⟨g, 1, none⟩) gl).trans c1
      have hb1 : ∀ q : Unit, True := fun _ => trivial
      rcases bool_tf o1 with ho | ho
      rotate_left
      · rw [ho] at HN1
        have HN := Lib.hid (HNO.out (fun h => by have := (HNUM.out h).1; rw [ho] at this; cases this))
        go_wp2_with fail
        refine (HN1.out _).mono ?_
        rintro e w2_ ⟨rfl, rfl⟩
        go_wp2_with fail
        refine bodyPost_ret (v := .tuple #[.agg #[.string ⟨#[]⟩, .int .i64 0, .int .i64 0, .int .i64 0, .int .i64 0, .slice none 0 0], .bool false]) (by simp [results, Tryd.results11, go_sem, *]) rfl ?_
        rw [HN.out.1, HN.out.2.1, HN.out.2.2.1, HN.out.2.2.2.1, HN.out.2.2.2.2.1, HN.out.2.2.2.2.2.1, HN.out.2.2.2.2.2.2]
        exact ⟨_, _, _, rfl, RowM.nil_, by repeat (first | (with_reducible exact Below.refl _ _) | (with_reducible assumption) | ((with_reducible refine bl_alloc ?_ _ ?_); (focus ((first | omega | (simp <;> omega)); done))) | ((with_reducible refine bl_set ?_ _ ?_); (focus ((first | omega | (simp <;> omega)); done))) | (with_reducible refine below_drewN ?_ _) | (with_reducible refine Below.drew ?_) | ((with_reducible refine bl_trans ?_ HBW.out ?_); (focus ((first | omega | (simp <;> omega)); done))))⟩
      · rw [ho] at HN1
        clear z0 z1 z2 z3 z4 z5 zf zl
        go_wp2_with fail
        refine (HN1.out _).mono ?_
        rintro e w2_ ⟨rfl, rfl⟩
        go_wp2_with (first | (at_builtin; refine wpList_append_own _ rfl _ _ 22 rfl (w1.heap.size) 2 i0 (.int .i64 0) 1 8 Tryd.underlying22 HI.out HZ0.out HZ1.out HZ2.out rfl (by decide) _ _ _ rfl (hr.out.alloc_ _) ⟨wr.heap.size, 0, none⟩ 1 1 [.int .i64 v1] rfl rfl ?c1a ?c2a ?c3a ?c4a ?c5a ?_))
        try case c1a =>
          intro j u hj
          match j, hj with
          | 0, hj => simp at hj; subst hj; simp [Addr.add]
        try case c2a => first | rfl | (intro u hu; simp at hu; subst hu; rfl)
        try case c3a => first | (unfold maxLen; simp; done) | (unfold maxLen; (try simp); omega)
        try case c4a => first | (simp; done) | ((try simp); omega)
        try case c5a => first | omega | (simp; done) | (simp; omega)
        · intro v' w3 hown hgrow _
          have hr3 : Hid (Row 2 w3 w1.heap.size v' [v1]) := app_row (ys := []) (by rfl) hown
          have hb3 := app_below (hr.out.alloc_ _) hgrow (by simp; omega)
          have H3 := Lib.hid (show Below w1.heap.size w1 w3 from (bl_alloc zw _ hb.out).trans hb3)
          clear hown hgrow hb3 hr
          go_wp2_with fail
          exact ⟨⟨H3, .inr (.inl ⟨rfl, ho, hr3⟩)⟩, by simp [intOf]⟩
    · have ck := (hb.out.cell (p := ⟨g, 2, none⟩) gl).trans c2
      have hb1 : ∀ q : Unit, True := fun _ => trivial
      rcases bool_tf o2 with ho | ho
      rotate_left
      · rw [ho] at HN2
        have HN := Lib.hid (HNO.out (fun h => by have := (HNUM.out h).2.1; rw [ho] at this; cases this))
        go_wp2_with fail
        refine (HN2.out _).mono ?_
        rintro e w2_ ⟨rfl, rfl⟩
        go_wp2_with fail
        refine bodyPost_ret (v := .tuple #[.agg #[.string ⟨#[]⟩, .int .i64 0, .int .i64 0, .int .i64 0, .int .i64 0, .slice none 0 0], .bool false]) (by simp [results, Tryd.results11, go_sem, *]) rfl ?_
        rw [HN.out.1, HN.out.2.1, HN.out.2.2.1, HN.out.2.2.2.1, HN.out.2.2.2.2.1, HN.out.2.2.2.2.2.1, HN.out.2.2.2.2.2.2]
        exact ⟨_, _, _, rfl, RowM.nil_, by repeat (first | (with_reducible exact Below.refl _ _) | (with_reducible assumption) | ((with_reducible refine bl_alloc ?_ _ ?_); (focus ((first | omega | (simp <;> omega)); done))) | ((with_reducible refine bl_set ?_ _ ?_); (focus ((first | omega | (simp <;> omega)); done))) | (with_reducible refine below_drewN ?_ _) | (with_reducible refine Below.drew ?_) | ((with_reducible refine bl_trans ?_ HBW.out ?_); (focus ((first | omega | (simp <;> omega)); done))))⟩
      · rw [ho] at HN2
        clear z0 z1 z2 z3 z4 z5 zf zl
        go_wp2_with fail
        refine (HN2.out _).mono ?_
        rintro e w2_ ⟨rfl, rfl⟩
        go_wp2_with (first | (at_builtin; refine wpList_append_own _ rfl _ _ 22 rfl (w1.heap.size) 2 i0 (.int .i64 0) 1 8 Tryd.underlying22 HI.out HZ0.out HZ1.out HZ2.out rfl (by decide) _ _ _ rfl (hr.out.alloc_ _) ⟨wr.heap.size, 0, none⟩ 1 1 [.int .i64 v2] rfl rfl ?c1a ?c2a ?c3a ?c4a ?c5a ?_))
        try case c1a =>
          intro j u hj
          match j, hj with
          | 0, hj => simp at hj; subst hj; simp [Addr.add]
        try case c2a => first | rfl | (intro u hu; simp at hu; subst hu; rfl)
        try case c3a => first | (unfold maxLen; simp; done) | (unfold maxLen; (try simp); omega)
        try case c4a => first | (simp; done) | ((try simp); omega)
        try case c5a => first | omega | (simp; done) | (simp; omega)
        · intro v' w3 hown hgrow _
          have hr3 : Hid (Row 2 w3 w1.heap.size v' [v1, v2]) := app_row (ys := [v1]) (by rfl) hown
          have hb3 := app_below (hr.out.alloc_ _) hgrow (by simp; omega)
          have H3 := Lib.hid (show Below w1.heap.size w1 w3 from (bl_alloc zw _ hb.out).trans hb3)
          clear hown hgrow hb3 hr
          go_wp2_with fail
          exact ⟨⟨H3, .inr (.inr (.inl ⟨rfl, t1, ho, hr3⟩))⟩, by simp [intOf]⟩
    · have ck := (hb.out.cell (p := ⟨g, 3, none⟩) gl).trans c3
      have hb1 : ∀ q : Unit, True := fun _ => trivial
      rcases bool_tf o3 with ho | ho
      rotate_left
      · rw [ho] at HN3
        have HN := Lib.hid (HNO.out (fun h => by have := (HNUM.out h).2.2.1; rw [ho] at this; cases this))
        go_wp2_with fail
        refine (HN3.out _).mono ?_
        rintro e w2_ ⟨rfl, rfl⟩
        go_wp2_with fail
        refine bodyPost_ret (v := .tuple #[.agg #[.string ⟨#[]⟩, .int .i64 0, .int .i64 0, .int .i64 0, .int .i64 0, .slice none 0 0], .bool false]) (by simp [results, Tryd.results11, go_sem, *]) rfl ?_
        rw [HN.out.1, HN.out.2.1, HN.out.2.2.1, HN.out.2.2.2.1, HN.out.2.2.2.2.1, HN.out.2.2.2.2.2.1, HN.out.2.2.2.2.2.2]
        exact ⟨_, _, _, rfl, RowM.nil_, by repeat (first | (with_reducible exact Below.refl _ _) | (with_reducible assumption) | ((with_reducible refine bl_alloc ?_ _ ?_); (focus ((first | omega | (simp <;> omega)); done))) | ((with_reducible refine bl_set ?_ _ ?_); (focus ((first | omega | (simp <;> omega)); done))) | (with_reducible refine below_drewN ?_ _) | (with_reducible refine Below.drew ?_) | ((with_reducible refine bl_trans ?_ HBW.out ?_); (focus ((first | omega | (simp <;> omega)); done))))⟩
      · rw [ho] at HN3
        clear z0 z1 z2 z3 z4 z5 zf zl
        go_wp2_with fail
        refine (HN3.out _).mono ?_
        rintro e w2_ ⟨rfl, rfl⟩
        go_wp2_with (first | (at_builtin; refine wpList_append_own _ rfl _ _ 22 rfl (w1.heap.size) 2 i0 (.int .i64 0) 1 8 Tryd.underlying22 HI.out HZ0.out HZ1.out HZ2.out rfl (by decide) _ _ _ rfl (hr.out.alloc_ _) ⟨wr.heap.size, 0, none⟩ 1 1 [.int .i64 v3] rfl rfl ?c1a ?c2a ?c3a ?c4a ?c5a ?_))
        try case c1a =>
          intro j u hj
          match j, hj with
          | 0, hj => simp at hj; subst hj; simp [Addr.add]
        try case c2a => first | rfl | (intro u hu; simp at hu; subst hu; rfl)
        try case c3a => first | (unfold maxLen; simp; done) | (unfold maxLen; (try simp); omega)
        try case c4a => first | (simp; done) | ((try simp); omega)
        try case c5a => first | omega | (simp; done) | (simp; omega)
        · intro v' w3 hown hgrow _
          have hr3 : Hid (Row 2 w3 w1.heap.size v' [v1, v2, v3]) := app_row (ys := [v1, v2]) (by rfl) hown
          have hb3 := app_below (hr.out.alloc_ _) hgrow (by simp; omega)
          have H3 := Lib.hid (show Below w1.heap.size w1 w3 from (bl_alloc zw _ hb.out).trans hb3)
          clear hown hgrow hb3 hr
          go_wp2_with fail
          exact ⟨⟨H3, .inr (.inr (.inr (.inl ⟨rfl, t1, t2, ho, hr3⟩)))⟩, by simp [intOf]⟩
    · have ck := (hb.out.cell (p := ⟨g, 4, none⟩) gl).trans c4
      have hb1 : ∀ q : Unit, True := fun _ => trivial
      rcases bool_tf o4 with ho | ho
      rotate_left
      · rw [ho] at HN4
        have HN := Lib.hid (HNO.out (fun h => by have := (HNUM.out h).2.2.2; rw [ho] at this; cases this))
        go_wp2_with fail
        refine (HN4.out _).mono ?_
        rintro e w2_ ⟨rfl, rfl⟩
        go_wp2_with fail
        refine bodyPost_ret (v := .tuple #[.agg #[.string ⟨#[]⟩, .int .i64 0, .int .i64 0, .int .i64 0, .int .i64 0, .slice none 0 0], .bool false]) (by simp [results, Tryd.results11, go_sem, *]) rfl ?_
        rw [HN.out.1, HN.out.2.1, HN.out.2.2.1, HN.out.2.2.2.1, HN.out.2.2.2.2.1, HN.out.2.2.2.2.2.1, HN.out.2.2.2.2.2.2]
        exact ⟨_, _, _, rfl, RowM.nil_, by repeat (first | (with_reducible exact Below.refl _ _) | (with_reducible assumption) | ((with_reducible refine bl_alloc ?_ _ ?_); (focus ((first | omega | (simp <;> omega)); done))) | ((with_reducible refine bl_set ?_ _ ?_); (focus ((first | omega | (simp <;> omega)); done))) | (with_reducible refine below_drewN ?_ _) | (with_reducible refine Below.drew ?_) | ((with_reducible refine bl_trans ?_ HBW.out ?_); (focus ((first | omega | (simp <;> omega)); done))))⟩
      · rw [ho] at HN4
        clear z0 z1 z2 z3 z4 z5 zf zl
        go_wp2_with fail
        refine (HN4.out _).mono ?_
        rintro e w2_ ⟨rfl, rfl⟩
        go_wp2_with (first | (at_builtin; refine wpList_append_own _ rfl _ _ 22 rfl (w1.heap.size) 2 i0 (.int .i64 0) 1 8 Tryd.underlying22 HI.out HZ0.out HZ1.out HZ2.out rfl (by decide) _ _ _ rfl (hr.out.alloc_ _) ⟨wr.heap.size, 0, none⟩ 1 1 [.int .i64 v4] rfl rfl ?c1a ?c2a ?c3a ?c4a ?c5a ?_))
        try case c1a =>
          intro j u hj
          match j, hj with
          | 0, hj => simp at hj; subst hj; simp [Addr.add]
        try case c2a => first | rfl | (intro u hu; simp at hu; subst hu; rfl)
        try case c3a => first | (unfold maxLen; simp; done) | (unfold maxLen; (try simp); omega)
        try case c4a => first | (simp; done) | ((try simp); omega)
        try case c5a => first | omega | (simp; done) | (simp; omega)
        · intro v' w3 hown hgrow _
          have hr3 : Hid (Row 2 w3 w1.heap.size v' [v1, v2, v3, v4]) := app_row (ys := [v1, v2, v3]) (by rfl) hown
          have hb3 := app_below (hr.out.alloc_ _) hgrow (by simp; omega)
          have H3 := Lib.hid (show Below w1.heap.size w1 w3 from (bl_alloc zw _ hb.out).trans hb3)
          clear hown hgrow hb3 hr
          go_wp2_with fail
          exact ⟨⟨H3, .inr (.inr (.inr (.inr (⟨rfl, t1, t2, t3, ho, hr3⟩))))⟩, by simp [intOf]⟩
    · rcases hr.out.forms with ⟨_, hz⟩ | ⟨gn, cn, rfl, gnB, gnl, hcn, _⟩
      · cases hz
      have m0 : wr.cell? ⟨gn, 0, none⟩ = some (.int .i64 v1) := hcn 0 (by simp)
      have m1 : wr.cell? ⟨gn, 1, none⟩ = some (.int .i64 v2) := hcn 1 (by simp)
      have m2 : wr.cell? ⟨gn, 2, none⟩ = some (.int .i64 v3) := hcn 2 (by simp)
      have m3 : wr.cell? ⟨gn, 3, none⟩ = some (.int .i64 v4) := hcn 3 (by simp)
      have ck := (hb.out.cell (p := ⟨g, 0, none⟩) gl).trans ce0
      have ck5 := (hb.out.cell (p := ⟨g, 5, none⟩) gl).trans c5
      clear hcn z0 z1 z2 z3 z4 z5 zf zl
      simp only [List.length_cons, List.length_nil]
      go_wp2_with fail
      go_region_held3 (fun w' => w'.cell? ⟨g, 0, none⟩ = some (.string es) ∧ w'.cell? ⟨gn, 0, none⟩ = some (.int .i64 v1) ∧ w'.cell? ⟨gn, 1, none⟩ = some (.int .i64 v2) ∧ w'.cell? ⟨gn, 2, none⟩ = some (.int .i64 v3) ∧ w'.cell? ⟨gn, 3, none⟩ = some (.int .i64 v4))
        (((try go_split_ands); (refine ⟨?_, ?_, ?_, ?_, ?_⟩ <;> (repeat (first | (with_reducible assumption) | (with_reducible refine cell_drew ?_) | (with_reducible refine cell_drewN ?_) | (with_reducible refine cell_alloc ?_ _) | fail)))))
        (fail)
      obtain ⟨w2, hw2⟩ : ∃ x, x = (wr.alloc (.cells #[.string es, .int .i64 v1, .int .i64 v2, .int .i64 v3, .int .i64 v4, .slice none 0 0] 32)).drew := ⟨_, rfl⟩
      rw [← hw2]
      have hb2 : Below wr.heap.size wr w2 := by rw [hw2]; repeat (first | (with_reducible exact Below.refl _ _) | (with_reducible assumption) | ((with_reducible refine bl_alloc ?_ _ ?_); (focus ((first | omega | (simp <;> omega)); done))) | ((with_reducible refine bl_set ?_ _ ?_); (focus ((first | omega | (simp <;> omega)); done))) | (with_reducible refine below_drewN ?_ _) | (with_reducible refine Below.drew ?_))
      have SO := Lib.hid (show SInv w2 wr.heap.size [.string es, .int .i64 v1, .int .i64 v2, .int .i64 v3, .int .i64 v4, .slice none 0 0] by rw [hw2]; exact (SInv.fresh wr #[.string es, .int .i64 v1, .int .i64 v2, .int .i64 v3, .int .i64 v4, .slice none 0 0] 32).draw1)
      have ck5b := keeps hb2 ck5
      have SR3 := Lib.hid (SR2.out.later hb2)
      have HB2 := Lib.hid (HBW.out.trans (hb2.mono HBW.out.size))
      have q2_ := hb2.size
      obtain ⟨O, hO⟩ : ∃ x, x = wr.heap.size := ⟨_, rfl⟩
      rw [← hO] at SO zw ⊢
      have lO := SO.out.lt
      clear hw2 ck ck5 m0 m1 m2 m3 hb2 hb HBW SR2 hO hr gnl gnB q2_
      go_wp2_with fail
      refine (HP5.out _).mono ?_
      rintro e w3 ⟨gp, cp, rfl, gpB, gpl, hcp, hb⟩
      have HB3 := Lib.hid (show Below w.heap.size w w3 from HB2.out.trans (hb.mono HB2.out.size))
      have SO3 := Lib.hid (SO.out.later hb)
      have SR4 := Lib.hid (SR3.out.later hb)
      have HCP := Lib.hid hcp
      have lO3 := SO3.out.lt
      clear hb hcp SO SR3 ck5b HP5
      obtain ⟨N, hN⟩ : ∃ N, N = P.length := ⟨_, rfl⟩
      have HNL := Lib.hid hN.symm
      rw [← hN]
      clear hN
      have n0_ : (0 : Int) ≤ (N : Int) := Int.natCast_nonneg _
      by_cases h8 : N ≤ 8
      rotate_left
      · have h8' : (8 : Int) < (N : Int) := by omega
        have HN := Lib.hid (HNO.out (fun h => by have := (HMOD.out h).1; have := HNL.out; omega))
        have z0 := SR4.out.cell 0 _ rfl
        have z1 := SR4.out.cell 1 _ rfl
        have z2 := SR4.out.cell 2 _ rfl
        have z3 := SR4.out.cell 3 _ rfl
        have z4 := SR4.out.cell 4 _ rfl
        have z5 := SR4.out.cell 5 _ rfl
        have zf := SR4.out.free
        have zl := SR4.out.lt
        go_wp2_with fail
        refine bodyPost_ret (v := .tuple #[.agg #[.string ⟨#[]⟩, .int .i64 0, .int .i64 0, .int .i64 0, .int .i64 0, .slice none 0 0], .bool false]) (by simp [results, Tryd.results11, go_sem, *]) rfl ?_
        rw [HN.out.1, HN.out.2.1, HN.out.2.2.1, HN.out.2.2.2.1, HN.out.2.2.2.2.1, HN.out.2.2.2.2.2.1, HN.out.2.2.2.2.2.2]
        exact ⟨_, _, _, rfl, RowM.nil_, by repeat (first | (with_reducible exact Below.refl _ _) | (with_reducible assumption) | ((with_reducible refine bl_alloc ?_ _ ?_); (focus ((first | omega | (simp <;> omega)); done))) | ((with_reducible refine bl_set ?_ _ ?_); (focus ((first | omega | (simp <;> omega)); done))) | (with_reducible refine below_drewN ?_ _) | (with_reducible refine Below.drew ?_) | ((with_reducible refine bl_trans ?_ HB3.out ?_); (focus ((first | omega | (simp <;> omega)); done))))⟩
      have h8' : (N : Int) ≤ 8 := by omega
      go_wp2_with fail
      go_loopw [11] (fun i wr => ∃ (j : Nat) (t : Value), j ≤ N ∧ i = .int .i64 (j : Int) ∧ Hid (SInv wr O [.string es, .int .i64 v1, .int .i64 v2, .int .i64 v3, .int .i64 v4, t]) ∧ Hid (RowM 57 wr w3.heap.size t ((P.take j).map cutM)) ∧ Hid (∀ k, k < j → partOk (P.getD k [])) ∧ Hid (Writes w3 wr (fun b => b = O))) (fun i _ => N + 1 - (intOf i).toNat)
      case atStart => exact ⟨0, .slice none 0 0, Nat.zero_le _, rfl, SO3, (show RowM _ _ _ _ _ by rw [List.take_zero, List.map_nil]; exact RowM.nil_), (fun k hk => absurd hk (by omega)), (show Writes _ _ _ from Writes.of_below (Below.refl _ _) _)⟩
      case round =>
        obtain ⟨j, t, hj, rfl, hs, hr, hpo, hw⟩ := hrel
        have j0 : (0 : Int) ≤ (j : Int) := Int.natCast_nonneg _
        have zw2 := hw.out.size
        have SRr := Lib.hid (SR4.out.writes hw.out (by omega))
        have HBr := Lib.hid (show Below w.heap.size w wr from HB3.out.trans (hw.out.below HB3.out.size (fun b hb => by subst hb; omega)))
        by_cases hlt : j < N
        · have hlt' : (j : Int) < (N : Int) := by omega
          have HLE := Lib.hid (show j + 1 ≤ N by omega)
          have hm := part_mem (ps := P) (k := j) (by rw [HNL.out]; exact hlt)
          have ck := keepsW hw.out (HCP.out j _ hm.2) (by show ¬ gp = O; omega)
          have hpl := HPL.out _ hm.1
          have htk := Lib.hid (take_part (ps := P) (k := j) (by rw [HNL.out]; exact hlt))
          have hOK := Lib.hid (fun h : rrOk L = true => (HMOD.out h).2 _ hm.1)
          have hlen : ((P.take j).map cutM).length = j := by rw [List.length_map, List.length_take, HNL.out]; omega
          obtain ⟨p, hp⟩ : ∃ p, p = P.getD j [] := ⟨_, rfl⟩
          have HPJ := Lib.hid hp
          rw [← hp] at ck hpl htk hOK
          clear hm hp
          have HS47 := Lib.hid (fun W => HSQ.out W p hpl 47 47 (by rfl))
          have HQL := Lib.hid (fun u (h : u ∈ splitL 47 p) => Nat.le_trans (split_part u h) hpl)
          have HTWO := Lib.hid (fun h => (part_two (t := p) h).2)
          have HPO : Hid ((splitL 47 p).length = 2 → numB ((splitL 47 p).getD 0 []) = true → numB ((splitL 47 p).getD 1 []) = true → partOk p) := fun a b c => ⟨a, b, c⟩
          have HOKP : Hid (rrOk L = true → (splitL 47 p).length = 2 ∧ numB ((splitL 47 p).getD 0 []) = true ∧ numB ((splitL 47 p).getD 1 []) = true) := fun h => hOK.out h
          obtain ⟨ep, hep⟩ : ∃ z : ByteArray, z = ⟨p.toArray⟩ := ⟨_, rfl⟩
          rw [← hep] at HS47
          rw [show encL p = .string ep by rw [hep]; rfl] at ck
          clear hep hOK hpl
          obtain ⟨Q, hQ⟩ : ∃ z, z = splitL 47 p := ⟨_, rfl⟩
          rw [← hQ] at HS47 HQL HTWO HPO HOKP
          clear hQ
          obtain ⟨ms, hms⟩ : ∃ z, z = (P.take j).map cutM := ⟨_, rfl⟩
          have HMS := Lib.hid hms
          rw [← hms] at hr hlen
          clear hms
          go_wp2_with fail
          refine (HS47.out _).mono ?_
          rintro e w4 ⟨gq, cq, rfl, gqB, gql, hcq, hb⟩
          have HX4 := Lib.hid (show Below wr.heap.size wr w4 from hb)
          have HB4 := Lib.hid (show Below w.heap.size w w4 from HBr.out.trans (hb.mono HBr.out.size))
          have SR5 := Lib.hid (SRr.out.later hb)
          have SO4 := Lib.hid (hs.out.later hb)
          have hr4 := Lib.hid (hr.out.later hb)
          have q4_ := hb.size
          clear hb HS47 ck SRr
          have z0 := SR5.out.cell 0 _ rfl
          have z1 := SR5.out.cell 1 _ rfl
          have z2 := SR5.out.cell 2 _ rfl
          have z3 := SR5.out.cell 3 _ rfl
          have z4 := SR5.out.cell 4 _ rfl
          have z5 := SR5.out.cell 5 _ rfl
          have zf := SR5.out.free
          have zl := SR5.out.lt
          by_cases h2 : Q.length = 2
          rotate_left
          · have HN := Lib.hid (HNO.out (fun h => h2 (HOKP.out h).1))
            obtain ⟨M, hM⟩ : ∃ N, N = Q.length := ⟨_, rfl⟩
            rw [← hM] at h2 ⊢
            clear hM hcq
            have r1 : ((M : Int) == 2) = false := by rw [beq_eq_false_iff_ne]; omega
            have r2 : ((M : Int) != 2) = true := by rw [bne_iff_ne]; omega
            have r3 : ¬ (M : Int) = 2 := by omega
            go_wp2_with fail
            refine bodyPost_ret (v := .tuple #[.agg #[.string ⟨#[]⟩, .int .i64 0, .int .i64 0, .int .i64 0, .int .i64 0, .slice none 0 0], .bool false]) (by simp [results, Tryd.results11, go_sem, *]) rfl ?_
            rw [HN.out.1, HN.out.2.1, HN.out.2.2.1, HN.out.2.2.2.1, HN.out.2.2.2.2.1, HN.out.2.2.2.2.2.1, HN.out.2.2.2.2.2.2]
            exact ⟨_, _, _, rfl, RowM.nil_, by repeat (first | (with_reducible exact Below.refl _ _) | (with_reducible assumption) | ((with_reducible refine bl_alloc ?_ _ ?_); (focus ((first | omega | (simp <;> omega)); done))) | ((with_reducible refine bl_set ?_ _ ?_); (focus ((first | omega | (simp <;> omega)); done))) | (with_reducible refine below_drewN ?_ _) | (with_reducible refine Below.drew ?_) | ((with_reducible refine bl_trans ?_ HB4.out ?_); (focus ((first | omega | (simp <;> omega)); done))))⟩
          have pa := part_mem (ps := Q) (k := 0) (by omega)
          have pb := part_mem (ps := Q) (k := 1) (by omega)
          have ca := hcq 0 _ pa.2
          have cb := hcq 1 _ pb.2
          have la := HQL.out _ pa.1
          have lb := HQL.out _ pb.1
          have HC2 := Lib.hid (HTWO.out h2)
          have HPO2 := Lib.hid (HPO.out h2)
          rw [h2]
          clear hcq pa pb HQL HTWO HPO h2
          have HNA := Lib.hid (fun W => HRN.out W (Q.getD 0 []) la)
          have HNB := Lib.hid (fun W => HRN.out W (Q.getD 1 []) lb)
          obtain ⟨ea, hea⟩ : ∃ z : ByteArray, z = ⟨(Q.getD 0 []).toArray⟩ := ⟨_, rfl⟩
          rw [← hea] at HNA
          rw [show encL (Q.getD 0 []) = .string ea by rw [hea]; rfl] at ca
          clear hea la
          obtain ⟨eb, heb⟩ : ∃ z : ByteArray, z = ⟨(Q.getD 1 []).toArray⟩ := ⟨_, rfl⟩
          rw [← heb] at HNB
          rw [show encL (Q.getD 1 []) = .string eb by rw [heb]; rfl] at cb
          clear heb lb
          obtain ⟨ua, hua⟩ : ∃ z, z = numV (Q.getD 0 []) := ⟨_, rfl⟩
          obtain ⟨oa, hoa⟩ : ∃ z, z = numB (Q.getD 0 []) := ⟨_, rfl⟩
          rw [← hua, ← hoa] at HNA
          rw [← hua] at HC2
          rw [← hoa] at HPO2 HOKP
          clear hua hoa
          obtain ⟨ub, hub⟩ : ∃ z, z = numV (Q.getD 1 []) := ⟨_, rfl⟩
          obtain ⟨ob, hob⟩ : ∃ z, z = numB (Q.getD 1 []) := ⟨_, rfl⟩
          rw [← hub, ← hob] at HNB
          rw [← hub] at HC2
          rw [← hob] at HPO2 HOKP
          clear hub hob
          go_wp2_with fail
          refine (HNA.out _).mono ?_
          rintro e wa_ ⟨rfl, rfl⟩
          go_wp2_with fail
          refine (HNB.out _).mono ?_
          rintro e wb_ ⟨rfl, rfl⟩
          clear HNA HNB ca cb
          cases oa with
          | false =>
            have HN := Lib.hid (HNO.out (fun h => by have := (HOKP.out h).2.1; cases this))
            go_wp2_with fail
            refine bodyPost_ret (v := .tuple #[.agg #[.string ⟨#[]⟩, .int .i64 0, .int .i64 0, .int .i64 0, .int .i64 0, .slice none 0 0], .bool false]) (by simp [results, Tryd.results11, go_sem, *]) rfl ?_
            rw [HN.out.1, HN.out.2.1, HN.out.2.2.1, HN.out.2.2.2.1, HN.out.2.2.2.2.1, HN.out.2.2.2.2.2.1, HN.out.2.2.2.2.2.2]
            exact ⟨_, _, _, rfl, RowM.nil_, by repeat (first | (with_reducible exact Below.refl _ _) | (with_reducible assumption) | ((with_reducible refine bl_alloc ?_ _ ?_); (focus ((first | omega | (simp <;> omega)); done))) | ((with_reducible refine bl_set ?_ _ ?_); (focus ((first | omega | (simp <;> omega)); done))) | (with_reducible refine below_drewN ?_ _) | (with_reducible refine Below.drew ?_) | ((with_reducible refine bl_trans ?_ HB4.out ?_); (focus ((first | omega | (simp <;> omega)); done))))⟩
          | true =>
            cases ob with
            | false =>
              have HN := Lib.hid (HNO.out (fun h => by have := (HOKP.out h).2.2; cases this))
              go_wp2_with fail
              refine bodyPost_ret (v := .tuple #[.agg #[.string ⟨#[]⟩, .int .i64 0, .int .i64 0, .int .i64 0, .int .i64 0, .slice none 0 0], .bool false]) (by simp [results, Tryd.results11, go_sem, *]) rfl ?_
              rw [HN.out.1, HN.out.2.1, HN.out.2.2.1, HN.out.2.2.2.1, HN.out.2.2.2.2.1, HN.out.2.2.2.2.2.1, HN.out.2.2.2.2.2.2]
              exact ⟨_, _, _, rfl, RowM.nil_, by repeat (first | (with_reducible exact Below.refl _ _) | (with_reducible assumption) | ((with_reducible refine bl_alloc ?_ _ ?_); (focus ((first | omega | (simp <;> omega)); done))) | ((with_reducible refine bl_set ?_ _ ?_); (focus ((first | omega | (simp <;> omega)); done))) | (with_reducible refine below_drewN ?_ _) | (with_reducible refine Below.drew ?_) | ((with_reducible refine bl_trans ?_ HB4.out ?_); (focus ((first | omega | (simp <;> omega)); done))))⟩
            | true =>
              have HPK : Hid (∀ k, k < j + 1 → partOk (P.getD k [])) := fun k hk => by
                by_cases q : k = j
                · subst q; rw [← HPJ.out]; exact HPO2.out rfl rfl
                · exact hpo.out k (by omega)
              have hst := Lib.hid (show (P.take (j + 1)).map cutM = ms ++ [(ua, ub)] by rw [htk.out, List.map_append, List.map_cons, List.map_nil, HC2.out, ← HMS.out])
              have y5_ := SO4.out.cell 5 _ rfl
              clear HPO2 HOKP HC2 htk hpo HPJ HMS z0 z1 z2 z3 z4 z5 zf zl
              go_wp2_with (first | (at_builtin; refine wpList_append_own _ rfl _ _ 30 rfl (w3.heap.size) 57 i1 (.agg #[.int .i64 0, .int .i64 0]) 2 16 Tryd.underlying30 MI.out MZ0.out MZ1.out MZ2.out rfl (by decide) _ j _ rfl (mowns hlen (hr4.out.alloc_ _)) ⟨w4.heap.size, 0, none⟩ 1 1 [.int .i64 ua, .int .i64 ub] rfl rfl (two_new _ _ _ _) ?c2b ?c3b ?c4b ?c5b ?_))
              try case c2b => first | rfl | (intro u hu; simp at hu; rcases hu with rfl | rfl <;> rfl)
              try case c3b => unfold maxLen; (try simp); omega
              try case c4b => (try simp); omega
              try case c5b => first | omega | (simp; omega)
              · intro v' w5 hown hgrow _
                have hr5 : Hid (RowM 57 w5 w3.heap.size v' (ms ++ [(ua, ub)])) := mapp_row hlen hown
                obtain ⟨S5, W5⟩ := push_modes hs.out lO3 (show Below wr.heap.size wr (w4.alloc (.cells #[.int .i64 ua, .int .i64 ub] 57)) from bl_alloc (by omega) _ HX4.out) (fun g h => (hr.out.lt g h).1) hgrow
                have SO5 := Lib.hid S5
                have HW5 := Lib.hid W5
                clear hown hgrow S5 W5
                rcases hr5.out.forms with ⟨_, hz⟩ | ⟨g5, c5, rfl, gB5, gl5, _, _⟩
                · exfalso; have h := congrArg List.length hz; simp at h
                have hl5 : (ms ++ [(ua, ub)]).length = j + 1 := by simp [hlen]
                rw [hl5] at hr5 ⊢
                have y5 := SO5.out.cell 5 _ rfl
                have yf := SO5.out.free
                have SO6 := Lib.hid (SO5.out.set 5 (by simp) (.slice (some ⟨g5, 0, none⟩) (j + 1) c5))
                have HR6 : Hid (RowM 57 (w5.setCell ⟨O, 5, none⟩ (.slice (some ⟨g5, 0, none⟩) (j + 1) c5)) w3.heap.size (.slice (some ⟨g5, 0, none⟩) (j + 1) c5) ((P.take (j + 1)).map cutM)) := by show RowM _ _ _ _ _; rw [hst.out]; exact RowM.other hr5.out (by simp [Value.ownBlock]; omega) _
                have HW6 : Hid (Writes w3 (w5.setCell ⟨O, 5, none⟩ (.slice (some ⟨g5, 0, none⟩) (j + 1) c5)) (fun b => b = O)) := ⟨(writes_set w5 _ _).os.trans (HW5.out.os.trans hw.out.os), (writes_set w5 _ _).tape.trans (HW5.out.tape.trans hw.out.tape), (writes_set w5 _ _).output.trans (HW5.out.output.trans hw.out.output), Nat.le_trans hw.out.size (Nat.le_trans HW5.out.size (writes_set w5 _ _).size), fun n hn hne => ((writes_set w5 _ _).block n (by have := HW5.out.size; have := hw.out.size; omega) hne).trans ((HW5.out.block n (by have := hw.out.size; omega) (fun q => by have := (hr.out.lt n q).1; omega)).trans (hw.out.block n hn hne))⟩
                clear hr5 HW5 hr
                go_wp2_with fail
                refine ⟨?_, ?_⟩
                · first
                    | ((repeat apply Exists.intro); (refine ⟨?_, rfl⟩); exact ⟨(j + 1 : Nat), .slice (some ⟨g5, 0, none⟩) (j + 1) c5, HLE.out, by go_num, SO6, HR6, HPK, HW6⟩)
                    | exact ⟨(j + 1 : Nat), .slice (some ⟨g5, 0, none⟩) (j + 1) c5, HLE.out, by go_num, SO6, HR6, HPK, HW6⟩
                · first | (simp [intOf]; done) | (simp [intOf]; omega)
        · obtain rfl : j = N := by omega
          have hpall : ∀ u ∈ P, partOk u := fun u hu => by
            obtain ⟨k, hk, rfl⟩ := List.getElem_of_mem hu
            have h := hpo.out k (by have := HNL.out; omega)
            simpa [List.getD, List.getElem?_eq_getElem hk] using h
          obtain ⟨g1, g2⟩ := HGOOD.out t1 t2 t3 t4 (by rw [HNL.out]; exact h8) hpall
          rw [List.take_of_length_le (by rw [HNL.out]; exact Nat.le_refl _)] at hr
          have HRM := Lib.hid g1
          have HRT := Lib.hid g2
          rw [← g1] at hr
          clear hpall g1 g2 hpo
          have ft : ∃ A n c, t = .slice A n c := by rcases hr.out.forms with ⟨h, _⟩ | ⟨_, _, h, _⟩ <;> exact ⟨_, _, _, h⟩
          obtain ⟨A1, n1, c1, rfl⟩ := ft
          have y0 := hs.out.cell 0 _ rfl
          have y1 := hs.out.cell 1 _ rfl
          have y2 := hs.out.cell 2 _ rfl
          have y3 := hs.out.cell 3 _ rfl
          have y4 := hs.out.cell 4 _ rfl
          have y5 := hs.out.cell 5 _ rfl
          have HOK := Lib.hid (l07Ok_any wr O es HSS.out v1 v2 v3 v4 _ (rrM L) _ hr.out y0 y1 y2 y3 y4 y5)
          rw [← HRB.out] at HOK
          obtain ⟨M, hM⟩ : ∃ M, M = rrB L := ⟨_, rfl⟩
          rw [← hM] at HOK HRT HIS HNOB
          clear hM HRB y0 y1 y2 y3 y4 y5
          go_wp2_with fail
          refine HOK.out.mono ?_
          rintro e w6 ⟨rfl, hb⟩
          have HB6 := Lib.hid (show Below w.heap.size w w6 from HBr.out.trans (hb.mono HBr.out.size))
          have SO6 := Lib.hid (hs.out.later hb)
          have SR6 := Lib.hid (SRr.out.later hb)
          have HR6 := Lib.hid (hr.out.later hb)
          clear hb HOK hr hs SRr
          have y0 := SO6.out.cell 0 _ rfl
          have y1 := SO6.out.cell 1 _ rfl
          have y2 := SO6.out.cell 2 _ rfl
          have y3 := SO6.out.cell 3 _ rfl
          have y4 := SO6.out.cell 4 _ rfl
          have y5 := SO6.out.cell 5 _ rfl
          have z0 := SR6.out.cell 0 _ rfl
          have z1 := SR6.out.cell 1 _ rfl
          have z2 := SR6.out.cell 2 _ rfl
          have z3 := SR6.out.cell 3 _ rfl
          have z4 := SR6.out.cell 4 _ rfl
          have z5 := SR6.out.cell 5 _ rfl
          have zf := SR6.out.free
          have zl := SR6.out.lt
          cases M with
          | false =>
            have HN := Lib.hid (HNOB.out rfl)
            go_wp2_with fail
            refine bodyPost_ret (v := .tuple #[.agg #[.string ⟨#[]⟩, .int .i64 0, .int .i64 0, .int .i64 0, .int .i64 0, .slice none 0 0], .bool false]) (by simp [results, Tryd.results11, go_sem, *]) rfl ?_
            rw [HN.out.1, HN.out.2.1, HN.out.2.2.1, HN.out.2.2.2.1, HN.out.2.2.2.2.1, HN.out.2.2.2.2.2.1, HN.out.2.2.2.2.2.2]
            exact ⟨_, _, _, rfl, RowM.nil_, by repeat (first | (with_reducible exact Below.refl _ _) | (with_reducible assumption) | ((with_reducible refine bl_alloc ?_ _ ?_); (focus ((first | omega | (simp <;> omega)); done))) | ((with_reducible refine bl_set ?_ _ ?_); (focus ((first | omega | (simp <;> omega)); done))) | (with_reducible refine below_drewN ?_ _) | (with_reducible refine Below.drew ?_) | ((with_reducible refine bl_trans ?_ HB6.out ?_); (focus ((first | omega | (simp <;> omega)); done))))⟩
          | true =>
            obtain ⟨a1, a2, a3, a4, a5, a6, a7⟩ := HYES.out (HIS.out rfl (HRT.out rfl))
            have HN := Lib.hid (⟨a1, a2, a3, a4, a5, a6, a7⟩ : rrN L = es ∧ rrV 1 L = v1 ∧ rrV 2 L = v2 ∧ rrV 3 L = v3 ∧ rrV 4 L = v4 ∧ rrMs L = rrM L ∧ rrOk L = true)
            clear a1 a2 a3 a4 a5 a6 a7
            go_wp2_with fail
            refine bodyPost_ret (v := .tuple #[.agg #[.string es, .int .i64 v1, .int .i64 v2, .int .i64 v3, .int .i64 v4, .slice A1 n1 c1], .bool true]) (by simp [results, Tryd.results11, go_sem, *]) rfl ?_
            rw [HN.out.1, HN.out.2.1, HN.out.2.2.1, HN.out.2.2.2.1, HN.out.2.2.2.2.1, HN.out.2.2.2.2.2.1, HN.out.2.2.2.2.2.2]
            refine ⟨_, _, _, rfl, ?_, by repeat (first | (with_reducible exact Below.refl _ _) | (with_reducible assumption) | ((with_reducible refine bl_alloc ?_ _ ?_); (focus ((first | omega | (simp <;> omega)); done))) | ((with_reducible refine bl_set ?_ _ ?_); (focus ((first | omega | (simp <;> omega)); done))) | (with_reducible refine below_drewN ?_ _) | (with_reducible refine Below.drew ?_) | ((with_reducible refine bl_trans ?_ HB6.out ?_); (focus ((first | omega | (simp <;> omega)); done))))⟩
            refine RowM.base_le (base := w3.heap.size) ?_ (by omega)
            repeat (first | (with_reducible exact HR6.out) | ((with_reducible refine RowM.low ?_ _ ?_); (focus ((first | omega | (simp <;> omega)); done))))
end Go.Proofs.YtampjgfddakdoaaDoor
