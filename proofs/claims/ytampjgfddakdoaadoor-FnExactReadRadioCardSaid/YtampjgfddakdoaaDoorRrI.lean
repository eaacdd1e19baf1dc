/-
  A radio read off a text: the program's. The conditions are the hypotheses.
-/
import Derived.Test.YtampjgfddakdoaaDoorRows
import Derived.Test.YtampjgfddakdoaaDoorLib
import Derived.Test.YtampjgfddakdoaaDoorInt
import Derived.Test.YtampjgfddakdoaaDoorInts
import Derived.Test.YtampjgfddakdoaaDoorOwn
import Derived.Test.YtampjgfddakdoaaDoorField
import Derived.Test.YtampjgfddakdoaaDoorNames
import Derived.Test.YtampjgfddakdoaaDoorRadioB
import Derived.Test.YtampjgfddakdoaaDoorArgs
import Derived.Test.YtampjgfddakdoaaDoorModes
import Derived.Test.YtampjgfddakdoaaDoorRadios
import Derived.Test.YtampjgfddakdoaaDoorRadioS
import Derived.Test.YtampjgfddakdoaaDoorMk
import Derived.Test.YtampjgfddakdoaaDoorNumP
import Derived.Test.YtampjgfddakdoaaDoorNumS
import Derived.Test.YtampjgfddakdoaaDoorSplP
import Derived.Test.YtampjgfddakdoaaDoorSplS
import Derived.Test.YtampjgfddakdoaaDoorRdP
import Derived.Test.YtampjgfddakdoaaDoorRdS
import Derived.Test.YtampjgfddakdoaaDoorRdW
import Derived.Test.YtampjgfddakdoaaDoorRdD
import Derived.Test.YtampjgfddakdoaaDoorRdI
import Derived.Test.YtampjgfddakdoaaDoorRdC
import Derived.Test.YtampjgfddakdoaaDoorRadT
import Derived.Test.YtampjgfddakdoaaDoorRrP
import Derived.Test.YtampjgfddakdoaaDoorShelf
import Derived.Test.YtampjgfddakdoaaDoorRrN
import Derived.OwnWalk
import Derived.Outline
import Derived.Deep.AppendLies
import Derived.Deep.RegionLaw
import Derived.Deep.DeepCutAuto
import Derived.Deep.QuietTactic
import Derived.BigQuiet
import Derived.Deep.RegionHeld3
import Derived.Deep.DrawnRows
namespace Go.Proofs.YtampjgfddakdoaaDoor
open Go.RowKit ofRadioText
set_option linter.unusedSimpArgs false
set_option linter.unusedVariables false
attribute [local go_sem ↓] Go.wp_at_zero Go.wp_at_succ
theorem cut_len (p : List UInt8) : (Lib.cut p [47]).1.length ≤ p.length ∧ (Lib.cut p [47]).2.1.length ≤ p.length := by
  rcases part_of 47 p with hn | ⟨a, b, ha, rfl⟩
  · rw [cut_none hn]; simp
  · rw [cut_app ha]; simp; omega
/-- The library's pieces, with room for no more. -/
theorem split_anyc (w : World) (hT : RdTab w) (s : ByteArray) (hs : s.size ≤ 1048576) (c : UInt8) :
    Calls Tryd.prog 32 #[.string s, .string ⟨#[c]⟩] w fun e w' => ∃ g, e = .returned (.slice (some ⟨g, 0, none⟩) (splitL c s.data.toList).length (splitL c s.data.toList).length) ∧ w.heap.size ≤ g ∧ g < w'.heap.size ∧ (∀ k p, (splitL c s.data.toList)[k]? = some p → w'.cell? ⟨g, k, none⟩ = some (encL p)) ∧ Below w.heap.size w w' := by
  obtain ⟨m, hm⟩ := hT.mx
  have hc := count_split c s.data.toList
  have hd : (Lib.splitB ⟨#[c]⟩ 0 (Lib.countB s ⟨#[c]⟩) s).map (·.data.toList) = splitL c s.data.toList := by
    rw [Lib.splitB_data]
    exact splitK_few _ _ (by show _ ≤ Lib.count s.data.toList [c] + 1; omega)
  have hl : Lib.countB s ⟨#[c]⟩ + 1 = (splitL c s.data.toList).length := hc
  refine (Tryd.strings_Split s ⟨#[c]⟩ m w (by omega) hm (Nat.le_refl 1)).mono ?_
  rintro e w' ⟨rfl, rfl⟩
  refine ⟨w.heap.size, by rw [hl], Nat.le_refl _, by simp, fun k p hp => ?_, bl_alloc (Nat.le_refl _) _ (Below.refl _ _)⟩
  rw [← hd] at hp
  exact cells_of_split hp
set_option maxRecDepth 20000 in
set_option maxHeartbeats 16000000 in
theorem implReadRadio_any (w : World) (hT : RdTab w) (s : ByteArray) (hs : s.size ≤ 1048576) :
    Calls Tryd.prog 12 #[.string s] w fun e w' => ∃ A0 n0 c0, e = .returned (.tuple #[.agg #[.string (rrN s.data.toList), .int .i64 (rrV 1 s.data.toList), .int .i64 (rrV 2 s.data.toList), .int .i64 (rrV 3 s.data.toList), .int .i64 (rrV 4 s.data.toList), .slice A0 n0 c0], .bool (rrOk s.data.toList)]) ∧ RowM 57 w' w.heap.size (.slice A0 n0 c0) (rrMs s.data.toList) ∧ Below w.heap.size w w' := by
  have HT := Lib.hid hT
  clear hT
  obtain ⟨i1, hi, hz0, hz1, hz2⟩ := info_parts Tryd.info_md
  have MI := Lib.hid hi
  have MZ0 := Lib.hid hz0
  have MZ1 := Lib.hid hz1
  have MZ2 := Lib.hid hz2
  clear hi hz0 hz1 hz2
  have HETA := Lib.hid (bytes_eta s)
  have HSP := Lib.hid (fun (W : World) (hW : Below w.heap.size w W) => split_anyc W (HT.out.below hW) s hs 32)
  have HSN := Lib.hid (fun (W : World) (hW : Below w.heap.size w W) (p : List UInt8) (h : p.length ≤ 1048576) => splitN_any W (HT.out.below hW) ⟨p.toArray⟩ (by rw [psize]; exact h) 44 9 (by omega) (by omega))
  have HRN := Lib.hid (fun (W : World) (hW : Below w.heap.size w W) (p : List UInt8) (h : p.length ≤ 1048576) => ReadDecimal_any W (HT.out.below hW) ⟨p.toArray⟩ (by rw [psize]; exact h))
  simp only [numV_size] at HSN HRN
  have HCT : Hid (∀ (W : World) (hW : Below w.heap.size w W) (p : List UInt8) (h : p.length ≤ 1048576), Calls Tryd.prog 24 #[.string ⟨p.toArray⟩, .string ⟨#[47]⟩] W fun e w' => e = .returned (.tuple #[.string ⟨(Lib.cut p [47]).1.toArray⟩, .string ⟨(Lib.cut p [47]).2.1.toArray⟩, .bool (Lib.cut p [47]).2.2]) ∧ Below W.heap.size W w') := fun W hW p h => by
    obtain ⟨m, hm⟩ := (HT.out.below hW).mx
    refine (Tryd.strings_Cut ⟨p.toArray⟩ ⟨#[47]⟩ m W (by rw [psize]; omega) hm).mono ?_
    rintro e w' ⟨rfl, n, rfl⟩
    exact ⟨by rw [numV_size], below_drewN (Below.refl _ _) n⟩
  have HPL := Lib.hid (fun p (h : p ∈ splitL 32 s.data.toList) => split_part p h)
  have HSL := Lib.hid (size_len s)
  obtain ⟨L, hL⟩ : ∃ L, L = s.data.toList := ⟨_, rfl⟩
  rw [← hL] at HSP HPL HSL HETA ⊢
  clear hL
  have SR0 := Lib.hid (SInv.fresh w #[.string ⟨#[]⟩, .int .i64 0, .int .i64 0, .int .i64 0, .int .i64 0, .slice none 0 0] 32)
  go_enter Tryd.func12, Tryd.ntmps12
  go_wp2_with fail
  refine (HSP.out _ (by repeat (first | (with_reducible exact Below.refl _ _) | (with_reducible assumption) | ((with_reducible refine bl_alloc ?_ _ ?_); (focus ((first | omega | (simp <;> omega)); done))) | ((with_reducible refine bl_set ?_ _ ?_); (focus ((first | omega | (simp <;> omega)); done))) | (with_reducible refine below_drewN ?_ _) | (with_reducible refine Below.drew ?_)))).mono ?_
  rintro e w1 ⟨g, rfl, gB, gl, hcc, hb⟩
  have H1 := Lib.hid (show Below w.heap.size w w1 by repeat (first | (with_reducible exact Below.refl _ _) | (with_reducible assumption) | ((with_reducible refine bl_alloc ?_ _ ?_); (focus ((first | omega | (simp <;> omega)); done))) | ((with_reducible refine bl_set ?_ _ ?_); (focus ((first | omega | (simp <;> omega)); done))) | (with_reducible refine below_drewN ?_ _) | (with_reducible refine Below.drew ?_) | ((with_reducible refine bl_trans ?_ hb ?_); (focus ((first | omega | (simp <;> omega)); done)))))
  have SR1 := Lib.hid (SR0.out.later hb)
  have HCC := Lib.hid hcc
  have q1_ := hb.size
  simp at q1_
  clear hcc hb HSP SR0
  have z0 := SR1.out.cell 0 _ rfl
  have z1 := SR1.out.cell 1 _ rfl
  have z2 := SR1.out.cell 2 _ rfl
  have z3 := SR1.out.cell 3 _ rfl
  have z4 := SR1.out.cell 4 _ rfl
  have z5 := SR1.out.cell 5 _ rfl
  have zf := SR1.out.free
  have zl := SR1.out.lt
  by_cases h6 : (splitL 32 L).length = 6
  rotate_left
  · have HN := Lib.hid (rr_no (rr_no6 h6))
    obtain ⟨N, hN⟩ : ∃ N, N = (splitL 32 L).length := ⟨_, rfl⟩
    rw [← hN] at h6 ⊢
    clear hN HCC HPL
    have q1 : ((N : Int) == 6) = false := by rw [beq_eq_false_iff_ne]; omega
    have q2 : ((N : Int) != 6) = true := by rw [bne_iff_ne]; omega
    have q3 : ¬ (N : Int) = 6 := by omega
    go_wp2_with fail
    refine bodyPost_ret (v := .tuple #[.agg #[.string ⟨#[]⟩, .int .i64 0, .int .i64 0, .int .i64 0, .int .i64 0, .slice none 0 0], .bool false]) (by simp [results, Tryd.results12, go_sem, *]) rfl ?_
    rw [HN.out.1, HN.out.2.1, HN.out.2.2.1, HN.out.2.2.2.1, HN.out.2.2.2.2.1, HN.out.2.2.2.2.2.1, HN.out.2.2.2.2.2.2]
    exact ⟨_, _, _, rfl, RowM.nil_, by repeat (first | (with_reducible exact Below.refl _ _) | (with_reducible assumption) | ((with_reducible refine bl_alloc ?_ _ ?_); (focus ((first | omega | (simp <;> omega)); done))) | ((with_reducible refine bl_set ?_ _ ?_); (focus ((first | omega | (simp <;> omega)); done))) | (with_reducible refine below_drewN ?_ _) | (with_reducible refine Below.drew ?_) | ((with_reducible refine bl_trans ?_ H1.out ?_); (focus ((first | omega | (simp <;> omega)); done))))⟩
  have HNE := Lib.hid (rr_ne h6)
  have HYES := Lib.hid (fun h => rr_yes (L := L) h)
  have HIS := Lib.hid (fun hb ht => rr_is (L := L) h6 hb ht)
  have HNOB := Lib.hid (fun h => rr_no (rr_nob (L := L) h))
  have HNOT := Lib.hid (fun h => rr_no (rr_not (L := L) h))
  have p0 := part_mem (ps := splitL 32 L) (k := 0) (by omega)
  have p1 := part_mem (ps := splitL 32 L) (k := 1) (by omega)
  have p2 := part_mem (ps := splitL 32 L) (k := 2) (by omega)
  have p3 := part_mem (ps := splitL 32 L) (k := 3) (by omega)
  have p4 := part_mem (ps := splitL 32 L) (k := 4) (by omega)
  have p5 := part_mem (ps := splitL 32 L) (k := 5) (by omega)
  have c0 := HCC.out 0 _ p0.2
  have c1 := HCC.out 1 _ p1.2
  have c2 := HCC.out 2 _ p2.2
  have c3 := HCC.out 3 _ p3.2
  have c4 := HCC.out 4 _ p4.2
  have c5 := HCC.out 5 _ p5.2
  have l0 := HPL.out _ p0.1
  have l1 := HPL.out _ p1.1
  have l2 := HPL.out _ p2.1
  have l3 := HPL.out _ p3.1
  have l4 := HPL.out _ p4.1
  have l5 := HPL.out _ p5.1
  rw [h6]
  change w1.cell? _ = some (encL (rrW 0 L)) at c0
  change (rrW 0 L).length ≤ _ at l0
  change w1.cell? _ = some (encL (rrW 1 L)) at c1
  change (rrW 1 L).length ≤ _ at l1
  change w1.cell? _ = some (encL (rrW 2 L)) at c2
  change (rrW 2 L).length ≤ _ at l2
  change w1.cell? _ = some (encL (rrW 3 L)) at c3
  change (rrW 3 L).length ≤ _ at l3
  change w1.cell? _ = some (encL (rrW 4 L)) at c4
  change (rrW 4 L).length ≤ _ at l4
  change w1.cell? _ = some (encL (rrW 5 L)) at c5
  change (rrW 5 L).length ≤ _ at l5
  clear p0 p1 p2 p3 p4 p5 h6 HCC HPL
  have ll := HSL.out
  have ce0 : w1.cell? ⟨g, 0, none⟩ = some (.string (rrS L)) := c0
  have HSS := Lib.hid (show (rrS L).size ≤ maxLen by unfold rrS maxLen; rw [psize]; omega)
  have HP5 := Lib.hid (fun W hW => HSN.out W hW (rrW 5 L) (by omega))
  have HPL := Lib.hid (fun p (h : p ∈ Lib.splitN (rrW 5 L) [44] 9) => Nat.le_trans (splitK_part _ _ p h) (show (rrW 5 L).length ≤ 1048576 by omega))
  have HRM : Hid (rrM L = (Lib.splitN (rrW 5 L) [44] 9).map cutM) := rfl
  have HML := Lib.hid (rrM_len L)
  have HMI := Lib.hid (rrM_in L)
  have HN1 := Lib.hid (fun W hW => HRN.out W hW (rrW 1 L) (by omega))
  have IV1 := Lib.hid (numV_in (rrW 1 L))
  have HN2 := Lib.hid (fun W hW => HRN.out W hW (rrW 2 L) (by omega))
  have IV2 := Lib.hid (numV_in (rrW 2 L))
  have HN3 := Lib.hid (fun W hW => HRN.out W hW (rrW 3 L) (by omega))
  have IV3 := Lib.hid (numV_in (rrW 3 L))
  have HN4 := Lib.hid (fun W hW => HRN.out W hW (rrW 4 L) (by omega))
  have IV4 := Lib.hid (numV_in (rrW 4 L))
  obtain ⟨e1, he1⟩ : ∃ z : ByteArray, z = ⟨(rrW 1 L).toArray⟩ := ⟨_, rfl⟩
  rw [← he1] at HN1
  rw [show encL (rrW 1 L) = .string e1 by rw [he1]; rfl] at c1
  clear he1
  obtain ⟨e2, he2⟩ : ∃ z : ByteArray, z = ⟨(rrW 2 L).toArray⟩ := ⟨_, rfl⟩
  rw [← he2] at HN2
  rw [show encL (rrW 2 L) = .string e2 by rw [he2]; rfl] at c2
  clear he2
  obtain ⟨e3, he3⟩ : ∃ z : ByteArray, z = ⟨(rrW 3 L).toArray⟩ := ⟨_, rfl⟩
  rw [← he3] at HN3
  rw [show encL (rrW 3 L) = .string e3 by rw [he3]; rfl] at c3
  clear he3
  obtain ⟨e4, he4⟩ : ∃ z : ByteArray, z = ⟨(rrW 4 L).toArray⟩ := ⟨_, rfl⟩
  rw [← he4] at HN4
  rw [show encL (rrW 4 L) = .string e4 by rw [he4]; rfl] at c4
  clear he4
  obtain ⟨e5, he5⟩ : ∃ z : ByteArray, z = ⟨(rrW 5 L).toArray⟩ := ⟨_, rfl⟩
  rw [← he5] at HP5
  rw [show encL (rrW 5 L) = .string e5 by rw [he5]; rfl] at c5
  clear he5
  obtain ⟨es, hes⟩ : ∃ z, z = rrS L := ⟨_, rfl⟩
  have HRB : Hid (rrB L = radB (rrS L) (numV (rrW 1 L)) (numV (rrW 2 L)) (numV (rrW 3 L)) (numV (rrW 4 L)) (rrM L)) := rfl
  have HRT : Hid (rrT L = radT (rrS L) (numV (rrW 1 L)) (numV (rrW 2 L)) (numV (rrW 3 L)) (numV (rrW 4 L)) (rrM L)) := rfl
  rw [← hes] at ce0 HSS HRB HRT HYES
  clear hes c0 l0 l1 l2 l3 l4 l5
  obtain ⟨v1, hv1⟩ : ∃ z, z = numV (rrW 1 L) := ⟨_, rfl⟩
  obtain ⟨o1, ho1⟩ : ∃ z, z = numB (rrW 1 L) := ⟨_, rfl⟩
  rw [← hv1, ← ho1] at HN1
  rw [← hv1] at HRB HRT HYES IV1
  clear hv1 ho1
  obtain ⟨v2, hv2⟩ : ∃ z, z = numV (rrW 2 L) := ⟨_, rfl⟩
  obtain ⟨o2, ho2⟩ : ∃ z, z = numB (rrW 2 L) := ⟨_, rfl⟩
  rw [← hv2, ← ho2] at HN2
  rw [← hv2] at HRB HRT HYES IV2
  clear hv2 ho2
  obtain ⟨v3, hv3⟩ : ∃ z, z = numV (rrW 3 L) := ⟨_, rfl⟩
  obtain ⟨o3, ho3⟩ : ∃ z, z = numB (rrW 3 L) := ⟨_, rfl⟩
  rw [← hv3, ← ho3] at HN3
  rw [← hv3] at HRB HRT HYES IV3
  clear hv3 ho3
  obtain ⟨v4, hv4⟩ : ∃ z, z = numV (rrW 4 L) := ⟨_, rfl⟩
  obtain ⟨o4, ho4⟩ : ∃ z, z = numB (rrW 4 L) := ⟨_, rfl⟩
  rw [← hv4, ← ho4] at HN4
  rw [← hv4] at HRB HRT HYES IV4
  clear hv4 ho4
  obtain ⟨P, hP⟩ : ∃ z, z = Lib.splitN (rrW 5 L) [44] 9 := ⟨_, rfl⟩
  rw [← hP] at HP5 HPL HRM
  clear hP HSL
  clear z0 z1 z2 z3 z4 z5 zf zl
  go_wp2_with fail
  obtain ⟨wa, hwa⟩ : ∃ x, x = w1.alloc (.cells #[.int .i64 0, .int .i64 0, .int .i64 0, .int .i64 0] 61) := ⟨_, rfl⟩
  rw [← hwa]
  have hba : Below w1.heap.size w1 wa := by rw [hwa]; repeat (first | (with_reducible exact Below.refl _ _) | (with_reducible assumption) | ((with_reducible refine bl_alloc ?_ _ ?_); (focus ((first | omega | (simp <;> omega)); done))) | ((with_reducible refine bl_set ?_ _ ?_); (focus ((first | omega | (simp <;> omega)); done))) | (with_reducible refine below_drewN ?_ _) | (with_reducible refine Below.drew ?_))
  have SN := Lib.hid (show SInv wa w1.heap.size [.int .i64 0, .int .i64 0, .int .i64 0, .int .i64 0] by rw [hwa]; exact SInv.fresh w1 #[.int .i64 0, .int .i64 0, .int .i64 0, .int .i64 0] 61)
  have SRa := Lib.hid (SR1.out.later hba)
  have HBa := Lib.hid (H1.out.trans (hba.mono H1.out.size))
  have a0 := keeps hba ce0
  have a1 := keeps hba c1
  have a2 := keeps hba c2
  have a3 := keeps hba c3
  have a4 := keeps hba c4
  have a5 := keeps hba c5
  obtain ⟨Nb, hNb⟩ : ∃ x, x = w1.heap.size := ⟨_, rfl⟩
  rw [← hNb] at SN gl q1_ ⊢
  have lNb := SN.out.lt
  clear hwa hba hNb SR1 ce0 c1 c2 c3 c4 c5
  go_loopw [27] (fun i wr => Hid (Writes wa wr (fun b => b = Nb)) ∧ ((i = .int .i64 0 ∧ Hid (SInv wr Nb [.int .i64 0, .int .i64 0, .int .i64 0, .int .i64 0])) ∨ (i = .int .i64 1 ∧ Hid (SInv wr Nb [.int .i64 v1, .int .i64 0, .int .i64 0, .int .i64 0])) ∨ (i = .int .i64 2 ∧ Hid (SInv wr Nb [.int .i64 v1, .int .i64 v2, .int .i64 0, .int .i64 0])) ∨ (i = .int .i64 3 ∧ Hid (SInv wr Nb [.int .i64 v1, .int .i64 v2, .int .i64 v3, .int .i64 0])) ∨ (i = .int .i64 4 ∧ Hid (SInv wr Nb [.int .i64 v1, .int .i64 v2, .int .i64 v3, .int .i64 v4])))) (fun i _ => 5 - (intOf i).toNat)
  case atStart => exact ⟨(show Writes _ _ _ from Writes.of_below (Below.refl _ _) _), .inl ⟨rfl, SN⟩⟩
  case round =>
    obtain ⟨hw, hrel⟩ := hrel
    have zw := hw.out.size
    have HBW := Lib.hid (show Below w.heap.size w wr from HBa.out.trans (hw.out.below HBa.out.size (fun b hb => by subst hb; omega)))
    rcases hrel with ⟨rfl, hs⟩ | ⟨rfl, hs⟩ | ⟨rfl, hs⟩ | ⟨rfl, hs⟩ | ⟨rfl, hs⟩
    · have ck := keepsW hw.out a1 (by show ¬ g = Nb; omega)
      clear a0 a1 a2 a3 a4 a5
      go_wp2_with fail
      refine (HN1.out _ HBW.out).mono ?_
      rintro e w2 ⟨rfl, hb⟩
      have S2 := Lib.hid (hs.out.later hb)
      have y0 := S2.out.cell 0 _ rfl
      have yf := S2.out.free
      have S3 := Lib.hid (show SInv (w2.setCell ⟨Nb, 0, none⟩ (.int .i64 v1)) Nb [.int .i64 v1, .int .i64 0, .int .i64 0, .int .i64 0] from S2.out.set 0 (by simp) _)
      have W3 : Hid (Writes wa (w2.setCell ⟨Nb, 0, none⟩ (.int .i64 v1)) (fun b => b = Nb)) := Writes.trans (Writes.trans hw.out (Writes.of_below hb _)) (writes_set w2 _ _)
      clear hb hs ck
      go_wp2_with fail
      exact ⟨⟨W3, .inr (.inl ⟨rfl, S3⟩)⟩, by simp [intOf]⟩
    · have ck := keepsW hw.out a2 (by show ¬ g = Nb; omega)
      clear a0 a1 a2 a3 a4 a5
      go_wp2_with fail
      refine (HN2.out _ HBW.out).mono ?_
      rintro e w2 ⟨rfl, hb⟩
      have S2 := Lib.hid (hs.out.later hb)
      have y1 := S2.out.cell 1 _ rfl
      have yf := S2.out.free
      have S3 := Lib.hid (show SInv (w2.setCell ⟨Nb, 1, none⟩ (.int .i64 v2)) Nb [.int .i64 v1, .int .i64 v2, .int .i64 0, .int .i64 0] from S2.out.set 1 (by simp) _)
      have W3 : Hid (Writes wa (w2.setCell ⟨Nb, 1, none⟩ (.int .i64 v2)) (fun b => b = Nb)) := Writes.trans (Writes.trans hw.out (Writes.of_below hb _)) (writes_set w2 _ _)
      clear hb hs ck
      go_wp2_with fail
      exact ⟨⟨W3, .inr (.inr (.inl ⟨rfl, S3⟩))⟩, by simp [intOf]⟩
    · have ck := keepsW hw.out a3 (by show ¬ g = Nb; omega)
      clear a0 a1 a2 a3 a4 a5
      go_wp2_with fail
      refine (HN3.out _ HBW.out).mono ?_
      rintro e w2 ⟨rfl, hb⟩
      have S2 := Lib.hid (hs.out.later hb)
      have y2 := S2.out.cell 2 _ rfl
      have yf := S2.out.free
      have S3 := Lib.hid (show SInv (w2.setCell ⟨Nb, 2, none⟩ (.int .i64 v3)) Nb [.int .i64 v1, .int .i64 v2, .int .i64 v3, .int .i64 0] from S2.out.set 2 (by simp) _)
      have W3 : Hid (Writes wa (w2.setCell ⟨Nb, 2, none⟩ (.int .i64 v3)) (fun b => b = Nb)) := Writes.trans (Writes.trans hw.out (Writes.of_below hb _)) (writes_set w2 _ _)
      clear hb hs ck
      go_wp2_with fail
      exact ⟨⟨W3, .inr (.inr (.inr (.inl ⟨rfl, S3⟩)))⟩, by simp [intOf]⟩
    · have ck := keepsW hw.out a4 (by show ¬ g = Nb; omega)
      clear a0 a1 a2 a3 a4 a5
      go_wp2_with fail
      refine (HN4.out _ HBW.out).mono ?_
      rintro e w2 ⟨rfl, hb⟩
      have S2 := Lib.hid (hs.out.later hb)
      have y3 := S2.out.cell 3 _ rfl
      have yf := S2.out.free
      have S3 := Lib.hid (show SInv (w2.setCell ⟨Nb, 3, none⟩ (.int .i64 v4)) Nb [.int .i64 v1, .int .i64 v2, .int .i64 v3, .int .i64 v4] from S2.out.set 3 (by simp) _)
      have W3 : Hid (Writes wa (w2.setCell ⟨Nb, 3, none⟩ (.int .i64 v4)) (fun b => b = Nb)) := Writes.trans (Writes.trans hw.out (Writes.of_below hb _)) (writes_set w2 _ _)
      clear hb hs ck
      go_wp2_with fail
      exact ⟨⟨W3, .inr (.inr (.inr (.inr (⟨rfl, S3⟩))))⟩, by simp [intOf]⟩
    · have m0 := hs.out.cell 0 _ rfl
      have m1 := hs.out.cell 1 _ rfl
      have m2 := hs.out.cell 2 _ rfl
      have m3 := hs.out.cell 3 _ rfl
      have ck := keepsW hw.out a0 (by show ¬ g = Nb; omega)
      have ck5 := keepsW hw.out a5 (by show ¬ g = Nb; omega)
      have SR2 := Lib.hid (SRa.out.writes hw.out (by omega))
      clear a0 a1 a2 a3 a4 a5
      go_wp2_with fail
      go_region_held3 (fun w' => w'.cell? ⟨g, 0, none⟩ = some (.string es) ∧ w'.cell? ⟨Nb, 0, none⟩ = some (.int .i64 v1) ∧ w'.cell? ⟨Nb, 1, none⟩ = some (.int .i64 v2) ∧ w'.cell? ⟨Nb, 2, none⟩ = some (.int .i64 v3) ∧ w'.cell? ⟨Nb, 3, none⟩ = some (.int .i64 v4))
        (((try go_split_ands); (refine ⟨?_, ?_, ?_, ?_, ?_⟩ <;> (repeat (first | (with_reducible assumption) | (with_reducible refine cell_drew ?_) | (with_reducible refine cell_drewN ?_) | (with_reducible refine cell_alloc ?_ _) | fail)))))
        (fail)
      obtain ⟨w2, hw2⟩ : ∃ x, x = (wr.alloc (.cells #[.string es, .int .i64 v1, .int .i64 v2, .int .i64 v3, .int .i64 v4, .slice none 0 0] 32)).drew := ⟨_, rfl⟩
      rw [← hw2]
      have hb2 : Below wr.heap.size wr w2 := by rw [hw2]; repeat (first | (with_reducible exact Below.refl _ _) | (with_reducible assumption) | ((with_reducible refine bl_alloc ?_ _ ?_); (focus ((first | omega | (simp <;> omega)); done))) | ((with_reducible refine bl_set ?_ _ ?_); (focus ((first | omega | (simp <;> omega)); done))) | (with_reducible refine below_drewN ?_ _) | (with_reducible refine Below.drew ?_))
      have SO := Lib.hid (show SInv w2 wr.heap.size [.string es, .int .i64 v1, .int .i64 v2, .int .i64 v3, .int .i64 v4, .slice none 0 0] by rw [hw2]; exact (SInv.fresh wr #[.string es, .int .i64 v1, .int .i64 v2, .int .i64 v3, .int .i64 v4, .slice none 0 0] 32).draw1)
      have ck5b := keeps hb2 ck5
      have SR3 := Lib.hid (SR2.out.later hb2)
      have HB2 := Lib.hid (HBW.out.trans (hb2.mono HBW.out.size))
      have q2_ := hb2.size
      obtain ⟨O, hO⟩ : ∃ x, x = wr.heap.size := ⟨_, rfl⟩
      rw [← hO] at SO zw ⊢
      have lO := SO.out.lt
      have gO : g < O := by omega
      clear hw2 ck ck5 m0 m1 m2 m3 hb2 hw HBW SR2 hO hs q2_
      go_wp2_with fail
      refine (HP5.out _ HB2.out).mono ?_
      rintro e w3 ⟨gp, cp, rfl, gpB, gpl, hcp, hb⟩
      have HB3 := Lib.hid (show Below w.heap.size w w3 from HB2.out.trans (hb.mono HB2.out.size))
      have SO3 := Lib.hid (SO.out.later hb)
      have SR4 := Lib.hid (SR3.out.later hb)
      have HCP := Lib.hid hcp
      have lO3 := SO3.out.lt
      clear hb hcp SO SR3 ck5b HP5
      obtain ⟨N, hN⟩ : ∃ N, N = P.length := ⟨_, rfl⟩
      have HNL := Lib.hid hN.symm
      have h9 : N ≤ 9 := by have h := HML.out; rw [HRM.out, List.length_map] at h; omega
      rw [← hN]
      clear hN
      have n0_ : (0 : Int) ≤ (N : Int) := Int.natCast_nonneg _
      go_wp2_with fail
      go_loopw [57] (fun i wr => ∃ (j : Nat) (t : Value), j ≤ N ∧ i = .int .i64 (j : Int) ∧ Hid (SInv wr O [.string es, .int .i64 v1, .int .i64 v2, .int .i64 v3, .int .i64 v4, t]) ∧ Hid (RowM 57 wr w3.heap.size t ((P.take j).map cutM)) ∧ Hid (Writes w3 wr (fun b => b = O))) (fun i _ => N + 1 - (intOf i).toNat)
      case atStart => exact ⟨0, .slice none 0 0, Nat.zero_le _, rfl, SO3, (show RowM _ _ _ _ _ by rw [List.take_zero, List.map_nil]; exact RowM.nil_), (show Writes _ _ _ from Writes.of_below (Below.refl _ _) _)⟩
      case round =>
        obtain ⟨j, t, hj, rfl, hs, hr, hw⟩ := hrel
        have j0 : (0 : Int) ≤ (j : Int) := Int.natCast_nonneg _
        have zw2 := hw.out.size
        have SRr := Lib.hid (SR4.out.writes hw.out (by omega))
        have HBr := Lib.hid (show Below w.heap.size w wr from HB3.out.trans (hw.out.below HB3.out.size (fun b hb => by subst hb; omega)))
        by_cases hlt : j < N
        · have hlt' : (j : Int) < (N : Int) := by omega
          have HLE := Lib.hid (show j + 1 ≤ N by omega)
          have hm := part_mem (ps := P) (k := j) (by rw [HNL.out]; exact hlt)
          have ck := keepsW hw.out (HCP.out j _ hm.2) (by show ¬ gp = O; omega)
          have hpl := HPL.out _ hm.1
          have htk := Lib.hid (take_part (ps := P) (k := j) (by rw [HNL.out]; exact hlt))
          have hlen : ((P.take j).map cutM).length = j := by rw [List.length_map, List.length_take, HNL.out]; omega
          obtain ⟨p, hp⟩ : ∃ p, p = P.getD j [] := ⟨_, rfl⟩
          rw [← hp] at ck hpl htk
          clear hm hp
          have HC1 := Lib.hid (fun W hW => HCT.out W hW p hpl)
          obtain ⟨la, lb⟩ := cut_len p
          have HC2 : Hid (cutM p = (numV (Lib.cut p [47]).1, numV (Lib.cut p [47]).2.1)) := rfl
          have HNA := Lib.hid (fun W hW => HRN.out W hW (Lib.cut p [47]).1 (by omega))
          have HNB := Lib.hid (fun W hW => HRN.out W hW (Lib.cut p [47]).2.1 (by omega))
          obtain ⟨ep, hep⟩ : ∃ z : ByteArray, z = ⟨p.toArray⟩ := ⟨_, rfl⟩
          rw [← hep] at HC1
          rw [show encL p = .string ep by rw [hep]; rfl] at ck
          clear hep hpl la lb
          obtain ⟨ea, hea⟩ : ∃ z : ByteArray, z = ⟨(Lib.cut p [47]).1.toArray⟩ := ⟨_, rfl⟩
          rw [← hea] at HNA HC1
          clear hea
          obtain ⟨eb, heb⟩ : ∃ z : ByteArray, z = ⟨(Lib.cut p [47]).2.1.toArray⟩ := ⟨_, rfl⟩
          rw [← heb] at HNB HC1
          clear heb
          obtain ⟨ua, hua⟩ : ∃ z, z = numV (Lib.cut p [47]).1 := ⟨_, rfl⟩
          obtain ⟨oa, hoa⟩ : ∃ z, z = numB (Lib.cut p [47]).1 := ⟨_, rfl⟩
          rw [← hua, ← hoa] at HNA
          rw [← hua] at HC2
          clear hua hoa
          obtain ⟨ub, hub⟩ : ∃ z, z = numV (Lib.cut p [47]).2.1 := ⟨_, rfl⟩
          obtain ⟨ob, hob⟩ : ∃ z, z = numB (Lib.cut p [47]).2.1 := ⟨_, rfl⟩
          rw [← hub, ← hob] at HNB
          rw [← hub] at HC2
          clear hub hob
          obtain ⟨fc, hfc⟩ : ∃ z, z = (Lib.cut p [47]).2.2 := ⟨_, rfl⟩
          rw [← hfc] at HC1
          clear hfc
          obtain ⟨ms, hms⟩ : ∃ z, z = (P.take j).map cutM := ⟨_, rfl⟩
          have HMS := Lib.hid hms
          rw [← hms] at hr hlen
          clear hms
          have hst := Lib.hid (show (P.take (j + 1)).map cutM = ms ++ [(ua, ub)] by rw [htk.out, List.map_append, List.map_cons, List.map_nil, HC2.out, ← HMS.out])
          clear htk HC2 HMS SRr
          go_wp2_with fail
          refine (HC1.out _ HBr.out).mono ?_
          rintro e wc ⟨rfl, hbc⟩
          have HBc := Lib.hid (show Below w.heap.size w wc from HBr.out.trans (hbc.mono HBr.out.size))
          have HXc := Lib.hid hbc
          have zc := hbc.size
          clear hbc HC1 ck
          go_wp2_with fail
          refine (HNA.out _ HBc.out).mono ?_
          rintro e wd ⟨rfl, hbd⟩
          have HBd := Lib.hid (show Below w.heap.size w wd from HBc.out.trans (hbd.mono HBc.out.size))
          have HXd := Lib.hid (show Below wr.heap.size wr wd from HXc.out.trans (hbd.mono HXc.out.size))
          have zd := hbd.size
          clear hbd HNA HXc HBc
          go_wp2_with fail
          refine (HNB.out _ HBd.out).mono ?_
          rintro e w4 ⟨rfl, hb4⟩
          have HX4 := Lib.hid (show Below wr.heap.size wr w4 from HXd.out.trans (hb4.mono HXd.out.size))
          have SO4 := Lib.hid (hs.out.later HX4.out)
          have hr4 := Lib.hid (hr.out.later HX4.out)
          have q4_ := HX4.out.size
          have y5_ := SO4.out.cell 5 _ rfl
          clear hb4 HNB HXd HBd
          go_wp2_with (first | (at_builtin; refine wpList_append_own _ rfl _ _ 30 rfl (w3.heap.size) 57 i1 (.agg #[.int .i64 0, .int .i64 0]) 2 16 Tryd.underlying30 MI.out MZ0.out MZ1.out MZ2.out rfl (by decide) _ j _ rfl (mowns hlen (hr4.out.alloc_ _)) ⟨w4.heap.size, 0, none⟩ 1 1 [.int .i64 ua, .int .i64 ub] rfl rfl (two_new _ _ _ _) ?c2b ?c3b ?c4b ?c5b ?_))
          try case c2b => first | rfl | (intro u hu; simp at hu; rcases hu with rfl | rfl <;> rfl)
          try case c3b => unfold maxLen; (try simp); omega
          try case c4b => (try simp); omega
          try case c5b => first | omega | (simp; omega)
          · intro v' w5 hown hgrow _
            have hr5 : Hid (RowM 57 w5 w3.heap.size v' (ms ++ [(ua, ub)])) := mapp_row hlen hown
            obtain ⟨S5, W5⟩ := push_modes hs.out lO3 (show Below wr.heap.size wr (w4.alloc (.cells #[.int .i64 ua, .int .i64 ub] 57)) from bl_alloc (by omega) _ HX4.out) (fun g h => (hr.out.lt g h).1) hgrow
            have SO5 := Lib.hid S5
            have HW5 := Lib.hid W5
            clear hown hgrow S5 W5
            rcases hr5.out.forms with ⟨_, hz⟩ | ⟨g5, c5, rfl, gB5, gl5, _, _⟩
            · exfalso; have h := congrArg List.length hz; simp at h
            have hl5 : (ms ++ [(ua, ub)]).length = j + 1 := by simp [hlen]
            rw [hl5] at hr5 ⊢
            have y5 := SO5.out.cell 5 _ rfl
            have yf := SO5.out.free
            have SO6 := Lib.hid (SO5.out.set 5 (by simp) (.slice (some ⟨g5, 0, none⟩) (j + 1) c5))
            have HR6 : Hid (RowM 57 (w5.setCell ⟨O, 5, none⟩ (.slice (some ⟨g5, 0, none⟩) (j + 1) c5)) w3.heap.size (.slice (some ⟨g5, 0, none⟩) (j + 1) c5) ((P.take (j + 1)).map cutM)) := by show RowM _ _ _ _ _; rw [hst.out]; exact RowM.other hr5.out (by simp [Value.ownBlock]; omega) _
            have HW6 : Hid (Writes w3 (w5.setCell ⟨O, 5, none⟩ (.slice (some ⟨g5, 0, none⟩) (j + 1) c5)) (fun b => b = O)) := ⟨(writes_set w5 _ _).os.trans (HW5.out.os.trans hw.out.os), (writes_set w5 _ _).tape.trans (HW5.out.tape.trans hw.out.tape), (writes_set w5 _ _).output.trans (HW5.out.output.trans hw.out.output), Nat.le_trans hw.out.size (Nat.le_trans HW5.out.size (writes_set w5 _ _).size), fun n hn hne => ((writes_set w5 _ _).block n (by have := HW5.out.size; have := hw.out.size; omega) hne).trans ((HW5.out.block n (by have := hw.out.size; omega) (fun q => by have := (hr.out.lt n q).1; omega)).trans (hw.out.block n hn hne))⟩
            clear hr5 HW5 hr
            go_wp2_with fail
            refine ⟨?_, ?_⟩
            · first
                | ((repeat apply Exists.intro); (refine ⟨?_, rfl⟩); exact ⟨(j + 1 : Nat), .slice (some ⟨g5, 0, none⟩) (j + 1) c5, HLE.out, by go_num, SO6, HR6, HW6⟩)
                | exact ⟨(j + 1 : Nat), .slice (some ⟨g5, 0, none⟩) (j + 1) c5, HLE.out, by go_num, SO6, HR6, HW6⟩
            · first | (simp [intOf]; done) | (simp [intOf]; omega)
        · obtain rfl : j = N := by omega
          rw [List.take_of_length_le (by rw [HNL.out]; exact Nat.le_refl _), ← HRM.out] at hr
          have ft : ∃ A n c, t = .slice A n c := by rcases hr.out.forms with ⟨h, _⟩ | ⟨_, _, h, _⟩ <;> exact ⟨_, _, _, h⟩
          obtain ⟨A1, n1, c1, rfl⟩ := ft
          have y0 := hs.out.cell 0 _ rfl
          have y1 := hs.out.cell 1 _ rfl
          have y2 := hs.out.cell 2 _ rfl
          have y3 := hs.out.cell 3 _ rfl
          have y4 := hs.out.cell 4 _ rfl
          have y5 := hs.out.cell 5 _ rfl
          have HOK := Lib.hid (ValidRadio_any wr es HSS.out v1 v2 v3 v4 _ (rrM L) _ hr.out)
          rw [← HRB.out] at HOK
          rcases bool_tf (rrB L) with hM | hM
          rotate_left
          · have HN := Lib.hid (HNOB.out hM)
            rw [hM] at HOK
            clear hM
            go_wp2_with fail
            refine HOK.out.mono ?_
            rintro e w6 ⟨rfl, hb⟩
            have HB6 := Lib.hid (show Below w.heap.size w w6 from HBr.out.trans (hb.mono HBr.out.size))
            have SO6 := Lib.hid (hs.out.later hb)
            have SR6 := Lib.hid (SRr.out.later hb)
            have HR6 := Lib.hid (hr.out.later hb)
            clear hb HOK hr hs SRr y0 y1 y2 y3 y4 y5
            have z0 := SR6.out.cell 0 _ rfl
            have z1 := SR6.out.cell 1 _ rfl
            have z2 := SR6.out.cell 2 _ rfl
            have z3 := SR6.out.cell 3 _ rfl
            have z4 := SR6.out.cell 4 _ rfl
            have z5 := SR6.out.cell 5 _ rfl
            have zf := SR6.out.free
            have zl := SR6.out.lt
            go_wp2_with fail
            refine bodyPost_ret (v := .tuple #[.agg #[.string ⟨#[]⟩, .int .i64 0, .int .i64 0, .int .i64 0, .int .i64 0, .slice none 0 0], .bool false]) (by simp [results, Tryd.results12, go_sem, *]) rfl ?_
            rw [HN.out.1, HN.out.2.1, HN.out.2.2.1, HN.out.2.2.2.1, HN.out.2.2.2.2.1, HN.out.2.2.2.2.2.1, HN.out.2.2.2.2.2.2]
            exact ⟨_, _, _, rfl, RowM.nil_, by repeat (first | (with_reducible exact Below.refl _ _) | (with_reducible assumption) | ((with_reducible refine bl_alloc ?_ _ ?_); (focus ((first | omega | (simp <;> omega)); done))) | ((with_reducible refine bl_set ?_ _ ?_); (focus ((first | omega | (simp <;> omega)); done))) | (with_reducible refine below_drewN ?_ _) | (with_reducible refine Below.drew ?_) | ((with_reducible refine bl_trans ?_ HB6.out ?_); (focus ((first | omega | (simp <;> omega)); done))))⟩
          rw [hM] at HOK
          go_wp2_with fail
          refine HOK.out.mono ?_
          rintro e w6 ⟨rfl, hb⟩
          have HB6 := Lib.hid (show Below w.heap.size w w6 from HBr.out.trans (hb.mono HBr.out.size))
          have SO6 := Lib.hid (hs.out.later hb)
          have SR6 := Lib.hid (SRr.out.later hb)
          have HR6 := Lib.hid (hr.out.later hb)
          clear hb HOK hr hs SRr y0 y1 y2 y3 y4 y5
          have y0 := SO6.out.cell 0 _ rfl
          have y1 := SO6.out.cell 1 _ rfl
          have y2 := SO6.out.cell 2 _ rfl
          have y3 := SO6.out.cell 3 _ rfl
          have y4 := SO6.out.cell 4 _ rfl
          have y5 := SO6.out.cell 5 _ rfl
          have HTX := Lib.hid (ofRadioText.impl_any w6 (HT.out.pow.below HB6.out) es HSS.out v1 IV1.out v2 IV2.out v3 IV3.out v4 IV4.out _ (rrM L) _ HR6.out HMI.out)
          rw [← HRT.out] at HTX
          go_wp2_with fail
          by_cases hT : rrT L = L
          · obtain ⟨a1, a2, a3, a4, a5, a6, a7⟩ := HYES.out (HIS.out hM hT)
            have HN := Lib.hid (⟨a1, a2, a3, a4, a5, a6, a7⟩ : rrN L = es ∧ rrV 1 L = v1 ∧ rrV 2 L = v2 ∧ rrV 3 L = v3 ∧ rrV 4 L = v4 ∧ rrMs L = rrM L ∧ rrOk L = true)
            rw [hT, HETA.out] at HTX
            clear a1 a2 a3 a4 a5 a6 a7 hM hT
            refine HTX.out.mono ?_
            rintro e w7 ⟨rfl, hb⟩
            have HB7 := Lib.hid (show Below w.heap.size w w7 from HB6.out.trans (hb.mono HB6.out.size))
            have SO7 := Lib.hid (SO6.out.later hb)
            have SR7 := Lib.hid (SR6.out.later hb)
            have HR7 := Lib.hid (HR6.out.later hb)
            clear hb HTX SO6 SR6 HR6 y0 y1 y2 y3 y4 y5
            have y0 := SO7.out.cell 0 _ rfl
            have y1 := SO7.out.cell 1 _ rfl
            have y2 := SO7.out.cell 2 _ rfl
            have y3 := SO7.out.cell 3 _ rfl
            have y4 := SO7.out.cell 4 _ rfl
            have y5 := SO7.out.cell 5 _ rfl
            have z0 := SR7.out.cell 0 _ rfl
            have z1 := SR7.out.cell 1 _ rfl
            have z2 := SR7.out.cell 2 _ rfl
            have z3 := SR7.out.cell 3 _ rfl
            have z4 := SR7.out.cell 4 _ rfl
            have z5 := SR7.out.cell 5 _ rfl
            have zf := SR7.out.free
            have zl := SR7.out.lt
            go_wp2_with fail
            refine bodyPost_ret (v := .tuple #[.agg #[.string es, .int .i64 v1, .int .i64 v2, .int .i64 v3, .int .i64 v4, .slice A1 n1 c1], .bool true]) (by simp [results, Tryd.results12, go_sem, *]) rfl ?_
            rw [HN.out.1, HN.out.2.1, HN.out.2.2.1, HN.out.2.2.2.1, HN.out.2.2.2.2.1, HN.out.2.2.2.2.2.1, HN.out.2.2.2.2.2.2]
            refine ⟨_, _, _, rfl, ?_, by repeat (first | (with_reducible exact Below.refl _ _) | (with_reducible assumption) | ((with_reducible refine bl_alloc ?_ _ ?_); (focus ((first | omega | (simp <;> omega)); done))) | ((with_reducible refine bl_set ?_ _ ?_); (focus ((first | omega | (simp <;> omega)); done))) | (with_reducible refine below_drewN ?_ _) | (with_reducible refine Below.drew ?_) | ((with_reducible refine bl_trans ?_ HB7.out ?_); (focus ((first | omega | (simp <;> omega)); done))))⟩
            refine RowM.base_le (base := w3.heap.size) ?_ (by omega)
            repeat (first | (with_reducible exact HR7.out) | ((with_reducible refine RowM.low ?_ _ ?_); (focus ((first | omega | (simp <;> omega)); done))))
          · have HN := Lib.hid (HNOT.out hT)
            have hne2 : ¬ (⟨(rrT L).toArray⟩ : ByteArray) = s := fun q => hT (by have h := HETA.out; rw [← q] at h; have h2 := arr_eta h; simpa using h2.symm)
            obtain ⟨q1, q2⟩ := str_off hne2
            obtain ⟨ez, hez⟩ : ∃ z : ByteArray, z = ⟨(rrT L).toArray⟩ := ⟨_, rfl⟩
            rw [← hez] at HTX q1 q2
            clear hez hne2 hM hT
            refine HTX.out.mono ?_
            rintro e w7 ⟨rfl, hb⟩
            have HB7 := Lib.hid (show Below w.heap.size w w7 from HB6.out.trans (hb.mono HB6.out.size))
            have SO7 := Lib.hid (SO6.out.later hb)
            have SR7 := Lib.hid (SR6.out.later hb)
            have HR7 := Lib.hid (HR6.out.later hb)
            clear hb HTX SO6 SR6 HR6 y0 y1 y2 y3 y4 y5
            have y0 := SO7.out.cell 0 _ rfl
            have y1 := SO7.out.cell 1 _ rfl
            have y2 := SO7.out.cell 2 _ rfl
            have y3 := SO7.out.cell 3 _ rfl
            have y4 := SO7.out.cell 4 _ rfl
            have y5 := SO7.out.cell 5 _ rfl
            have z0 := SR7.out.cell 0 _ rfl
            have z1 := SR7.out.cell 1 _ rfl
            have z2 := SR7.out.cell 2 _ rfl
            have z3 := SR7.out.cell 3 _ rfl
            have z4 := SR7.out.cell 4 _ rfl
            have z5 := SR7.out.cell 5 _ rfl
            have zf := SR7.out.free
            have zl := SR7.out.lt
            go_wp2_with fail
            refine bodyPost_ret (v := .tuple #[.agg #[.string ⟨#[]⟩, .int .i64 0, .int .i64 0, .int .i64 0, .int .i64 0, .slice none 0 0], .bool false]) (by simp [results, Tryd.results12, go_sem, *]) rfl ?_
            rw [HN.out.1, HN.out.2.1, HN.out.2.2.1, HN.out.2.2.2.1, HN.out.2.2.2.2.1, HN.out.2.2.2.2.2.1, HN.out.2.2.2.2.2.2]
            exact ⟨_, _, _, rfl, RowM.nil_, by repeat (first | (with_reducible exact Below.refl _ _) | (with_reducible assumption) | ((with_reducible refine bl_alloc ?_ _ ?_); (focus ((first | omega | (simp <;> omega)); done))) | ((with_reducible refine bl_set ?_ _ ?_); (focus ((first | omega | (simp <;> omega)); done))) | (with_reducible refine below_drewN ?_ _) | (with_reducible refine Below.drew ?_) | ((with_reducible refine bl_trans ?_ HB7.out ?_); (focus ((first | omega | (simp <;> omega)); done))))⟩
end Go.Proofs.YtampjgfddakdoaaDoor
