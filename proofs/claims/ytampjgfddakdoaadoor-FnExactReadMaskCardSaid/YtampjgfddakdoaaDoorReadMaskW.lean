/-
  The walk of FnExactReadMask: it returns true, and of what was there nothing has turned. The conditions are what its arguments' readings give.
-/
import Derived.Test.YtampjgfddakdoaaDoorRows
import Derived.Test.YtampjgfddakdoaaDoorLib
import Derived.Test.YtampjgfddakdoaaDoorShelf
import Derived.Test.YtampjgfddakdoaaDoorDec
import Derived.Test.YtampjgfddakdoaaDoorPow
import Derived.Test.YtampjgfddakdoaaDoorRdW
import Derived.Test.YtampjgfddakdoaaDoorInts
import Derived.Test.YtampjgfddakdoaaDoorIntsB
import Derived.Test.YtampjgfddakdoaaDoorOwn
import Derived.Test.YtampjgfddakdoaaDoorField
import Derived.Test.YtampjgfddakdoaaDoorMask
import Derived.Test.YtampjgfddakdoaaDoorMaskB
import Derived.Test.YtampjgfddakdoaaDoorMaskS
import Derived.Test.YtampjgfddakdoaaDoorMaskI
import Derived.Test.YtampjgfddakdoaaDoorMk
import Derived.Test.YtampjgfddakdoaaDoorNumP
import Derived.Test.YtampjgfddakdoaaDoorNumS
import Derived.Test.YtampjgfddakdoaaDoorSplP
import Derived.Test.YtampjgfddakdoaaDoorSplS
import Derived.Test.YtampjgfddakdoaaDoorRdP
import Derived.Test.YtampjgfddakdoaaDoorRdS
import Derived.Test.YtampjgfddakdoaaDoorRdW
import Derived.Test.YtampjgfddakdoaaDoorRdD
import Derived.Test.YtampjgfddakdoaaDoorRdI
import Derived.Test.YtampjgfddakdoaaDoorMskT
import Derived.Outline
import Derived.Deep.RegionHeld3
import Derived.Deep.DrawnRows
import Derived.Deep.DeepCutAuto
namespace Go.Proofs.YtampjgfddakdoaaDoor.fnExactReadMask
open Go.RowKit Go.ChangeShapes Go.WideShapes Go.ChangeAt
set_option linter.unusedVariables false
set_option linter.unusedSimpArgs false

attribute [local go_sem ↓] Go.wp_at_zero Go.wp_at_succ
open ofMaskText
def rmA (L : List UInt8) : List UInt8 := (splitL 32 L).getD 0 []
def rmB (L : List UInt8) : List UInt8 := (splitL 32 L).getD 1 []
def rmOk (L : List UInt8) : Bool := decide ((splitL 32 L).length = 2) && lstB (rmA L) && lstB (rmB L) && maskB (lstV (rmA L)) (lstV (rmB L))
def rmX (L : List UInt8) : List Int := if rmOk L = true then lstV (rmA L) else []
def rmY (L : List UInt8) : List Int := if rmOk L = true then lstV (rmB L) else []
theorem rm_no {L : List UInt8} (h : rmOk L = false) : rmX L = [] ∧ rmY L = [] ∧ rmOk L = false := ⟨if_neg (by rw [h]; simp), if_neg (by rw [h]; simp), h⟩
theorem rm_yes {L : List UInt8} (h : rmOk L = true) : rmX L = lstV (rmA L) ∧ rmY L = lstV (rmB L) ∧ rmOk L = true := ⟨if_pos h, if_pos h, h⟩
theorem lstV_len (l : List UInt8) : (lstV l).length ≤ 64 := by
  unfold lstV
  cases h : lstM l with
  | none => simp
  | some xs => exact (lstM_form h).2.2
theorem rm_len (L : List UInt8) : (rmX L).length ≤ 64 ∧ (rmY L).length ≤ 64 := by
  unfold rmX rmY
  constructor
  · split
    · exact lstV_len _
    · simp
  · split
    · exact lstV_len _
    · simp
theorem lstV_in (l : List UInt8) : ∀ n ∈ lstV l, In64 n := by
  unfold lstV
  cases h : lstM l with
  | none => intro n hn; cases hn
  | some xs =>
    intro n hn
    obtain ⟨k, hk, rfl⟩ := List.getElem_of_mem (show n ∈ xs from hn)
    have := (lstM_form h).2.1 k hk
    rw [getD_get0 hk] at this
    exact ⟨by omega, by omega⟩
theorem lstB_form {l : List UInt8} (h : lstB l = true) : listT (lstV l) = l := by
  unfold lstB at h
  cases hm : lstM l with
  | none => rw [hm] at h; cases h
  | some xs =>
    rw [(lst_some hm).1]
    exact (lstM_form hm).1
theorem rm_len2 {L : List UInt8} (h : ¬ (splitL 32 L).length = 2) : rmOk L = false := by simp [rmOk, h]
theorem rm_spec {L : List UInt8} (h : (splitL 32 L).length = 2) : rmOk L = (lstB (rmA L) && lstB (rmB L) && maskB (lstV (rmA L)) (lstV (rmB L))) := by simp [rmOk, h]
/-- What the program's way gives: the text cut at its first blank. -/
theorem rm_cut (L : List UInt8) : ∃ a b f, Lib.cut L [32] = (a, b, f) ∧ a.length ≤ L.length ∧ b.length ≤ L.length ∧ (lstB a = false → rmOk L = false) ∧ (lstB b = false → rmOk L = false) ∧
    (lstB a = true → lstB b = true → L ≠ [] ∧ rmOk L = maskB (lstV a) (lstV b) ∧ rmA L = a ∧ rmB L = b ∧ listT (lstV a) ++ [32] ++ listT (lstV b) = L) := by
  rcases part_of 32 L with hn | ⟨a, b, ha, rfl⟩
  · refine ⟨L, [], false, cut_none hn, Nat.le_refl _, Nat.zero_le _, fun _ => rm_len2 (by rw [splitL_none hn]; simp), fun _ => rm_len2 (by rw [splitL_none hn]; simp), fun _ h => ?_⟩
    rw [show lstB [] = false by unfold lstB; rw [lstM_nil]; rfl] at h
    cases h
  · refine ⟨a, b, true, cut_app ha, by simp, by simp; omega, ?_⟩
    by_cases hb : (32 : UInt8) ∈ b
    · have hbn : lstB b = false := by unfold lstB; rw [lstM_blank hb]; rfl
      have hl : ¬ (splitL 32 (a ++ 32 :: b)).length = 2 := by
        rw [splitL_app ha]
        rcases part_of 32 b with q | ⟨u, v, hu, rfl⟩
        · exact absurd hb q
        · rw [splitL_app hu]
          have := splitL_len 32 v
          simp only [List.length_cons]
          omega
      refine ⟨fun _ => rm_len2 hl, fun _ => rm_len2 hl, fun _ h => ?_⟩
      rw [hbn] at h
      cases h
    · have hs : splitL 32 (a ++ 32 :: b) = [a, b] := by rw [splitL_app ha, splitL_none hb]
      have e1 : rmA (a ++ 32 :: b) = a := by unfold rmA; rw [hs]; rfl
      have e2 : rmB (a ++ 32 :: b) = b := by unfold rmB; rw [hs]; rfl
      have e3 := rm_spec (L := a ++ 32 :: b) (by rw [hs]; rfl)
      rw [e1, e2] at e3
      refine ⟨fun h => by rw [e3, h]; rfl, fun h => by rw [e3, h]; simp, fun h1 h2 => ⟨by simp, by rw [e3, h1, h2]; simp, e1, e2, ?_⟩⟩
      rw [lstB_form h1, lstB_form h2]
      simp
set_option maxRecDepth 20000 in
set_option maxHeartbeats 8000000 in
theorem spec_any (w : World) (s : ByteArray) (is : s.size ≤ maxLen) (hs : s.size ≤ 1048576) :
    Calls Tryd.prog 6 #[.string s] w fun e w' => ∃ A0 n0 c0 A1 n1 c1, e = .returned (.tuple #[.agg #[.slice A0 n0 c0, .slice A1 n1 c1], .bool (rmOk s.data.toList)]) ∧ Row 2 w' w.heap.size (.slice A0 n0 c0) (rmX s.data.toList) ∧ Row 2 w' w.heap.size (.slice A1 n1 c1) (rmY s.data.toList) ∧ Apart (.slice A0 n0 c0) (.slice A1 n1 c1) ∧ Below w.heap.size w w' := by
  have HSP := Lib.hid (fun (W : World) => l01Split_any W s hs 32 32 (by rfl))
  have HPL := Lib.hid (fun p (h : p ∈ splitL 32 s.data.toList) => split_part p h)
  have HSL := Lib.hid (size_len s)
  have HR := Lib.hid (fun (W : World) (p : List UInt8) (h : p.length ≤ 1048576) => specReadList_any W ⟨p.toArray⟩ (by rw [psize]; exact h))
  simp only [numV_size] at HR
  obtain ⟨L, hL⟩ : ∃ L, L = s.data.toList := ⟨_, rfl⟩
  rw [← hL] at HSP HPL HSL ⊢
  clear hL is
  have SR0 := Lib.hid (SInv.fresh w #[.slice none 0 0, .slice none 0 0] 24)
  go_enter Tryd.func6, Tryd.ntmps6
  go_wp2_with fail
  refine (HSP.out _).mono ?_
  rintro e w1 ⟨g, cap, rfl, gB, gl, hcc, hb⟩
  have H1 := Lib.hid (show Below w.heap.size w w1 by repeat (first | (with_reducible exact Below.refl _ _) | (with_reducible assumption) | ((with_reducible refine bl_alloc ?_ _ ?_); (focus ((first | omega | (simp <;> omega)); done))) | ((with_reducible refine bl_set ?_ _ ?_); (focus ((first | omega | (simp <;> omega)); done))) | (with_reducible refine below_drewN ?_ _) | (with_reducible refine Below.drew ?_) | ((with_reducible refine bl_trans ?_ hb ?_); (focus ((first | omega | (simp <;> omega)); done)))))
  have SR1 := Lib.hid (SR0.out.later hb)
  have HCC := Lib.hid hcc
  have z1 := hb.size
  simp at z1
  clear hcc hb HSP SR0
  have n0 := SR1.out.cell 0 _ rfl
  have n1 := SR1.out.cell 1 _ rfl
  have nf := SR1.out.free
  have nl := SR1.out.lt
  by_cases h2 : (splitL 32 L).length = 2
  rotate_left
  · have HN := Lib.hid (rm_no (rm_len2 h2))
    obtain ⟨N, hN⟩ : ∃ N, N = (splitL 32 L).length := ⟨_, rfl⟩
    rw [← hN] at h2 ⊢
    clear hN HCC HPL
    have q1 : ((N : Int) == 2) = false := by rw [beq_eq_false_iff_ne]; omega
    have q2 : ((N : Int) != 2) = true := by rw [bne_iff_ne]; omega
    have q3 : ¬ (N : Int) = 2 := by omega
    go_wp2_with fail
    refine bodyPost_ret (v := .tuple #[.agg #[.slice none 0 0, .slice none 0 0], .bool false]) (by simp [results, Tryd.results6, go_sem, *]) rfl ?_
    rw [HN.out.1, HN.out.2.1, HN.out.2.2]
    exact ⟨_, _, _, _, _, _, rfl, Row.nil_, Row.nil_, (fun g h _ => by simp [Value.ownBlock] at h), by repeat (first | (with_reducible exact Below.refl _ _) | (with_reducible assumption) | ((with_reducible refine bl_alloc ?_ _ ?_); (focus ((first | omega | (simp <;> omega)); done))) | ((with_reducible refine bl_set ?_ _ ?_); (focus ((first | omega | (simp <;> omega)); done))) | (with_reducible refine below_drewN ?_ _) | (with_reducible refine Below.drew ?_) | ((with_reducible refine bl_trans ?_ H1.out ?_); (focus ((first | omega | (simp <;> omega)); done))))⟩
  have HNO := Lib.hid (fun h => rm_no (L := L) h)
  have HYES := Lib.hid (fun h => rm_yes (L := L) h)
  have HSPEC := Lib.hid (rm_spec h2)
  have pa := part_mem (ps := splitL 32 L) (k := 0) (by omega)
  have pb := part_mem (ps := splitL 32 L) (k := 1) (by omega)
  have ca := HCC.out 0 _ pa.2
  have cb := HCC.out 1 _ pb.2
  have la := HPL.out _ pa.1
  have lb := HPL.out _ pb.1
  rw [h2]
  obtain ⟨a, ha⟩ : ∃ a, a = rmA L := ⟨_, rfl⟩
  obtain ⟨b, hb⟩ : ∃ b, b = rmB L := ⟨_, rfl⟩
  rw [← ha] at HSPEC HYES
  rw [← hb] at HSPEC HYES
  change w1.cell? _ = some (encL (rmA L)) at ca
  change w1.cell? _ = some (encL (rmB L)) at cb
  change (rmA L).length ≤ _ at la
  change (rmB L).length ≤ _ at lb
  rw [← ha] at ca la
  rw [← hb] at cb lb
  clear pa pb h2 HCC HPL ha hb
  have HA := Lib.hid (fun W => HR.out W a (by have := HSL.out; omega))
  have HB := Lib.hid (fun W => HR.out W b (by have := HSL.out; omega))
  obtain ⟨ea, hea⟩ : ∃ z : ByteArray, z = ⟨a.toArray⟩ := ⟨_, rfl⟩
  obtain ⟨eb, heb⟩ : ∃ z : ByteArray, z = ⟨b.toArray⟩ := ⟨_, rfl⟩
  rw [← hea] at HA
  rw [← heb] at HB
  rw [show encL a = .string ea by rw [hea]; rfl] at ca
  rw [show encL b = .string eb by rw [heb]; rfl] at cb
  clear hea heb HR la lb
  obtain ⟨o1, ho1⟩ : ∃ o, o = lstB a := ⟨_, rfl⟩
  obtain ⟨o2, ho2⟩ : ∃ o, o = lstB b := ⟨_, rfl⟩
  obtain ⟨xa, hxa⟩ : ∃ o, o = lstV a := ⟨_, rfl⟩
  obtain ⟨xb, hxb⟩ : ∃ o, o = lstV b := ⟨_, rfl⟩
  rw [← ho1, ← hxa] at HA
  rw [← ho2, ← hxb] at HB
  rw [← ho1, ← ho2, ← hxa, ← hxb] at HSPEC
  rw [← hxa, ← hxb] at HYES
  clear ho1 ho2 hxa hxb
  clear n0 n1 nf
  go_wp2_with fail
  refine (HA.out _).mono ?_
  rintro e w2 ⟨A2, m2, d2, rfl, hr2, hb⟩
  have H2 := Lib.hid (show Below w.heap.size w w2 from H1.out.trans (hb.mono H1.out.size))
  have SR2 := Lib.hid (SR1.out.later hb)
  have z2 := hb.size
  have R2 := Lib.hid hr2
  have cb2 := keeps hb cb
  clear hb hr2 SR1 ca cb HA
  go_wp2_with fail
  refine (HB.out _).mono ?_
  rintro e w3 ⟨A3, m3, d3, rfl, hr3, hb⟩
  have H3 := Lib.hid (show Below w.heap.size w w3 from H2.out.trans (hb.mono H2.out.size))
  have SR3 := Lib.hid (SR2.out.later hb)
  have z3 := hb.size
  have R3 := Lib.hid hr3
  have R2b := Lib.hid (R2.out.later hb)
  clear hb hr3 SR2 cb2 HB nl
  have n0 := SR3.out.cell 0 _ rfl
  have n1 := SR3.out.cell 1 _ rfl
  have nf := SR3.out.free
  have nl := SR3.out.lt
  have HAp : Hid (Apart (.slice A2 m2 d2) (.slice A3 m3 d3)) := fun x h1 h2 => by have h3 := (R2.out.lt x h1).2; have h4 := (R3.out.lt x h2).1; omega
  have SR3a := Lib.hid (SR3.out.alloc_ (.cells #[.slice A2 m2 d2, .slice A3 m3 d3] 24))
  cases o1 with
  | false =>
    have HN := Lib.hid (HNO.out (by rw [HSPEC.out]; rfl))
    clear HNO HYES HSPEC
    go_wp2_with fail
    refine bodyPost_ret (v := .tuple #[.agg #[.slice none 0 0, .slice none 0 0], .bool false]) (by simp [results, Tryd.results6, go_sem, *]) rfl ?_
    rw [HN.out.1, HN.out.2.1, HN.out.2.2]
    exact ⟨_, _, _, _, _, _, rfl, Row.nil_, Row.nil_, (fun g h _ => by simp [Value.ownBlock] at h), by repeat (first | (with_reducible exact Below.refl _ _) | (with_reducible assumption) | ((with_reducible refine bl_alloc ?_ _ ?_); (focus ((first | omega | (simp <;> omega)); done))) | ((with_reducible refine bl_set ?_ _ ?_); (focus ((first | omega | (simp <;> omega)); done))) | (with_reducible refine below_drewN ?_ _) | (with_reducible refine Below.drew ?_) | ((with_reducible refine bl_trans ?_ H3.out ?_); (focus ((first | omega | (simp <;> omega)); done))))⟩
  | true =>
    cases o2 with
    | false =>
      have HN := Lib.hid (HNO.out (by rw [HSPEC.out]; rfl))
      clear HNO HYES HSPEC
      go_wp2_with fail
      refine bodyPost_ret (v := .tuple #[.agg #[.slice none 0 0, .slice none 0 0], .bool false]) (by simp [results, Tryd.results6, go_sem, *]) rfl ?_
      rw [HN.out.1, HN.out.2.1, HN.out.2.2]
      exact ⟨_, _, _, _, _, _, rfl, Row.nil_, Row.nil_, (fun g h _ => by simp [Value.ownBlock] at h), by repeat (first | (with_reducible exact Below.refl _ _) | (with_reducible assumption) | ((with_reducible refine bl_alloc ?_ _ ?_); (focus ((first | omega | (simp <;> omega)); done))) | ((with_reducible refine bl_set ?_ _ ?_); (focus ((first | omega | (simp <;> omega)); done))) | (with_reducible refine below_drewN ?_ _) | (with_reducible refine Below.drew ?_) | ((with_reducible refine bl_trans ?_ H3.out ?_); (focus ((first | omega | (simp <;> omega)); done))))⟩
    | true =>
      have HOK := Lib.hid (l08Ok_any (w3.alloc (.cells #[.slice A2 m2 d2, .slice A3 m3 d3] 24)) w3.heap.size _ xa _ (R2b.out.alloc_ _) _ xb _ (R3.out.alloc_ _) (by simp [go_sem]) (by simp [go_sem]))
      obtain ⟨M, hM⟩ : ∃ M, M = maskB xa xb := ⟨_, rfl⟩
      rw [← hM] at HOK HSPEC
      clear hM n0 n1 nf
      have n0 := SR3a.out.cell 0 _ rfl
      have n1 := SR3a.out.cell 1 _ rfl
      have nf := SR3a.out.free
      go_wp2_with fail
      refine HOK.out.mono ?_
      rintro e w4 ⟨rfl, kd, rfl⟩
      clear HOK
      cases M with
      | false =>
        have HN := Lib.hid (HNO.out (by rw [HSPEC.out]; rfl))
        clear HNO HYES HSPEC
        go_wp2_with fail
        refine bodyPost_ret (v := .tuple #[.agg #[.slice none 0 0, .slice none 0 0], .bool false]) (by simp [results, Tryd.results6, go_sem, *]) rfl ?_
        rw [HN.out.1, HN.out.2.1, HN.out.2.2]
        exact ⟨_, _, _, _, _, _, rfl, Row.nil_, Row.nil_, (fun g h _ => by simp [Value.ownBlock] at h), by repeat (first | (with_reducible exact Below.refl _ _) | (with_reducible assumption) | ((with_reducible refine bl_alloc ?_ _ ?_); (focus ((first | omega | (simp <;> omega)); done))) | ((with_reducible refine bl_set ?_ _ ?_); (focus ((first | omega | (simp <;> omega)); done))) | (with_reducible refine below_drewN ?_ _) | (with_reducible refine Below.drew ?_) | ((with_reducible refine bl_trans ?_ H3.out ?_); (focus ((first | omega | (simp <;> omega)); done))))⟩
      | true =>
        have HN := Lib.hid (HYES.out (by rw [HSPEC.out]; rfl))
        clear HNO HYES HSPEC
        go_wp2_with fail
        refine bodyPost_ret (v := .tuple #[.agg #[.slice A2 m2 d2, .slice A3 m3 d3], .bool true]) (by simp [results, Tryd.results6, go_sem, *]) rfl ?_
        rw [HN.out.1, HN.out.2.1, HN.out.2.2]
        refine ⟨_, _, _, _, _, _, rfl, ?_, ?_, HAp.out, by repeat (first | (with_reducible exact Below.refl _ _) | (with_reducible assumption) | ((with_reducible refine bl_alloc ?_ _ ?_); (focus ((first | omega | (simp <;> omega)); done))) | ((with_reducible refine bl_set ?_ _ ?_); (focus ((first | omega | (simp <;> omega)); done))) | (with_reducible refine below_drewN ?_ _) | (with_reducible refine Below.drew ?_) | ((with_reducible refine bl_trans ?_ H3.out ?_); (focus ((first | omega | (simp <;> omega)); done))))⟩
        · refine Row.base_le (base := w1.heap.size) ?_ (by omega)
          repeat (first | (with_reducible exact R2b.out) | (with_reducible refine Row.alloc_ ?_ _) | (with_reducible refine Row.drewN ?_ _) | ((with_reducible refine Row.low ?_ _ ?_); (focus ((first | omega | (simp <;> omega)); done))))
        · refine Row.base_le (base := w2.heap.size) ?_ (by omega)
          repeat (first | (with_reducible exact R3.out) | (with_reducible refine Row.alloc_ ?_ _) | (with_reducible refine Row.drewN ?_ _) | ((with_reducible refine Row.low ?_ _ ?_); (focus ((first | omega | (simp <;> omega)); done))))
set_option maxRecDepth 20000 in
set_option maxHeartbeats 8000000 in
theorem impl_any (w : World) (hT : RdTab w) (s : ByteArray) (is : s.size ≤ maxLen) (hs : s.size ≤ 1048576) :
    Calls Tryd.prog 7 #[.string s] w fun e w' => ∃ A0 n0 c0 A1 n1 c1, e = .returned (.tuple #[.agg #[.slice A0 n0 c0, .slice A1 n1 c1], .bool (rmOk s.data.toList)]) ∧ Row 2 w' w.heap.size (.slice A0 n0 c0) (rmX s.data.toList) ∧ Row 2 w' w.heap.size (.slice A1 n1 c1) (rmY s.data.toList) ∧ Apart (.slice A0 n0 c0) (.slice A1 n1 c1) ∧ Below w.heap.size w w' := by
  have HT := Lib.hid hT
  clear hT
  obtain ⟨mm, hmm⟩ := HT.out.mx
  have HSL := Lib.hid (size_len s)
  have HETA := Lib.hid (bytes_eta s)
  have HCUT := Lib.hid (fun W h => Tryd.strings_Cut s ⟨#[32]⟩ mm W (by omega) h)
  simp only [show ((⟨#[32]⟩ : ByteArray).data.toList) = [32] from rfl] at HCUT
  have HR := Lib.hid (fun (W : World) (hW : Below w.heap.size w W) (p : List UInt8) (h : p.length ≤ 1048576) => implReadList_any W (HT.out.below hW) ⟨p.toArray⟩ (by rw [psize]; exact h))
  simp only [numV_size] at HR
  obtain ⟨L, hL⟩ : ∃ L, L = s.data.toList := ⟨_, rfl⟩
  rw [← hL] at HCUT HSL HETA ⊢
  clear hL is
  obtain ⟨a, b, f, hcut, la, lb, h1, h2, h3⟩ := rm_cut L
  rw [hcut] at HCUT
  simp only at HCUT
  have HO1 := Lib.hid (fun h => rm_no (L := L) (h1 h))
  have HO2 := Lib.hid (fun h => rm_no (L := L) (h2 h))
  have HO3 := Lib.hid h3
  have IA := Lib.hid (lstV_in a)
  have IB := Lib.hid (lstV_in b)
  clear hcut h1 h2 h3
  have HA := Lib.hid (fun W hW => HR.out W hW a (by have := HSL.out; omega))
  have HB := Lib.hid (fun W hW => HR.out W hW b (by have := HSL.out; omega))
  obtain ⟨ea, hea⟩ : ∃ z : ByteArray, z = ⟨a.toArray⟩ := ⟨_, rfl⟩
  obtain ⟨eb, heb⟩ : ∃ z : ByteArray, z = ⟨b.toArray⟩ := ⟨_, rfl⟩
  rw [← hea, ← heb] at HCUT
  rw [← hea] at HA
  rw [← heb] at HB
  clear hea heb HR la lb
  obtain ⟨o1, ho1⟩ : ∃ o, o = lstB a := ⟨_, rfl⟩
  obtain ⟨o2, ho2⟩ : ∃ o, o = lstB b := ⟨_, rfl⟩
  obtain ⟨xa, hxa⟩ : ∃ o, o = lstV a := ⟨_, rfl⟩
  obtain ⟨xb, hxb⟩ : ∃ o, o = lstV b := ⟨_, rfl⟩
  rw [← ho1, ← hxa] at HA
  rw [← ho2, ← hxb] at HB
  rw [← ho1] at HO1 HO3
  rw [← ho2] at HO2 HO3
  rw [← hxa] at HO3 IA
  rw [← hxb] at HO3 IB
  have HV : Hid (rmA L = a → rmB L = b → lstV (rmA L) = xa ∧ lstV (rmB L) = xb) := fun p q => by rw [p, q, hxa, hxb]; exact ⟨rfl, rfl⟩
  clear ho1 ho2 hxa hxb
  have SR0 := Lib.hid (SInv.fresh w #[.slice none 0 0, .slice none 0 0] 24)
  have cm := cell_alloc hmm (.cells #[.slice none 0 0, .slice none 0 0] 24)
  go_enter Tryd.func7, Tryd.ntmps7
  go_wp2_with fail
  refine (HCUT.out _ cm).mono ?_
  rintro e w1 ⟨rfl, kd, rfl⟩
  obtain ⟨w1, hw1⟩ : ∃ W, W = (w.alloc (.cells #[.slice none 0 0, .slice none 0 0] 24)).drewN kd := ⟨_, rfl⟩
  rw [← hw1]
  have H1 := Lib.hid (show Below w.heap.size w w1 by rw [hw1]; repeat (first | (with_reducible exact Below.refl _ _) | (with_reducible assumption) | ((with_reducible refine bl_alloc ?_ _ ?_); (focus ((first | omega | (simp <;> omega)); done))) | ((with_reducible refine bl_set ?_ _ ?_); (focus ((first | omega | (simp <;> omega)); done))) | (with_reducible refine below_drewN ?_ _) | (with_reducible refine Below.drew ?_)))
  have SR1 := Lib.hid (show SInv w1 w.heap.size [.slice none 0 0, .slice none 0 0] by rw [hw1]; exact SR0.out.draw kd)
  have z1 : w.heap.size + 1 ≤ w1.heap.size := by rw [hw1]; simp [go_sem]
  clear hw1 cm hmm HCUT SR0
  go_wp2_with fail
  refine (HA.out _ H1.out).mono ?_
  rintro e w2 ⟨A2, m2, d2, rfl, hr2, hb⟩
  have H2 := Lib.hid (show Below w.heap.size w w2 from H1.out.trans (hb.mono H1.out.size))
  have SR2 := Lib.hid (SR1.out.later hb)
  have z2 := hb.size
  have R2 := Lib.hid hr2
  clear hb hr2 SR1 HA
  go_wp2_with fail
  refine (HB.out _ H2.out).mono ?_
  rintro e w3 ⟨A3, m3, d3, rfl, hr3, hb⟩
  have H3 := Lib.hid (show Below w.heap.size w w3 from H2.out.trans (hb.mono H2.out.size))
  have SR3 := Lib.hid (SR2.out.later hb)
  have z3 := hb.size
  have R3 := Lib.hid hr3
  have R2b := Lib.hid (R2.out.later hb)
  clear hb hr3 SR2 HB
  have n0 := SR3.out.cell 0 _ rfl
  have n1 := SR3.out.cell 1 _ rfl
  have nf := SR3.out.free
  have nl := SR3.out.lt
  have HAp : Hid (Apart (.slice A2 m2 d2) (.slice A3 m3 d3)) := fun x h1 h2 => by have h3 := (R2.out.lt x h1).2; have h4 := (R3.out.lt x h2).1; omega
  have SR3a := Lib.hid (SR3.out.alloc_ (.cells #[.slice A2 m2 d2, .slice A3 m3 d3] 24))
  cases o1 with
  | false =>
    have HN := Lib.hid (HO1.out rfl)
    clear HO1 HO2 HO3 HV
    go_wp2_with fail
    refine bodyPost_ret (v := .tuple #[.agg #[.slice none 0 0, .slice none 0 0], .bool false]) (by simp [results, Tryd.results7, go_sem, *]) rfl ?_
    rw [HN.out.1, HN.out.2.1, HN.out.2.2]
    exact ⟨_, _, _, _, _, _, rfl, Row.nil_, Row.nil_, (fun g h _ => by simp [Value.ownBlock] at h), by repeat (first | (with_reducible exact Below.refl _ _) | (with_reducible assumption) | ((with_reducible refine bl_alloc ?_ _ ?_); (focus ((first | omega | (simp <;> omega)); done))) | ((with_reducible refine bl_set ?_ _ ?_); (focus ((first | omega | (simp <;> omega)); done))) | (with_reducible refine below_drewN ?_ _) | (with_reducible refine Below.drew ?_) | ((with_reducible refine bl_trans ?_ H3.out ?_); (focus ((first | omega | (simp <;> omega)); done))))⟩
  | true =>
    cases o2 with
    | false =>
      have HN := Lib.hid (HO2.out rfl)
      clear HO1 HO2 HO3 HV
      go_wp2_with fail
      refine bodyPost_ret (v := .tuple #[.agg #[.slice none 0 0, .slice none 0 0], .bool false]) (by simp [results, Tryd.results7, go_sem, *]) rfl ?_
      rw [HN.out.1, HN.out.2.1, HN.out.2.2]
      exact ⟨_, _, _, _, _, _, rfl, Row.nil_, Row.nil_, (fun g h _ => by simp [Value.ownBlock] at h), by repeat (first | (with_reducible exact Below.refl _ _) | (with_reducible assumption) | ((with_reducible refine bl_alloc ?_ _ ?_); (focus ((first | omega | (simp <;> omega)); done))) | ((with_reducible refine bl_set ?_ _ ?_); (focus ((first | omega | (simp <;> omega)); done))) | (with_reducible refine below_drewN ?_ _) | (with_reducible refine Below.drew ?_) | ((with_reducible refine bl_trans ?_ H3.out ?_); (focus ((first | omega | (simp <;> omega)); done))))⟩
    | true =>
      obtain ⟨hne, hok, e1, e2, hform⟩ := HO3.out rfl rfl
      obtain ⟨v1, v2⟩ := HV.out e1 e2
      have H3a := Lib.hid (show Below w.heap.size w (w3.alloc (.cells #[.slice A2 m2 d2, .slice A3 m3 d3] 24)) by repeat (first | (with_reducible exact Below.refl _ _) | (with_reducible assumption) | ((with_reducible refine bl_alloc ?_ _ ?_); (focus ((first | omega | (simp <;> omega)); done))) | ((with_reducible refine bl_set ?_ _ ?_); (focus ((first | omega | (simp <;> omega)); done))) | (with_reducible refine below_drewN ?_ _) | (with_reducible refine Below.drew ?_) | ((with_reducible refine bl_trans ?_ H3.out ?_); (focus ((first | omega | (simp <;> omega)); done)))))
      have HMT := Lib.hid (ofMaskText.impl_any (w3.alloc (.cells #[.slice A2 m2 d2, .slice A3 m3 d3] 24)) (HT.out.pow.below H3a.out) _ xa _ (R2b.out.alloc_ _) IA.out _ xb _ (R3.out.alloc_ _) IB.out)
      have y0 : (w3.alloc (.cells #[.slice A2 m2 d2, .slice A3 m3 d3] 24)).cell? ⟨w3.heap.size, 0, none⟩ = some (.slice A2 m2 d2) := by simp [go_sem]
      have y1 : (w3.alloc (.cells #[.slice A2 m2 d2, .slice A3 m3 d3] 24)).cell? ⟨w3.heap.size, 1, none⟩ = some (.slice A3 m3 d3) := by simp [go_sem]
      have Y0 := Lib.hid y0
      have Y1 := Lib.hid y1
      clear n0 n1 nf y0 y1 HO1 HO2 HO3 HV
      rcases bool_tf (maskB xa xb) with hM | hM
      · rw [hM] at hok
        obtain ⟨f1, f2, f3⟩ := rm_yes hok
        have HN := Lib.hid (show rmX L = xa ∧ rmY L = xb ∧ rmOk L = true from ⟨f1.trans v1, f2.trans v2, f3⟩)
        rw [maskT_yes hM, hform, HETA.out] at HMT
        clear hne hok e1 e2 hform v1 v2 hM f1 f2 f3
        go_wp2_with fail
        refine HMT.out.mono ?_
        rintro e w4 ⟨rfl, hb⟩
        have H4 := Lib.hid (show Below w.heap.size w w4 by repeat (first | (with_reducible exact Below.refl _ _) | (with_reducible assumption) | ((with_reducible refine bl_alloc ?_ _ ?_); (focus ((first | omega | (simp <;> omega)); done))) | ((with_reducible refine bl_set ?_ _ ?_); (focus ((first | omega | (simp <;> omega)); done))) | (with_reducible refine below_drewN ?_ _) | (with_reducible refine Below.drew ?_) | ((with_reducible refine bl_trans ?_ hb ?_); (focus ((first | omega | (simp <;> omega)); done))) | ((with_reducible refine bl_trans ?_ H3.out ?_); (focus ((first | omega | (simp <;> omega)); done)))))
        have SR4 := Lib.hid (SR3a.out.later hb)
        have R2c := Lib.hid ((R2b.out.alloc_ _).later hb)
        have R3c := Lib.hid ((R3.out.alloc_ _).later hb)
        have b0 := keeps hb Y0.out
        have b1 := keeps hb Y1.out
        have z4 := hb.size
        clear hb HMT R2b SR3a Y0 Y1
        have n0 := SR4.out.cell 0 _ rfl
        have n1 := SR4.out.cell 1 _ rfl
        have nf := SR4.out.free
        go_wp2_with fail
        refine bodyPost_ret (v := .tuple #[.agg #[.slice A2 m2 d2, .slice A3 m3 d3], .bool true]) (by simp [results, Tryd.results7, go_sem, *]) rfl ?_
        rw [HN.out.1, HN.out.2.1, HN.out.2.2]
        refine ⟨_, _, _, _, _, _, rfl, ?_, ?_, HAp.out, by repeat (first | (with_reducible exact Below.refl _ _) | (with_reducible assumption) | ((with_reducible refine bl_alloc ?_ _ ?_); (focus ((first | omega | (simp <;> omega)); done))) | ((with_reducible refine bl_set ?_ _ ?_); (focus ((first | omega | (simp <;> omega)); done))) | (with_reducible refine below_drewN ?_ _) | (with_reducible refine Below.drew ?_) | ((with_reducible refine bl_trans ?_ H4.out ?_); (focus ((first | omega | (simp <;> omega)); done))))⟩
        · refine Row.base_le (base := w1.heap.size) ?_ (by omega)
          repeat (first | (with_reducible exact R2c.out) | ((with_reducible refine Row.low ?_ _ ?_); (focus ((first | omega | (simp <;> omega)); done))))
        · refine Row.base_le (base := w2.heap.size) ?_ (by omega)
          repeat (first | (with_reducible exact R3c.out) | ((with_reducible refine Row.low ?_ _ ?_); (focus ((first | omega | (simp <;> omega)); done))))
      · rw [hM] at hok
        have HN := Lib.hid (rm_no hok)
        rw [maskT_no hM] at HMT
        have hne2 : ¬ (⟨([] : List UInt8).toArray⟩ : ByteArray) = s := fun q => hne (by have h := HETA.out; rw [← q] at h; have h2 := arr_eta h; simpa using h2)
        obtain ⟨q1, q2⟩ := str_off hne2
        obtain ⟨es, hes⟩ : ∃ z : ByteArray, z = ⟨([] : List UInt8).toArray⟩ := ⟨_, rfl⟩
        rw [← hes] at HMT q1 q2
        clear hes hne2 hne hok e1 e2 hform v1 v2 hM
        go_wp2_with fail
        refine HMT.out.mono ?_
        rintro e w4 ⟨rfl, hb⟩
        have H4 := Lib.hid (show Below w.heap.size w w4 by repeat (first | (with_reducible exact Below.refl _ _) | (with_reducible assumption) | ((with_reducible refine bl_alloc ?_ _ ?_); (focus ((first | omega | (simp <;> omega)); done))) | ((with_reducible refine bl_set ?_ _ ?_); (focus ((first | omega | (simp <;> omega)); done))) | (with_reducible refine below_drewN ?_ _) | (with_reducible refine Below.drew ?_) | ((with_reducible refine bl_trans ?_ hb ?_); (focus ((first | omega | (simp <;> omega)); done))) | ((with_reducible refine bl_trans ?_ H3.out ?_); (focus ((first | omega | (simp <;> omega)); done)))))
        have SR4 := Lib.hid (SR3a.out.later hb)
        have R2c := Lib.hid ((R2b.out.alloc_ _).later hb)
        have R3c := Lib.hid ((R3.out.alloc_ _).later hb)
        have b0 := keeps hb Y0.out
        have b1 := keeps hb Y1.out
        have z4 := hb.size
        clear hb HMT R2b SR3a Y0 Y1
        have n0 := SR4.out.cell 0 _ rfl
        have n1 := SR4.out.cell 1 _ rfl
        have nf := SR4.out.free
        go_wp2_with fail
        refine bodyPost_ret (v := .tuple #[.agg #[.slice none 0 0, .slice none 0 0], .bool false]) (by simp [results, Tryd.results7, go_sem, *]) rfl ?_
        rw [HN.out.1, HN.out.2.1, HN.out.2.2]
        exact ⟨_, _, _, _, _, _, rfl, Row.nil_, Row.nil_, (fun g h _ => by simp [Value.ownBlock] at h), by repeat (first | (with_reducible exact Below.refl _ _) | (with_reducible assumption) | ((with_reducible refine bl_alloc ?_ _ ?_); (focus ((first | omega | (simp <;> omega)); done))) | ((with_reducible refine bl_set ?_ _ ?_); (focus ((first | omega | (simp <;> omega)); done))) | (with_reducible refine below_drewN ?_ _) | (with_reducible refine Below.drew ?_) | ((with_reducible refine bl_trans ?_ H4.out ?_); (focus ((first | omega | (simp <;> omega)); done))))⟩
set_option maxRecDepth 20000 in
set_option maxHeartbeats 16000000 in
theorem walk (w : World) (hT : RdTab w) (s0 : ByteArray) (is0 : s0.size ≤ maxLen) :
    Calls Tryd.prog 3 #[.string s0] w fun e w' => e = .returned (.bool true) ∧ Below w.heap.size w w' := by
  have hml := rm_len s0.data.toList
  have HTab := Lib.hid hT
  clear hT
  by_cases ht0 : ¬ (s0.size : Int) ≤ 1048576
  · go_enter Tryd.func3, Tryd.ntmps3
    go_wp2_with fail
    go_ret
    exact ⟨rfl, by repeat (first | (with_reducible exact Below.refl _ _) | (with_reducible assumption) | ((with_reducible refine bl_alloc ?_ _ ?_); (focus ((first | omega | (simp <;> omega)); done))) | ((with_reducible refine bl_set ?_ _ ?_); (focus ((first | omega | (simp <;> omega)); done))) | (with_reducible refine below_drewN ?_ _) | (with_reducible refine Below.drew ?_))⟩
  have ht0' : (s0.size : Int) ≤ 1048576 := by omega
  clear ht0
  go_enter Tryd.func3, Tryd.ntmps3
  go_wp2_with fail
  refine (spec_any _ s0 is0 (by omega)).mono ?_
  rintro e w1 ⟨A0, n0, c0, A1, n1, c1, rfl, hr0, hr1, ha0_1, hb⟩
  have zz1 : w.heap.size ≤ w1.heap.size := (by have := hb.size; ((try simp at this) <;> omega))
  have H1 := Lib.hid (show Below w.heap.size w w1 by repeat (first | (with_reducible exact Below.refl _ _) | (with_reducible assumption) | ((with_reducible refine bl_alloc ?_ _ ?_); (focus ((first | omega | (simp <;> omega)); done))) | ((with_reducible refine bl_set ?_ _ ?_); (focus ((first | omega | (simp <;> omega)); done))) | (with_reducible refine below_drewN ?_ _) | (with_reducible refine Below.drew ?_) | ((with_reducible refine bl_trans ?_ hb ?_); (focus ((first | omega | (simp <;> omega)); done)))))
  have R0_1 := Lib.hid hr0
  have RL0 := Lib.hid (show ∀ g, Value.ownBlock (.slice A0 n0 c0) = some g → w.heap.size ≤ g ∧ g < w1.heap.size from fun g h => by have l1 := hr0.lt g h; ((try simp at l1) <;> omega))
  have RA0_1 := Lib.hid ha0_1
  have R1_1 := Lib.hid hr1
  have RL1 := Lib.hid (show ∀ g, Value.ownBlock (.slice A1 n1 c1) = some g → w.heap.size ≤ g ∧ g < w1.heap.size from fun g h => by have l1 := hr1.lt g h; ((try simp at l1) <;> omega))
  clear hb hr0 ha0_1 hr1
  go_wp2_with fail
  refine (impl_any _ (RdTab.below HTab.out (by repeat (first | (with_reducible exact Below.refl _ _) | (with_reducible assumption) | ((with_reducible refine bl_alloc ?_ _ ?_); (focus ((first | omega | (simp <;> omega)); done))) | ((with_reducible refine bl_set ?_ _ ?_); (focus ((first | omega | (simp <;> omega)); done))) | (with_reducible refine below_drewN ?_ _) | (with_reducible refine Below.drew ?_) | ((with_reducible refine bl_trans ?_ H1.out ?_); (focus ((first | omega | (simp <;> omega)); done)))))) s0 is0 (by omega)).mono ?_
  rintro e w2 ⟨A2, n2, c2, A3, n3, c3, rfl, hr2, hr3, ha2_3, hb⟩
  have zz2 : w1.heap.size + 1 ≤ w2.heap.size := (by have := hb.size; ((try simp at this) <;> omega))
  have H2 := Lib.hid (show Below w.heap.size w w2 by repeat (first | (with_reducible exact Below.refl _ _) | (with_reducible assumption) | ((with_reducible refine bl_alloc ?_ _ ?_); (focus ((first | omega | (simp <;> omega)); done))) | ((with_reducible refine bl_set ?_ _ ?_); (focus ((first | omega | (simp <;> omega)); done))) | (with_reducible refine below_drewN ?_ _) | (with_reducible refine Below.drew ?_) | ((with_reducible refine bl_trans ?_ hb ?_); (focus ((first | omega | (simp <;> omega)); done))) | ((with_reducible refine bl_trans ?_ H1.out ?_); (focus ((first | omega | (simp <;> omega)); done)))))
  have f0_0_2 := keeps hb (p := ⟨w1.heap.size, 0, none⟩) (v := (.slice A0 n0 c0)) (by simp [go_sem])
  have f0_1_2 := keeps hb (p := ⟨w1.heap.size, 1, none⟩) (v := (.slice A1 n1 c1)) (by simp [go_sem])
  have g0_2 : w1.heap.size < w2.heap.size := block_of_cell f0_0_2
  have R0_2 := Lib.hid (Row.later (R0_1.out.alloc_ _) hb)
  have R1_2 := Lib.hid (Row.later (R1_1.out.alloc_ _) hb)
  have R2_2 := Lib.hid hr2
  have RL2 := Lib.hid (show ∀ g, Value.ownBlock (.slice A2 n2 c2) = some g → w1.heap.size + 1 ≤ g ∧ g < w2.heap.size from fun g h => by have l1 := hr2.lt g h; ((try simp at l1) <;> omega))
  have RA2_3 := Lib.hid ha2_3
  have R3_2 := Lib.hid hr3
  have RL3 := Lib.hid (show ∀ g, Value.ownBlock (.slice A3 n3 c3) = some g → w1.heap.size + 1 ≤ g ∧ g < w2.heap.size from fun g h => by have l1 := hr3.lt g h; ((try simp at l1) <;> omega))
  clear hb R0_1 R1_1 hr2 ha2_3 hr3 H1
  go_wp2_with fail
  refine (eqMask_any  _ _ _ ((rmX s0.data.toList)) _ _ (R2_2.out.alloc_ _) (R0_2.out.alloc_ _) _ _ ((rmY s0.data.toList)) _ _ (R3_2.out.alloc_ _) (R1_2.out.alloc_ _)).mono ?_
  rintro e w3 ⟨rfl, hb⟩
  have zz3 : w2.heap.size + 1 ≤ w3.heap.size := (by have := hb.size; ((try simp at this) <;> omega))
  have H3 := Lib.hid (show Below w.heap.size w w3 by repeat (first | (with_reducible exact Below.refl _ _) | (with_reducible assumption) | ((with_reducible refine bl_alloc ?_ _ ?_); (focus ((first | omega | (simp <;> omega)); done))) | ((with_reducible refine bl_set ?_ _ ?_); (focus ((first | omega | (simp <;> omega)); done))) | (with_reducible refine below_drewN ?_ _) | (with_reducible refine Below.drew ?_) | ((with_reducible refine bl_trans ?_ hb ?_); (focus ((first | omega | (simp <;> omega)); done))) | ((with_reducible refine bl_trans ?_ H2.out ?_); (focus ((first | omega | (simp <;> omega)); done)))))
  have f0_0_3 := keeps hb (cell_alloc f0_0_2 _)
  have f0_1_3 := keeps hb (cell_alloc f0_1_2 _)
  have g0_3 : w1.heap.size < w3.heap.size := block_of_cell f0_0_3
  have f1_0_3 := keeps hb (p := ⟨w2.heap.size, 0, none⟩) (v := (.slice A2 n2 c2)) (by simp [go_sem])
  have f1_1_3 := keeps hb (p := ⟨w2.heap.size, 1, none⟩) (v := (.slice A3 n3 c3)) (by simp [go_sem])
  have g1_3 : w2.heap.size < w3.heap.size := block_of_cell f1_0_3
  have R0_3 := Lib.hid (Row.later (R0_2.out.alloc_ _) hb)
  have R1_3 := Lib.hid (Row.later (R1_2.out.alloc_ _) hb)
  have R2_3 := Lib.hid (Row.later (R2_2.out.alloc_ _) hb)
  have R3_3 := Lib.hid (Row.later (R3_2.out.alloc_ _) hb)
  clear hb f0_0_2 f0_1_2 g0_2 R0_2 R1_2 R2_2 R3_2 H2
  go_wp2_with fail
  refine (markMask_any  _ _ _ ((rmX s0.data.toList)) _ R2_3.out _ ((rmY s0.data.toList)) _ R3_3.out RA2_3.out (by omega) (by omega)).mono ?_
  rintro e w4 ⟨rfl, hr2, hr3, hb⟩
  have zz4 : w3.heap.size ≤ w4.heap.size := (by have := hb.size; ((try simp at this) <;> omega))
  have H4 := Lib.hid (show Below w.heap.size w w4 from Below.trans (by repeat (first | (with_reducible exact Below.refl _ _) | (with_reducible assumption) | ((with_reducible refine bl_alloc ?_ _ ?_); (focus ((first | omega | (simp <;> omega)); done))) | ((with_reducible refine bl_set ?_ _ ?_); (focus ((first | omega | (simp <;> omega)); done))) | (with_reducible refine below_drewN ?_ _) | (with_reducible refine Below.drew ?_) | ((with_reducible refine bl_trans ?_ H3.out ?_); (focus ((first | omega | (simp <;> omega)); done))))) (hb.below (by first | omega | (simp <;> omega)) (fun g hs => by rcases hs with hs | hs <;> first | (have := (RL2.out g hs).1; omega) | (have := (RL3.out g hs).1; omega))))
  have f0_0_4 := keepsW hb f0_0_3 (fun hs => by rcases hs with hs | hs <;> first | (have := RL2.out _ hs; ((try simp at this) <;> omega)) | (have := RL3.out _ hs; ((try simp at this) <;> omega)))
  have f0_1_4 := keepsW hb f0_1_3 (fun hs => by rcases hs with hs | hs <;> first | (have := RL2.out _ hs; ((try simp at this) <;> omega)) | (have := RL3.out _ hs; ((try simp at this) <;> omega)))
  have g0_4 : w1.heap.size < w4.heap.size := block_of_cell f0_0_4
  have f1_0_4 := keepsW hb f1_0_3 (fun hs => by rcases hs with hs | hs <;> first | (have := RL2.out _ hs; ((try simp at this) <;> omega)) | (have := RL3.out _ hs; ((try simp at this) <;> omega)))
  have f1_1_4 := keepsW hb f1_1_3 (fun hs => by rcases hs with hs | hs <;> first | (have := RL2.out _ hs; ((try simp at this) <;> omega)) | (have := RL3.out _ hs; ((try simp at this) <;> omega)))
  have g1_4 : w2.heap.size < w4.heap.size := block_of_cell f1_0_4
  have R0_4 := Lib.hid (Row.writes R0_3.out hb (fun g h hs => by have h1 := RL0.out g h; rcases hs with hs | hs <;> first | (have h2 := RL2.out g hs; omega) | (have h2 := RL3.out g hs; omega)))
  have R1_4 := Lib.hid (Row.writes R1_3.out hb (fun g h hs => by have h1 := RL1.out g h; rcases hs with hs | hs <;> first | (have h2 := RL2.out g hs; omega) | (have h2 := RL3.out g hs; omega)))
  have R2_4 := Lib.hid hr2
  have R3_4 := Lib.hid hr3
  clear hb f0_0_3 f0_1_3 g0_3 f1_0_3 f1_1_3 g1_3 R0_3 R1_3 R2_3 hr2 R3_3 hr3 H3
  go_wp2_with fail
  refine (heldMask_any  _ _ _ _ _ R2_4.out _ _ _ R3_4.out (by omega) (by omega)).mono ?_
  rintro e w5 ⟨rfl, hb⟩
  have zz5 : w4.heap.size ≤ w5.heap.size := (by have := hb.size; ((try simp at this) <;> omega))
  have H5 := Lib.hid (show Below w.heap.size w w5 by repeat (first | (with_reducible exact Below.refl _ _) | (with_reducible assumption) | ((with_reducible refine bl_alloc ?_ _ ?_); (focus ((first | omega | (simp <;> omega)); done))) | ((with_reducible refine bl_set ?_ _ ?_); (focus ((first | omega | (simp <;> omega)); done))) | (with_reducible refine below_drewN ?_ _) | (with_reducible refine Below.drew ?_) | ((with_reducible refine bl_trans ?_ hb ?_); (focus ((first | omega | (simp <;> omega)); done))) | ((with_reducible refine bl_trans ?_ H4.out ?_); (focus ((first | omega | (simp <;> omega)); done)))))
  have f0_0_5 := keeps hb f0_0_4
  have f0_1_5 := keeps hb f0_1_4
  have g0_5 : w1.heap.size < w5.heap.size := block_of_cell f0_0_5
  have f1_0_5 := keeps hb f1_0_4
  have f1_1_5 := keeps hb f1_1_4
  have g1_5 : w2.heap.size < w5.heap.size := block_of_cell f1_0_5
  have R0_5 := Lib.hid (Row.later R0_4.out hb)
  have R1_5 := Lib.hid (Row.later R1_4.out hb)
  have R2_5 := Lib.hid (Row.later R2_4.out hb)
  have R3_5 := Lib.hid (Row.later R3_4.out hb)
  clear hb f0_0_4 f0_1_4 g0_4 f1_0_4 f1_1_4 g1_4 R0_4 R1_4 R2_4 R3_4 H4
  go_wp2_with fail
  refine (impl_any _ (RdTab.below HTab.out (by repeat (first | (with_reducible exact Below.refl _ _) | (with_reducible assumption) | ((with_reducible refine bl_alloc ?_ _ ?_); (focus ((first | omega | (simp <;> omega)); done))) | ((with_reducible refine bl_set ?_ _ ?_); (focus ((first | omega | (simp <;> omega)); done))) | (with_reducible refine below_drewN ?_ _) | (with_reducible refine Below.drew ?_) | ((with_reducible refine bl_trans ?_ H5.out ?_); (focus ((first | omega | (simp <;> omega)); done)))))) s0 is0 (by omega)).mono ?_
  rintro e w6 ⟨A4, n4, c4, A5, n5, c5, rfl, hr4, hr5, ha4_5, hb⟩
  have zz6 : w5.heap.size ≤ w6.heap.size := (by have := hb.size; ((try simp at this) <;> omega))
  have H6 := Lib.hid (show Below w.heap.size w w6 by repeat (first | (with_reducible exact Below.refl _ _) | (with_reducible assumption) | ((with_reducible refine bl_alloc ?_ _ ?_); (focus ((first | omega | (simp <;> omega)); done))) | ((with_reducible refine bl_set ?_ _ ?_); (focus ((first | omega | (simp <;> omega)); done))) | (with_reducible refine below_drewN ?_ _) | (with_reducible refine Below.drew ?_) | ((with_reducible refine bl_trans ?_ hb ?_); (focus ((first | omega | (simp <;> omega)); done))) | ((with_reducible refine bl_trans ?_ H5.out ?_); (focus ((first | omega | (simp <;> omega)); done)))))
  have f0_0_6 := keeps hb f0_0_5
  have f0_1_6 := keeps hb f0_1_5
  have g0_6 : w1.heap.size < w6.heap.size := block_of_cell f0_0_6
  have f1_0_6 := keeps hb f1_0_5
  have f1_1_6 := keeps hb f1_1_5
  have g1_6 : w2.heap.size < w6.heap.size := block_of_cell f1_0_6
  have R0_6 := Lib.hid (Row.later R0_5.out hb)
  have R1_6 := Lib.hid (Row.later R1_5.out hb)
  have R2_6 := Lib.hid (Row.later R2_5.out hb)
  have R3_6 := Lib.hid (Row.later R3_5.out hb)
  have R4_6 := Lib.hid hr4
  have RL4 := Lib.hid (show ∀ g, Value.ownBlock (.slice A4 n4 c4) = some g → w5.heap.size ≤ g ∧ g < w6.heap.size from fun g h => by have l1 := hr4.lt g h; ((try simp at l1) <;> omega))
  have RA4_5 := Lib.hid ha4_5
  have R5_6 := Lib.hid hr5
  have RL5 := Lib.hid (show ∀ g, Value.ownBlock (.slice A5 n5 c5) = some g → w5.heap.size ≤ g ∧ g < w6.heap.size from fun g h => by have l1 := hr5.lt g h; ((try simp at l1) <;> omega))
  clear hb f0_0_5 f0_1_5 g0_5 f1_0_5 f1_1_5 g1_5 R0_5 R1_5 R2_5 R3_5 hr4 ha4_5 hr5 H5
  go_wp2_with fail
  refine (eqMask_any  _ _ _ ((rmX s0.data.toList)) _ _ (R4_6.out.alloc_ _) (R0_6.out.alloc_ _) _ _ ((rmY s0.data.toList)) _ _ (R5_6.out.alloc_ _) (R1_6.out.alloc_ _)).mono ?_
  rintro e w7 ⟨rfl, hb⟩
  have zz7 : w6.heap.size + 1 ≤ w7.heap.size := (by have := hb.size; ((try simp at this) <;> omega))
  have H7 := Lib.hid (show Below w.heap.size w w7 by repeat (first | (with_reducible exact Below.refl _ _) | (with_reducible assumption) | ((with_reducible refine bl_alloc ?_ _ ?_); (focus ((first | omega | (simp <;> omega)); done))) | ((with_reducible refine bl_set ?_ _ ?_); (focus ((first | omega | (simp <;> omega)); done))) | (with_reducible refine below_drewN ?_ _) | (with_reducible refine Below.drew ?_) | ((with_reducible refine bl_trans ?_ hb ?_); (focus ((first | omega | (simp <;> omega)); done))) | ((with_reducible refine bl_trans ?_ H6.out ?_); (focus ((first | omega | (simp <;> omega)); done)))))
  have f1_0_7 := keeps hb (cell_alloc f1_0_6 _)
  have f1_1_7 := keeps hb (cell_alloc f1_1_6 _)
  have g1_7 : w2.heap.size < w7.heap.size := block_of_cell f1_0_7
  have R2_7 := Lib.hid (Row.later (R2_6.out.alloc_ _) hb)
  have R3_7 := Lib.hid (Row.later (R3_6.out.alloc_ _) hb)
  clear hb f0_0_6 f0_1_6 g0_6 f1_0_6 f1_1_6 g1_6 R0_6 R1_6 R2_6 R3_6 R4_6 R5_6 H6
  go_wp2_with fail
  refine (heldMask_any  _ _ _ _ _ R2_7.out _ _ _ R3_7.out (by omega) (by omega)).mono ?_
  rintro e w8 ⟨rfl, hb⟩
  have zz8 : w7.heap.size ≤ w8.heap.size := (by have := hb.size; ((try simp at this) <;> omega))
  have H8 := Lib.hid (show Below w.heap.size w w8 by repeat (first | (with_reducible exact Below.refl _ _) | (with_reducible assumption) | ((with_reducible refine bl_alloc ?_ _ ?_); (focus ((first | omega | (simp <;> omega)); done))) | ((with_reducible refine bl_set ?_ _ ?_); (focus ((first | omega | (simp <;> omega)); done))) | (with_reducible refine below_drewN ?_ _) | (with_reducible refine Below.drew ?_) | ((with_reducible refine bl_trans ?_ hb ?_); (focus ((first | omega | (simp <;> omega)); done))) | ((with_reducible refine bl_trans ?_ H7.out ?_); (focus ((first | omega | (simp <;> omega)); done)))))
  clear hb f1_0_7 f1_1_7 g1_7 R2_7 R3_7 H7
  go_wp2_with fail
  go_ret
  exact ⟨rfl, (by repeat (first | (with_reducible exact Below.refl _ _) | (with_reducible assumption) | ((with_reducible refine bl_alloc ?_ _ ?_); (focus ((first | omega | (simp <;> omega)); done))) | ((with_reducible refine bl_set ?_ _ ?_); (focus ((first | omega | (simp <;> omega)); done))) | (with_reducible refine below_drewN ?_ _) | (with_reducible refine Below.drew ?_) | ((with_reducible refine bl_trans ?_ H8.out ?_); (focus ((first | omega | (simp <;> omega)); done)))))⟩
end Go.Proofs.YtampjgfddakdoaaDoor.fnExactReadMask
