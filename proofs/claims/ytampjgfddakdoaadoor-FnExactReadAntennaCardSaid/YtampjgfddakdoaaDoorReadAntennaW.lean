/-
  The walk of FnExactReadAntenna: it returns true, and of what was there nothing has turned. The conditions are what its arguments' readings give.
-/
import Derived.Test.YtampjgfddakdoaaDoorRows
import Derived.Test.YtampjgfddakdoaaDoorLib
import Derived.Test.YtampjgfddakdoaaDoorShelf
import Derived.Test.YtampjgfddakdoaaDoorDec
import Derived.Test.YtampjgfddakdoaaDoorPow
import Derived.Test.YtampjgfddakdoaaDoorRdW
import Derived.Test.YtampjgfddakdoaaDoorInts
import Derived.Test.YtampjgfddakdoaaDoorIntsB
import Derived.Test.YtampjgfddakdoaaDoorOwn
import Derived.Test.YtampjgfddakdoaaDoorField
import Derived.Test.YtampjgfddakdoaaDoorNames
import Derived.Test.YtampjgfddakdoaaDoorAll
import Derived.Test.YtampjgfddakdoaaDoorPattern
import Derived.Test.YtampjgfddakdoaaDoorAntenna
import Derived.Test.YtampjgfddakdoaaDoorMk
import Derived.Test.YtampjgfddakdoaaDoorNumP
import Derived.Test.YtampjgfddakdoaaDoorNumS
import Derived.Test.YtampjgfddakdoaaDoorSplP
import Derived.Test.YtampjgfddakdoaaDoorSplS
import Derived.Test.YtampjgfddakdoaaDoorRdP
import Derived.Test.YtampjgfddakdoaaDoorRdS
import Derived.Test.YtampjgfddakdoaaDoorRdW
import Derived.Test.YtampjgfddakdoaaDoorRdD
import Derived.Test.YtampjgfddakdoaaDoorRdI
import Derived.Test.YtampjgfddakdoaaDoorRdC
import Derived.Test.YtampjgfddakdoaaDoorAntT
import Derived.Outline
import Derived.Deep.RegionHeld3
import Derived.Deep.DrawnRows
import Derived.Deep.DeepCutAuto
namespace Go.Proofs.YtampjgfddakdoaaDoor.fnExactReadAntenna
open Go.RowKit Go.ChangeShapes Go.WideShapes Go.ChangeAt
set_option linter.unusedVariables false
set_option linter.unusedSimpArgs false

attribute [local go_sem ↓] Go.wp_at_zero Go.wp_at_succ
open ofAntennaText
def raP (k : Nat) (L : List UInt8) : List UInt8 := (splitL 32 L).getD k []
def raS (L : List UInt8) : ByteArray := ⟨(raP 0 L).toArray⟩
def raB (L : List UInt8) : Bool := antB (raS L) (numV (raP 1 L)) (lstV (raP 2 L)) (lstV (raP 3 L))
def raOk (L : List UInt8) : Bool := decide ((splitL 32 L).length = 4) && numB (raP 1 L) && lstB (raP 2 L) && lstB (raP 3 L) && raB L
def raN (L : List UInt8) : ByteArray := if raOk L = true then raS L else ⟨#[]⟩
def raG (L : List UInt8) : Int := if raOk L = true then numV (raP 1 L) else 0
def raH (L : List UInt8) : List Int := if raOk L = true then lstV (raP 2 L) else []
def raV (L : List UInt8) : List Int := if raOk L = true then lstV (raP 3 L) else []
theorem ra_no {L : List UInt8} (h : raOk L = false) : raN L = ⟨#[]⟩ ∧ raG L = 0 ∧ raH L = [] ∧ raV L = [] ∧ raOk L = false := by
  have h2 : ¬ raOk L = true := by rw [h]; simp
  exact ⟨if_neg h2, if_neg h2, if_neg h2, if_neg h2, h⟩
theorem ra_yes {L : List UInt8} (h : raOk L = true) : raN L = raS L ∧ raG L = numV (raP 1 L) ∧ raH L = lstV (raP 2 L) ∧ raV L = lstV (raP 3 L) ∧ raOk L = true := ⟨if_pos h, if_pos h, if_pos h, if_pos h, h⟩
theorem ra_len (L : List UInt8) : (raH L).length ≤ 64 ∧ (raV L).length ≤ 64 := by
  unfold raH raV
  constructor
  · split
    · exact lstV_len _
    · simp
  · split
    · exact lstV_len _
    · simp
theorem ra_len4 {L : List UInt8} (h : ¬ (splitL 32 L).length = 4) : raOk L = false := by simp [raOk, h]
theorem ra_spec {L : List UInt8} (h : (splitL 32 L).length = 4) : raOk L = (numB (raP 1 L) && lstB (raP 2 L) && lstB (raP 3 L) && raB L) := by simp [raOk, h]
theorem ra_join {L : List UInt8} (h : (splitL 32 L).length = 4) : L = raP 0 L ++ [32] ++ raP 1 L ++ [32] ++ raP 2 L ++ [32] ++ raP 3 L := by
  have hj := join_split 32 L
  unfold raP
  generalize splitL 32 L = ps at h hj
  match ps, h with
  | [a, b, c, d], _ =>
    rw [← hj]
    simp [Lib.join_cons, Lib.joinTail]
theorem ra_text {L : List UInt8} (h : (splitL 32 L).length = 4) (h1 : numB (raP 1 L) = true) (h2 : lstB (raP 2 L) = true) (h3 : lstB (raP 3 L) = true) (hb : raB L = true) : antT (raS L) (numV (raP 1 L)) (lstV (raP 2 L)) (lstV (raP 3 L)) = L := by
  rw [antT_yes hb, numB_form h1, lstB_form h2, lstB_form h3]
  have e : (raS L).data.toList = raP 0 L := by simp [raS]
  rw [e]
  exact (ra_join h).symm
theorem ra_ne {L : List UInt8} (h : (splitL 32 L).length = 4) : L ≠ [] := by
  intro q
  rw [q] at h
  revert h
  decide
set_option maxRecDepth 20000 in
set_option maxHeartbeats 8000000 in
theorem spec_any (w : World) (s : ByteArray) (is : s.size ≤ maxLen) (hs : s.size ≤ 1048576) :
    Calls Tryd.prog 16 #[.string s] w fun e w' => ∃ A0 n0 c0 A1 n1 c1, e = .returned (.tuple #[.agg #[.string (raN s.data.toList), .int .i64 (raG s.data.toList), .slice A0 n0 c0, .slice A1 n1 c1], .bool (raOk s.data.toList)]) ∧ Row 2 w' w.heap.size (.slice A0 n0 c0) (raH s.data.toList) ∧ Row 2 w' w.heap.size (.slice A1 n1 c1) (raV s.data.toList) ∧ Apart (.slice A0 n0 c0) (.slice A1 n1 c1) ∧ Below w.heap.size w w' := by
  have HSP := Lib.hid (fun (W : World) (hW : Below w.heap.size w W) => l01Split_any W s hs 32 32 (by rfl))
  have HRL := Lib.hid (fun (W : World) (hW : Below w.heap.size w W) (p : List UInt8) (h : p.length ≤ 1048576) => specReadList_any W ⟨p.toArray⟩ (by rw [psize]; exact h))
  have HRN := Lib.hid (fun (W : World) (hW : Below w.heap.size w W) (p : List UInt8) (h : p.length ≤ 1048576) => (l01Number_any W ⟨p.toArray⟩ (by rw [psize]; omega)).mono (fun e w' q => (⟨q.1, by rw [q.2]; exact Below.refl _ _⟩ : _ ∧ Below W.heap.size W w')))
  simp only [numV_size] at HRL HRN
  have HPL := Lib.hid (fun p (h : p ∈ splitL 32 s.data.toList) => split_part p h)
  have HSL := Lib.hid (size_len s)
  obtain ⟨L, hL⟩ : ∃ L, L = s.data.toList := ⟨_, rfl⟩
  rw [← hL] at HSP HPL HSL ⊢
  clear hL is
  have SR0 := Lib.hid (SInv.fresh w #[.string ⟨#[]⟩, .int .i64 0, .slice none 0 0, .slice none 0 0] 38)
  go_enter Tryd.func16, Tryd.ntmps16
  go_wp2_with fail
  refine (HSP.out _ (by repeat (first | (with_reducible exact Below.refl _ _) | (with_reducible assumption) | ((with_reducible refine bl_alloc ?_ _ ?_); (focus ((first | omega | (simp <;> omega)); done))) | ((with_reducible refine bl_set ?_ _ ?_); (focus ((first | omega | (simp <;> omega)); done))) | (with_reducible refine below_drewN ?_ _) | (with_reducible refine Below.drew ?_)))).mono ?_
  rintro e w1 ⟨g, cap, rfl, gB, gl, hcc, hb⟩
  have H1 := Lib.hid (show Below w.heap.size w w1 by repeat (first | (with_reducible exact Below.refl _ _) | (with_reducible assumption) | ((with_reducible refine bl_alloc ?_ _ ?_); (focus ((first | omega | (simp <;> omega)); done))) | ((with_reducible refine bl_set ?_ _ ?_); (focus ((first | omega | (simp <;> omega)); done))) | (with_reducible refine below_drewN ?_ _) | (with_reducible refine Below.drew ?_) | ((with_reducible refine bl_trans ?_ hb ?_); (focus ((first | omega | (simp <;> omega)); done)))))
  have SR1 := Lib.hid (SR0.out.later hb)
  have HCC := Lib.hid hcc
  have z1 := hb.size
  simp at z1
  clear hcc hb HSP SR0
  have n0 := SR1.out.cell 0 _ rfl
  have n1 := SR1.out.cell 1 _ rfl
  have n2 := SR1.out.cell 2 _ rfl
  have n3 := SR1.out.cell 3 _ rfl
  have nf := SR1.out.free
  by_cases h4 : (splitL 32 L).length = 4
  rotate_left
  · have HN := Lib.hid (ra_no (ra_len4 h4))
    obtain ⟨N, hN⟩ : ∃ N, N = (splitL 32 L).length := ⟨_, rfl⟩
    rw [← hN] at h4 ⊢
    clear hN HCC HPL
    have q1 : ((N : Int) == 4) = false := by rw [beq_eq_false_iff_ne]; omega
    have q2 : ((N : Int) != 4) = true := by rw [bne_iff_ne]; omega
    have q3 : ¬ (N : Int) = 4 := by omega
    go_wp2_with fail
    refine bodyPost_ret (v := .tuple #[.agg #[.string ⟨#[]⟩, .int .i64 0, .slice none 0 0, .slice none 0 0], .bool false]) (by simp [results, Tryd.results16, go_sem, *]) rfl ?_
    rw [HN.out.1, HN.out.2.1, HN.out.2.2.1, HN.out.2.2.2.1, HN.out.2.2.2.2]
    exact ⟨_, _, _, _, _, _, rfl, Row.nil_, Row.nil_, (fun g h _ => by simp [Value.ownBlock] at h), by repeat (first | (with_reducible exact Below.refl _ _) | (with_reducible assumption) | ((with_reducible refine bl_alloc ?_ _ ?_); (focus ((first | omega | (simp <;> omega)); done))) | ((with_reducible refine bl_set ?_ _ ?_); (focus ((first | omega | (simp <;> omega)); done))) | (with_reducible refine below_drewN ?_ _) | (with_reducible refine Below.drew ?_) | ((with_reducible refine bl_trans ?_ H1.out ?_); (focus ((first | omega | (simp <;> omega)); done))))⟩
  have HNO := Lib.hid (fun h => ra_no (L := L) h)
  have HYES := Lib.hid (fun h => ra_yes (L := L) h)
  have HSPEC := Lib.hid (ra_spec h4)
  have p0 := part_mem (ps := splitL 32 L) (k := 0) (by omega)
  have p1 := part_mem (ps := splitL 32 L) (k := 1) (by omega)
  have p2 := part_mem (ps := splitL 32 L) (k := 2) (by omega)
  have p3 := part_mem (ps := splitL 32 L) (k := 3) (by omega)
  have c0 := HCC.out 0 _ p0.2
  have c1 := HCC.out 1 _ p1.2
  have c2 := HCC.out 2 _ p2.2
  have c3 := HCC.out 3 _ p3.2
  have l0 := HPL.out _ p0.1
  have l1 := HPL.out _ p1.1
  have l2 := HPL.out _ p2.1
  have l3 := HPL.out _ p3.1
  rw [h4]
  change w1.cell? _ = some (encL (raP 0 L)) at c0
  change (raP 0 L).length ≤ _ at l0
  change w1.cell? _ = some (encL (raP 1 L)) at c1
  change (raP 1 L).length ≤ _ at l1
  change w1.cell? _ = some (encL (raP 2 L)) at c2
  change (raP 2 L).length ≤ _ at l2
  change w1.cell? _ = some (encL (raP 3 L)) at c3
  change (raP 3 L).length ≤ _ at l3
  clear p0 p1 p2 p3 h4 HCC HPL
  have HBD : Hid (raB L = antB (raS L) (numV (raP 1 L)) (lstV (raP 2 L)) (lstV (raP 3 L))) := rfl
  have hsS : (raS L).size ≤ maxLen := by unfold raS maxLen; rw [psize]; have := HSL.out; omega
  have HSS := Lib.hid hsS
  clear hsS
  have ce0 : w1.cell? ⟨g, 0, none⟩ = some (.string (raS L)) := c0
  clear c0 l0
  have HNU := Lib.hid (fun W hW => HRN.out W hW (raP 1 L) (by have := HSL.out; omega))
  have HA := Lib.hid (fun W hW => HRL.out W hW (raP 2 L) (by have := HSL.out; omega))
  have HB := Lib.hid (fun W hW => HRL.out W hW (raP 3 L) (by have := HSL.out; omega))
  have IG := Lib.hid (numV_in (raP 1 L))
  have IA := Lib.hid (lstV_in (raP 2 L))
  have IB := Lib.hid (lstV_in (raP 3 L))
  obtain ⟨e1, he1⟩ : ∃ z : ByteArray, z = ⟨(raP 1 L).toArray⟩ := ⟨_, rfl⟩
  rw [← he1] at HNU
  rw [show encL (raP 1 L) = .string e1 by rw [he1]; rfl] at c1
  clear he1 l1
  obtain ⟨e2, he2⟩ : ∃ z : ByteArray, z = ⟨(raP 2 L).toArray⟩ := ⟨_, rfl⟩
  rw [← he2] at HA
  rw [show encL (raP 2 L) = .string e2 by rw [he2]; rfl] at c2
  clear he2 l2
  obtain ⟨e3, he3⟩ : ∃ z : ByteArray, z = ⟨(raP 3 L).toArray⟩ := ⟨_, rfl⟩
  rw [← he3] at HB
  rw [show encL (raP 3 L) = .string e3 by rw [he3]; rfl] at c3
  clear he3 l3
  obtain ⟨es, hes⟩ : ∃ z, z = raS L := ⟨_, rfl⟩
  obtain ⟨gg, hgg⟩ : ∃ z, z = numV (raP 1 L) := ⟨_, rfl⟩
  obtain ⟨xa, hxa⟩ : ∃ z, z = lstV (raP 2 L) := ⟨_, rfl⟩
  obtain ⟨xb, hxb⟩ : ∃ z, z = lstV (raP 3 L) := ⟨_, rfl⟩
  obtain ⟨o1, ho1⟩ : ∃ o, o = numB (raP 1 L) := ⟨_, rfl⟩
  obtain ⟨o2, ho2⟩ : ∃ o, o = lstB (raP 2 L) := ⟨_, rfl⟩
  obtain ⟨o3, ho3⟩ : ∃ o, o = lstB (raP 3 L) := ⟨_, rfl⟩
  rw [← hes] at HYES HBD HSS ce0
  rw [← hgg] at HYES HBD HNU IG
  rw [← hxa] at HYES HBD HA IA
  rw [← hxb] at HYES HBD HB IB
  rw [← ho1] at HSPEC HNU
  rw [← ho2] at HSPEC HA
  rw [← ho3] at HSPEC HB
  clear hes hgg hxa hxb ho1 ho2 ho3 HRL HRN
  clear n0 n1 n2 n3 nf
  go_wp2_with fail
  refine (HNU.out _ H1.out).mono ?_
  rintro e w2 ⟨rfl, hb⟩
  have H2 := Lib.hid (show Below w.heap.size w w2 from H1.out.trans (hb.mono H1.out.size))
  have SR2 := Lib.hid (SR1.out.later hb)
  have z2 := hb.size
  have d2 := keeps hb c2
  have d3 := keeps hb c3
  have d0 := keeps hb ce0
  clear hb SR1 c1 c2 c3 ce0 HNU
  go_wp2_with fail
  refine (HA.out _ H2.out).mono ?_
  rintro e w3 ⟨A3, m3, q3, rfl, hr3, hb⟩
  have H3 := Lib.hid (show Below w.heap.size w w3 from H2.out.trans (hb.mono H2.out.size))
  have SR3 := Lib.hid (SR2.out.later hb)
  have z3 := hb.size
  have R3 := Lib.hid hr3
  have f3 := keeps hb d3
  have f0 := keeps hb d0
  clear hb hr3 SR2 d0 d2 d3 HA
  go_wp2_with fail
  refine (HB.out _ H3.out).mono ?_
  rintro e w4 ⟨A4, m4, q4, rfl, hr4, hb⟩
  have H4 := Lib.hid (show Below w.heap.size w w4 from H3.out.trans (hb.mono H3.out.size))
  have SR4 := Lib.hid (SR3.out.later hb)
  have z4 := hb.size
  have R4 := Lib.hid hr4
  have h0 := keeps hb f0
  have R3b := Lib.hid (R3.out.later hb)
  clear hb hr4 SR3 f0 f3 HB
  have HAp : Hid (Apart (.slice A3 m3 q3) (.slice A4 m4 q4)) := fun x h1 h2 => by have h3 := (R3.out.lt x h1).2; have h4 := (R4.out.lt x h2).1; omega
  have SR5 := Lib.hid (SR4.out.alloc_ (.cells #[.string es, .int .i64 gg, .slice A3 m3 q3, .slice A4 m4 q4] 38))
  have n0 := SR4.out.cell 0 _ rfl
  have n1 := SR4.out.cell 1 _ rfl
  have n2 := SR4.out.cell 2 _ rfl
  have n3 := SR4.out.cell 3 _ rfl
  have nf := SR4.out.free
  have nl := SR4.out.lt
  cases o1 with
  | false =>
    have HN := Lib.hid (HNO.out (by rw [HSPEC.out]; rfl))
    clear HNO HYES HSPEC HBD
    go_wp2_with fail
    refine bodyPost_ret (v := .tuple #[.agg #[.string ⟨#[]⟩, .int .i64 0, .slice none 0 0, .slice none 0 0], .bool false]) (by simp [results, Tryd.results16, go_sem, *]) rfl ?_
    rw [HN.out.1, HN.out.2.1, HN.out.2.2.1, HN.out.2.2.2.1, HN.out.2.2.2.2]
    exact ⟨_, _, _, _, _, _, rfl, Row.nil_, Row.nil_, (fun g h _ => by simp [Value.ownBlock] at h), by repeat (first | (with_reducible exact Below.refl _ _) | (with_reducible assumption) | ((with_reducible refine bl_alloc ?_ _ ?_); (focus ((first | omega | (simp <;> omega)); done))) | ((with_reducible refine bl_set ?_ _ ?_); (focus ((first | omega | (simp <;> omega)); done))) | (with_reducible refine below_drewN ?_ _) | (with_reducible refine Below.drew ?_) | ((with_reducible refine bl_trans ?_ H4.out ?_); (focus ((first | omega | (simp <;> omega)); done))))⟩
  | true =>
    cases o2 with
    | false =>
      have HN := Lib.hid (HNO.out (by rw [HSPEC.out]; rfl))
      clear HNO HYES HSPEC HBD
      go_wp2_with fail
      refine bodyPost_ret (v := .tuple #[.agg #[.string ⟨#[]⟩, .int .i64 0, .slice none 0 0, .slice none 0 0], .bool false]) (by simp [results, Tryd.results16, go_sem, *]) rfl ?_
      rw [HN.out.1, HN.out.2.1, HN.out.2.2.1, HN.out.2.2.2.1, HN.out.2.2.2.2]
      exact ⟨_, _, _, _, _, _, rfl, Row.nil_, Row.nil_, (fun g h _ => by simp [Value.ownBlock] at h), by repeat (first | (with_reducible exact Below.refl _ _) | (with_reducible assumption) | ((with_reducible refine bl_alloc ?_ _ ?_); (focus ((first | omega | (simp <;> omega)); done))) | ((with_reducible refine bl_set ?_ _ ?_); (focus ((first | omega | (simp <;> omega)); done))) | (with_reducible refine below_drewN ?_ _) | (with_reducible refine Below.drew ?_) | ((with_reducible refine bl_trans ?_ H4.out ?_); (focus ((first | omega | (simp <;> omega)); done))))⟩
    | true =>
      cases o3 with
      | false =>
        have HN := Lib.hid (HNO.out (by rw [HSPEC.out]; rfl))
        clear HNO HYES HSPEC HBD
        go_wp2_with fail
        refine bodyPost_ret (v := .tuple #[.agg #[.string ⟨#[]⟩, .int .i64 0, .slice none 0 0, .slice none 0 0], .bool false]) (by simp [results, Tryd.results16, go_sem, *]) rfl ?_
        rw [HN.out.1, HN.out.2.1, HN.out.2.2.1, HN.out.2.2.2.1, HN.out.2.2.2.2]
        exact ⟨_, _, _, _, _, _, rfl, Row.nil_, Row.nil_, (fun g h _ => by simp [Value.ownBlock] at h), by repeat (first | (with_reducible exact Below.refl _ _) | (with_reducible assumption) | ((with_reducible refine bl_alloc ?_ _ ?_); (focus ((first | omega | (simp <;> omega)); done))) | ((with_reducible refine bl_set ?_ _ ?_); (focus ((first | omega | (simp <;> omega)); done))) | (with_reducible refine below_drewN ?_ _) | (with_reducible refine Below.drew ?_) | ((with_reducible refine bl_trans ?_ H4.out ?_); (focus ((first | omega | (simp <;> omega)); done))))⟩
      | true =>
        have HOK := Lib.hid (l06Ok_any (w4.alloc (.cells #[.string es, .int .i64 gg, .slice A3 m3 q3, .slice A4 m4 q4] 38)) w4.heap.size es HSS.out gg _ xa _ (R3b.out.alloc_ _) _ xb _ (R4.out.alloc_ _) (by simp [go_sem]) (by simp [go_sem]) (by simp [go_sem]) (by simp [go_sem]))
        obtain ⟨M, hM⟩ : ∃ M, M = raB L := ⟨_, rfl⟩
        rw [← hM] at HBD HSPEC
        rw [← HBD.out] at HOK
        clear hM HBD n0 n1 n2 n3 nf
        have n0 := SR5.out.cell 0 _ rfl
        have n1 := SR5.out.cell 1 _ rfl
        have n2 := SR5.out.cell 2 _ rfl
        have n3 := SR5.out.cell 3 _ rfl
        have nf := SR5.out.free
        go_wp2_with fail
        refine HOK.out.mono ?_
        rintro e w5 ⟨rfl, kd, rfl⟩
        clear HOK
        cases M with
        | false =>
          have HN := Lib.hid (HNO.out (by rw [HSPEC.out]; rfl))
          clear HNO HYES HSPEC
          go_wp2_with fail
          refine bodyPost_ret (v := .tuple #[.agg #[.string ⟨#[]⟩, .int .i64 0, .slice none 0 0, .slice none 0 0], .bool false]) (by simp [results, Tryd.results16, go_sem, *]) rfl ?_
          rw [HN.out.1, HN.out.2.1, HN.out.2.2.1, HN.out.2.2.2.1, HN.out.2.2.2.2]
          exact ⟨_, _, _, _, _, _, rfl, Row.nil_, Row.nil_, (fun g h _ => by simp [Value.ownBlock] at h), by repeat (first | (with_reducible exact Below.refl _ _) | (with_reducible assumption) | ((with_reducible refine bl_alloc ?_ _ ?_); (focus ((first | omega | (simp <;> omega)); done))) | ((with_reducible refine bl_set ?_ _ ?_); (focus ((first | omega | (simp <;> omega)); done))) | (with_reducible refine below_drewN ?_ _) | (with_reducible refine Below.drew ?_) | ((with_reducible refine bl_trans ?_ H4.out ?_); (focus ((first | omega | (simp <;> omega)); done))))⟩
        | true =>
          have HN := Lib.hid (HYES.out (by rw [HSPEC.out]; rfl))
          clear HNO HYES HSPEC
          go_wp2_with fail
          refine bodyPost_ret (v := .tuple #[.agg #[.string es, .int .i64 gg, .slice A3 m3 q3, .slice A4 m4 q4], .bool true]) (by simp [results, Tryd.results16, go_sem, *]) rfl ?_
          rw [HN.out.1, HN.out.2.1, HN.out.2.2.1, HN.out.2.2.2.1, HN.out.2.2.2.2]
          refine ⟨_, _, _, _, _, _, rfl, ?_, ?_, HAp.out, by repeat (first | (with_reducible exact Below.refl _ _) | (with_reducible assumption) | ((with_reducible refine bl_alloc ?_ _ ?_); (focus ((first | omega | (simp <;> omega)); done))) | ((with_reducible refine bl_set ?_ _ ?_); (focus ((first | omega | (simp <;> omega)); done))) | (with_reducible refine below_drewN ?_ _) | (with_reducible refine Below.drew ?_) | ((with_reducible refine bl_trans ?_ H4.out ?_); (focus ((first | omega | (simp <;> omega)); done))))⟩
          · refine Row.base_le (base := w2.heap.size) ?_ (by omega)
            repeat (first | (with_reducible exact R3b.out) | (with_reducible refine Row.alloc_ ?_ _) | (with_reducible refine Row.drewN ?_ _) | ((with_reducible refine Row.low ?_ _ ?_); (focus ((first | omega | (simp <;> omega)); done))))
          · refine Row.base_le (base := w3.heap.size) ?_ (by omega)
            repeat (first | (with_reducible exact R4.out) | (with_reducible refine Row.alloc_ ?_ _) | (with_reducible refine Row.drewN ?_ _) | ((with_reducible refine Row.low ?_ _ ?_); (focus ((first | omega | (simp <;> omega)); done))))
set_option maxRecDepth 20000 in
set_option maxHeartbeats 8000000 in
theorem impl_any (w : World) (hT : RdTab w) (s : ByteArray) (is : s.size ≤ maxLen) (hs : s.size ≤ 1048576) :
    Calls Tryd.prog 17 #[.string s] w fun e w' => ∃ A0 n0 c0 A1 n1 c1, e = .returned (.tuple #[.agg #[.string (raN s.data.toList), .int .i64 (raG s.data.toList), .slice A0 n0 c0, .slice A1 n1 c1], .bool (raOk s.data.toList)]) ∧ Row 2 w' w.heap.size (.slice A0 n0 c0) (raH s.data.toList) ∧ Row 2 w' w.heap.size (.slice A1 n1 c1) (raV s.data.toList) ∧ Apart (.slice A0 n0 c0) (.slice A1 n1 c1) ∧ Below w.heap.size w w' := by
  have HT := Lib.hid hT
  clear hT
  have HSP := Lib.hid (fun (W : World) (hW : Below w.heap.size w W) => split_any W (HT.out.below hW) s hs 32)
  have HRL := Lib.hid (fun (W : World) (hW : Below w.heap.size w W) (p : List UInt8) (h : p.length ≤ 1048576) => implReadList_any W (HT.out.below hW) ⟨p.toArray⟩ (by rw [psize]; exact h))
  have HRN := Lib.hid (fun (W : World) (hW : Below w.heap.size w W) (p : List UInt8) (h : p.length ≤ 1048576) => ReadDecimal_any W (HT.out.below hW) ⟨p.toArray⟩ (by rw [psize]; exact h))
  have HETA := Lib.hid (bytes_eta s)
  simp only [numV_size] at HRL HRN
  have HPL := Lib.hid (fun p (h : p ∈ splitL 32 s.data.toList) => split_part p h)
  have HSL := Lib.hid (size_len s)
  obtain ⟨L, hL⟩ : ∃ L, L = s.data.toList := ⟨_, rfl⟩
  rw [← hL] at HSP HPL HSL HETA ⊢
  clear hL is
  have SR0 := Lib.hid (SInv.fresh w #[.string ⟨#[]⟩, .int .i64 0, .slice none 0 0, .slice none 0 0] 38)
  go_enter Tryd.func17, Tryd.ntmps17
  go_wp2_with fail
  refine (HSP.out _ (by repeat (first | (with_reducible exact Below.refl _ _) | (with_reducible assumption) | ((with_reducible refine bl_alloc ?_ _ ?_); (focus ((first | omega | (simp <;> omega)); done))) | ((with_reducible refine bl_set ?_ _ ?_); (focus ((first | omega | (simp <;> omega)); done))) | (with_reducible refine below_drewN ?_ _) | (with_reducible refine Below.drew ?_)))).mono ?_
  rintro e w1 ⟨g, cap, rfl, gB, gl, hcc, hb⟩
  have H1 := Lib.hid (show Below w.heap.size w w1 by repeat (first | (with_reducible exact Below.refl _ _) | (with_reducible assumption) | ((with_reducible refine bl_alloc ?_ _ ?_); (focus ((first | omega | (simp <;> omega)); done))) | ((with_reducible refine bl_set ?_ _ ?_); (focus ((first | omega | (simp <;> omega)); done))) | (with_reducible refine below_drewN ?_ _) | (with_reducible refine Below.drew ?_) | ((with_reducible refine bl_trans ?_ hb ?_); (focus ((first | omega | (simp <;> omega)); done)))))
  have SR1 := Lib.hid (SR0.out.later hb)
  have HCC := Lib.hid hcc
  have z1 := hb.size
  simp at z1
  clear hcc hb HSP SR0
  have n0 := SR1.out.cell 0 _ rfl
  have n1 := SR1.out.cell 1 _ rfl
  have n2 := SR1.out.cell 2 _ rfl
  have n3 := SR1.out.cell 3 _ rfl
  have nf := SR1.out.free
  by_cases h4 : (splitL 32 L).length = 4
  rotate_left
  · have HN := Lib.hid (ra_no (ra_len4 h4))
    obtain ⟨N, hN⟩ : ∃ N, N = (splitL 32 L).length := ⟨_, rfl⟩
    rw [← hN] at h4 ⊢
    clear hN HCC HPL
    have q1 : ((N : Int) == 4) = false := by rw [beq_eq_false_iff_ne]; omega
    have q2 : ((N : Int) != 4) = true := by rw [bne_iff_ne]; omega
    have q3 : ¬ (N : Int) = 4 := by omega
    go_wp2_with fail
    refine bodyPost_ret (v := .tuple #[.agg #[.string ⟨#[]⟩, .int .i64 0, .slice none 0 0, .slice none 0 0], .bool false]) (by simp [results, Tryd.results17, go_sem, *]) rfl ?_
    rw [HN.out.1, HN.out.2.1, HN.out.2.2.1, HN.out.2.2.2.1, HN.out.2.2.2.2]
    exact ⟨_, _, _, _, _, _, rfl, Row.nil_, Row.nil_, (fun g h _ => by simp [Value.ownBlock] at h), by repeat (first | (with_reducible exact Below.refl _ _) | (with_reducible assumption) | ((with_reducible refine bl_alloc ?_ _ ?_); (focus ((first | omega | (simp <;> omega)); done))) | ((with_reducible refine bl_set ?_ _ ?_); (focus ((first | omega | (simp <;> omega)); done))) | (with_reducible refine below_drewN ?_ _) | (with_reducible refine Below.drew ?_) | ((with_reducible refine bl_trans ?_ H1.out ?_); (focus ((first | omega | (simp <;> omega)); done))))⟩
  have HNO := Lib.hid (fun h => ra_no (L := L) h)
  have HYES := Lib.hid (fun h => ra_yes (L := L) h)
  have HSPEC := Lib.hid (ra_spec h4)
  have HTX := Lib.hid (fun h1 h2 h3 h5 => ra_text (L := L) h4 h1 h2 h3 h5)
  have HNE := Lib.hid (ra_ne h4)
  have p0 := part_mem (ps := splitL 32 L) (k := 0) (by omega)
  have p1 := part_mem (ps := splitL 32 L) (k := 1) (by omega)
  have p2 := part_mem (ps := splitL 32 L) (k := 2) (by omega)
  have p3 := part_mem (ps := splitL 32 L) (k := 3) (by omega)
  have c0 := HCC.out 0 _ p0.2
  have c1 := HCC.out 1 _ p1.2
  have c2 := HCC.out 2 _ p2.2
  have c3 := HCC.out 3 _ p3.2
  have l0 := HPL.out _ p0.1
  have l1 := HPL.out _ p1.1
  have l2 := HPL.out _ p2.1
  have l3 := HPL.out _ p3.1
  rw [h4]
  change w1.cell? _ = some (encL (raP 0 L)) at c0
  change (raP 0 L).length ≤ _ at l0
  change w1.cell? _ = some (encL (raP 1 L)) at c1
  change (raP 1 L).length ≤ _ at l1
  change w1.cell? _ = some (encL (raP 2 L)) at c2
  change (raP 2 L).length ≤ _ at l2
  change w1.cell? _ = some (encL (raP 3 L)) at c3
  change (raP 3 L).length ≤ _ at l3
  clear p0 p1 p2 p3 h4 HCC HPL
  have HBD : Hid (raB L = antB (raS L) (numV (raP 1 L)) (lstV (raP 2 L)) (lstV (raP 3 L))) := rfl
  have hsS : (raS L).size ≤ maxLen := by unfold raS maxLen; rw [psize]; have := HSL.out; omega
  have HSS := Lib.hid hsS
  clear hsS
  have ce0 : w1.cell? ⟨g, 0, none⟩ = some (.string (raS L)) := c0
  clear c0 l0
  have HNU := Lib.hid (fun W hW => HRN.out W hW (raP 1 L) (by have := HSL.out; omega))
  have HA := Lib.hid (fun W hW => HRL.out W hW (raP 2 L) (by have := HSL.out; omega))
  have HB := Lib.hid (fun W hW => HRL.out W hW (raP 3 L) (by have := HSL.out; omega))
  have IG := Lib.hid (numV_in (raP 1 L))
  have IA := Lib.hid (lstV_in (raP 2 L))
  have IB := Lib.hid (lstV_in (raP 3 L))
  obtain ⟨e1, he1⟩ : ∃ z : ByteArray, z = ⟨(raP 1 L).toArray⟩ := ⟨_, rfl⟩
  rw [← he1] at HNU
  rw [show encL (raP 1 L) = .string e1 by rw [he1]; rfl] at c1
  clear he1 l1
  obtain ⟨e2, he2⟩ : ∃ z : ByteArray, z = ⟨(raP 2 L).toArray⟩ := ⟨_, rfl⟩
  rw [← he2] at HA
  rw [show encL (raP 2 L) = .string e2 by rw [he2]; rfl] at c2
  clear he2 l2
  obtain ⟨e3, he3⟩ : ∃ z : ByteArray, z = ⟨(raP 3 L).toArray⟩ := ⟨_, rfl⟩
  rw [← he3] at HB
  rw [show encL (raP 3 L) = .string e3 by rw [he3]; rfl] at c3
  clear he3 l3
  obtain ⟨es, hes⟩ : ∃ z, z = raS L := ⟨_, rfl⟩
  obtain ⟨gg, hgg⟩ : ∃ z, z = numV (raP 1 L) := ⟨_, rfl⟩
  obtain ⟨xa, hxa⟩ : ∃ z, z = lstV (raP 2 L) := ⟨_, rfl⟩
  obtain ⟨xb, hxb⟩ : ∃ z, z = lstV (raP 3 L) := ⟨_, rfl⟩
  obtain ⟨o1, ho1⟩ : ∃ o, o = numB (raP 1 L) := ⟨_, rfl⟩
  obtain ⟨o2, ho2⟩ : ∃ o, o = lstB (raP 2 L) := ⟨_, rfl⟩
  obtain ⟨o3, ho3⟩ : ∃ o, o = lstB (raP 3 L) := ⟨_, rfl⟩
  rw [← hes] at HYES HBD HSS ce0 HTX
  rw [← hgg] at HYES HBD HNU IG HTX
  rw [← hxa] at HYES HBD HA IA HTX
  rw [← hxb] at HYES HBD HB IB HTX
  rw [← ho1] at HSPEC HNU HTX
  rw [← ho2] at HSPEC HA HTX
  rw [← ho3] at HSPEC HB HTX
  clear hes hgg hxa hxb ho1 ho2 ho3 HRL HRN
  clear n0 n1 n2 n3 nf
  go_wp2_with fail
  refine (HNU.out _ H1.out).mono ?_
  rintro e w2 ⟨rfl, hb⟩
  have H2 := Lib.hid (show Below w.heap.size w w2 from H1.out.trans (hb.mono H1.out.size))
  have SR2 := Lib.hid (SR1.out.later hb)
  have z2 := hb.size
  have d2 := keeps hb c2
  have d3 := keeps hb c3
  have d0 := keeps hb ce0
  clear hb SR1 c1 c2 c3 ce0 HNU
  go_wp2_with fail
  refine (HA.out _ H2.out).mono ?_
  rintro e w3 ⟨A3, m3, q3, rfl, hr3, hb⟩
  have H3 := Lib.hid (show Below w.heap.size w w3 from H2.out.trans (hb.mono H2.out.size))
  have SR3 := Lib.hid (SR2.out.later hb)
  have z3 := hb.size
  have R3 := Lib.hid hr3
  have f3 := keeps hb d3
  have f0 := keeps hb d0
  clear hb hr3 SR2 d0 d2 d3 HA
  go_wp2_with fail
  refine (HB.out _ H3.out).mono ?_
  rintro e w4 ⟨A4, m4, q4, rfl, hr4, hb⟩
  have H4 := Lib.hid (show Below w.heap.size w w4 from H3.out.trans (hb.mono H3.out.size))
  have SR4 := Lib.hid (SR3.out.later hb)
  have z4 := hb.size
  have R4 := Lib.hid hr4
  have h0 := keeps hb f0
  have R3b := Lib.hid (R3.out.later hb)
  clear hb hr4 SR3 f0 f3 HB
  have HAp : Hid (Apart (.slice A3 m3 q3) (.slice A4 m4 q4)) := fun x h1 h2 => by have h3 := (R3.out.lt x h1).2; have h4 := (R4.out.lt x h2).1; omega
  have SR5 := Lib.hid (SR4.out.alloc_ (.cells #[.string es, .int .i64 gg, .slice A3 m3 q3, .slice A4 m4 q4] 38))
  have n0 := SR4.out.cell 0 _ rfl
  have n1 := SR4.out.cell 1 _ rfl
  have n2 := SR4.out.cell 2 _ rfl
  have n3 := SR4.out.cell 3 _ rfl
  have nf := SR4.out.free
  have nl := SR4.out.lt
  cases o1 with
  | false =>
    have HN := Lib.hid (HNO.out (by rw [HSPEC.out]; rfl))
    clear HNO HYES HSPEC HBD HTX HNE
    go_wp2_with fail
    refine bodyPost_ret (v := .tuple #[.agg #[.string ⟨#[]⟩, .int .i64 0, .slice none 0 0, .slice none 0 0], .bool false]) (by simp [results, Tryd.results17, go_sem, *]) rfl ?_
    rw [HN.out.1, HN.out.2.1, HN.out.2.2.1, HN.out.2.2.2.1, HN.out.2.2.2.2]
    exact ⟨_, _, _, _, _, _, rfl, Row.nil_, Row.nil_, (fun g h _ => by simp [Value.ownBlock] at h), by repeat (first | (with_reducible exact Below.refl _ _) | (with_reducible assumption) | ((with_reducible refine bl_alloc ?_ _ ?_); (focus ((first | omega | (simp <;> omega)); done))) | ((with_reducible refine bl_set ?_ _ ?_); (focus ((first | omega | (simp <;> omega)); done))) | (with_reducible refine below_drewN ?_ _) | (with_reducible refine Below.drew ?_) | ((with_reducible refine bl_trans ?_ H4.out ?_); (focus ((first | omega | (simp <;> omega)); done))))⟩
  | true =>
    cases o2 with
    | false =>
      have HN := Lib.hid (HNO.out (by rw [HSPEC.out]; rfl))
      clear HNO HYES HSPEC HBD HTX HNE
      go_wp2_with fail
      refine bodyPost_ret (v := .tuple #[.agg #[.string ⟨#[]⟩, .int .i64 0, .slice none 0 0, .slice none 0 0], .bool false]) (by simp [results, Tryd.results17, go_sem, *]) rfl ?_
      rw [HN.out.1, HN.out.2.1, HN.out.2.2.1, HN.out.2.2.2.1, HN.out.2.2.2.2]
      exact ⟨_, _, _, _, _, _, rfl, Row.nil_, Row.nil_, (fun g h _ => by simp [Value.ownBlock] at h), by repeat (first | (with_reducible exact Below.refl _ _) | (with_reducible assumption) | ((with_reducible refine bl_alloc ?_ _ ?_); (focus ((first | omega | (simp <;> omega)); done))) | ((with_reducible refine bl_set ?_ _ ?_); (focus ((first | omega | (simp <;> omega)); done))) | (with_reducible refine below_drewN ?_ _) | (with_reducible refine Below.drew ?_) | ((with_reducible refine bl_trans ?_ H4.out ?_); (focus ((first | omega | (simp <;> omega)); done))))⟩
    | true =>
      cases o3 with
      | false =>
        have HN := Lib.hid (HNO.out (by rw [HSPEC.out]; rfl))
        clear HNO HYES HSPEC HBD HTX HNE
        go_wp2_with fail
        refine bodyPost_ret (v := .tuple #[.agg #[.string ⟨#[]⟩, .int .i64 0, .slice none 0 0, .slice none 0 0], .bool false]) (by simp [results, Tryd.results17, go_sem, *]) rfl ?_
        rw [HN.out.1, HN.out.2.1, HN.out.2.2.1, HN.out.2.2.2.1, HN.out.2.2.2.2]
        exact ⟨_, _, _, _, _, _, rfl, Row.nil_, Row.nil_, (fun g h _ => by simp [Value.ownBlock] at h), by repeat (first | (with_reducible exact Below.refl _ _) | (with_reducible assumption) | ((with_reducible refine bl_alloc ?_ _ ?_); (focus ((first | omega | (simp <;> omega)); done))) | ((with_reducible refine bl_set ?_ _ ?_); (focus ((first | omega | (simp <;> omega)); done))) | (with_reducible refine below_drewN ?_ _) | (with_reducible refine Below.drew ?_) | ((with_reducible refine bl_trans ?_ H4.out ?_); (focus ((first | omega | (simp <;> omega)); done))))⟩
      | true =>
        have H5a := Lib.hid (show Below w.heap.size w (w4.alloc (.cells #[.string es, .int .i64 gg, .slice A3 m3 q3, .slice A4 m4 q4] 38)) by repeat (first | (with_reducible exact Below.refl _ _) | (with_reducible assumption) | ((with_reducible refine bl_alloc ?_ _ ?_); (focus ((first | omega | (simp <;> omega)); done))) | ((with_reducible refine bl_set ?_ _ ?_); (focus ((first | omega | (simp <;> omega)); done))) | (with_reducible refine below_drewN ?_ _) | (with_reducible refine Below.drew ?_) | ((with_reducible refine bl_trans ?_ H4.out ?_); (focus ((first | omega | (simp <;> omega)); done)))))
        have HMT := Lib.hid (ofAntennaText.impl_any (w4.alloc (.cells #[.string es, .int .i64 gg, .slice A3 m3 q3, .slice A4 m4 q4] 38)) (HT.out.pow.below H5a.out) es HSS.out gg IG.out _ xa _ (R3b.out.alloc_ _) IA.out _ xb _ (R4.out.alloc_ _) IB.out)
        have Y0 := Lib.hid (show (w4.alloc (.cells #[.string es, .int .i64 gg, .slice A3 m3 q3, .slice A4 m4 q4] 38)).cell? ⟨w4.heap.size, 0, none⟩ = some (.string es) by simp [go_sem])
        have Y1 := Lib.hid (show (w4.alloc (.cells #[.string es, .int .i64 gg, .slice A3 m3 q3, .slice A4 m4 q4] 38)).cell? ⟨w4.heap.size, 1, none⟩ = some (.int .i64 gg) by simp [go_sem])
        have Y2 := Lib.hid (show (w4.alloc (.cells #[.string es, .int .i64 gg, .slice A3 m3 q3, .slice A4 m4 q4] 38)).cell? ⟨w4.heap.size, 2, none⟩ = some (.slice A3 m3 q3) by simp [go_sem])
        have Y3 := Lib.hid (show (w4.alloc (.cells #[.string es, .int .i64 gg, .slice A3 m3 q3, .slice A4 m4 q4] 38)).cell? ⟨w4.heap.size, 3, none⟩ = some (.slice A4 m4 q4) by simp [go_sem])
        clear n0 n1 n2 n3 nf
        rcases bool_tf (raB L) with hM | hM
        · have HN := Lib.hid (HYES.out (by rw [HSPEC.out, hM]; rfl))
          have hform := HTX.out rfl rfl rfl hM
          rw [hform, HETA.out] at HMT
          clear hform hM
          clear HNO HYES HSPEC HBD HTX HNE
          go_wp2_with fail
          refine HMT.out.mono ?_
          rintro e w5 ⟨rfl, hb⟩
          have H5 := Lib.hid (show Below w.heap.size w w5 by repeat (first | (with_reducible exact Below.refl _ _) | (with_reducible assumption) | ((with_reducible refine bl_alloc ?_ _ ?_); (focus ((first | omega | (simp <;> omega)); done))) | ((with_reducible refine bl_set ?_ _ ?_); (focus ((first | omega | (simp <;> omega)); done))) | (with_reducible refine below_drewN ?_ _) | (with_reducible refine Below.drew ?_) | ((with_reducible refine bl_trans ?_ hb ?_); (focus ((first | omega | (simp <;> omega)); done))) | ((with_reducible refine bl_trans ?_ H4.out ?_); (focus ((first | omega | (simp <;> omega)); done)))))
          have SR6 := Lib.hid (SR5.out.later hb)
          have R3c := Lib.hid ((R3b.out.alloc_ _).later hb)
          have R4c := Lib.hid ((R4.out.alloc_ _).later hb)
          have b0 := keeps hb Y0.out
          have b1 := keeps hb Y1.out
          have b2 := keeps hb Y2.out
          have b3 := keeps hb Y3.out
          have z5 := hb.size
          clear hb HMT R3b SR5 Y0 Y1 Y2 Y3
          have n0 := SR6.out.cell 0 _ rfl
          have n1 := SR6.out.cell 1 _ rfl
          have n2 := SR6.out.cell 2 _ rfl
          have n3 := SR6.out.cell 3 _ rfl
          have nf := SR6.out.free
          go_wp2_with fail
          refine bodyPost_ret (v := .tuple #[.agg #[.string es, .int .i64 gg, .slice A3 m3 q3, .slice A4 m4 q4], .bool true]) (by simp [results, Tryd.results17, go_sem, *]) rfl ?_
          rw [HN.out.1, HN.out.2.1, HN.out.2.2.1, HN.out.2.2.2.1, HN.out.2.2.2.2]
          refine ⟨_, _, _, _, _, _, rfl, ?_, ?_, HAp.out, by repeat (first | (with_reducible exact Below.refl _ _) | (with_reducible assumption) | ((with_reducible refine bl_alloc ?_ _ ?_); (focus ((first | omega | (simp <;> omega)); done))) | ((with_reducible refine bl_set ?_ _ ?_); (focus ((first | omega | (simp <;> omega)); done))) | (with_reducible refine below_drewN ?_ _) | (with_reducible refine Below.drew ?_) | ((with_reducible refine bl_trans ?_ H5.out ?_); (focus ((first | omega | (simp <;> omega)); done))))⟩
          · refine Row.base_le (base := w2.heap.size) ?_ (by omega)
            repeat (first | (with_reducible exact R3c.out) | ((with_reducible refine Row.low ?_ _ ?_); (focus ((first | omega | (simp <;> omega)); done))))
          · refine Row.base_le (base := w3.heap.size) ?_ (by omega)
            repeat (first | (with_reducible exact R4c.out) | ((with_reducible refine Row.low ?_ _ ?_); (focus ((first | omega | (simp <;> omega)); done))))
        · have HN := Lib.hid (HNO.out (by rw [HSPEC.out, hM]; rfl))
          have hbd := HBD.out.symm.trans hM
          rw [antT_no hbd] at HMT
          have hne2 : ¬ (⟨([] : List UInt8).toArray⟩ : ByteArray) = s := fun q => HNE.out (by have h := HETA.out; rw [← q] at h; have h2 := arr_eta h; simpa using h2)
          obtain ⟨q1, q2⟩ := str_off hne2
          obtain ⟨ez, hez⟩ : ∃ z : ByteArray, z = ⟨([] : List UInt8).toArray⟩ := ⟨_, rfl⟩
          rw [← hez] at HMT q1 q2
          clear hez hne2 hbd hM
          clear HNO HYES HSPEC HBD HTX HNE
          go_wp2_with fail
          refine HMT.out.mono ?_
          rintro e w5 ⟨rfl, hb⟩
          have H5 := Lib.hid (show Below w.heap.size w w5 by repeat (first | (with_reducible exact Below.refl _ _) | (with_reducible assumption) | ((with_reducible refine bl_alloc ?_ _ ?_); (focus ((first | omega | (simp <;> omega)); done))) | ((with_reducible refine bl_set ?_ _ ?_); (focus ((first | omega | (simp <;> omega)); done))) | (with_reducible refine below_drewN ?_ _) | (with_reducible refine Below.drew ?_) | ((with_reducible refine bl_trans ?_ hb ?_); (focus ((first | omega | (simp <;> omega)); done))) | ((with_reducible refine bl_trans ?_ H4.out ?_); (focus ((first | omega | (simp <;> omega)); done)))))
          have SR6 := Lib.hid (SR5.out.later hb)
          have R3c := Lib.hid ((R3b.out.alloc_ _).later hb)
          have R4c := Lib.hid ((R4.out.alloc_ _).later hb)
          have b0 := keeps hb Y0.out
          have b1 := keeps hb Y1.out
          have b2 := keeps hb Y2.out
          have b3 := keeps hb Y3.out
          have z5 := hb.size
          clear hb HMT R3b SR5 Y0 Y1 Y2 Y3
          have n0 := SR6.out.cell 0 _ rfl
          have n1 := SR6.out.cell 1 _ rfl
          have n2 := SR6.out.cell 2 _ rfl
          have n3 := SR6.out.cell 3 _ rfl
          have nf := SR6.out.free
          go_wp2_with fail
          refine bodyPost_ret (v := .tuple #[.agg #[.string ⟨#[]⟩, .int .i64 0, .slice none 0 0, .slice none 0 0], .bool false]) (by simp [results, Tryd.results17, go_sem, *]) rfl ?_
          rw [HN.out.1, HN.out.2.1, HN.out.2.2.1, HN.out.2.2.2.1, HN.out.2.2.2.2]
          exact ⟨_, _, _, _, _, _, rfl, Row.nil_, Row.nil_, (fun g h _ => by simp [Value.ownBlock] at h), by repeat (first | (with_reducible exact Below.refl _ _) | (with_reducible assumption) | ((with_reducible refine bl_alloc ?_ _ ?_); (focus ((first | omega | (simp <;> omega)); done))) | ((with_reducible refine bl_set ?_ _ ?_); (focus ((first | omega | (simp <;> omega)); done))) | (with_reducible refine below_drewN ?_ _) | (with_reducible refine Below.drew ?_) | ((with_reducible refine bl_trans ?_ H5.out ?_); (focus ((first | omega | (simp <;> omega)); done))))⟩
set_option maxRecDepth 20000 in
set_option maxHeartbeats 16000000 in
theorem walk (w : World) (hT : RdTab w) (s0 : ByteArray) (is0 : s0.size ≤ maxLen) :
    Calls Tryd.prog 5 #[.string s0] w fun e w' => e = .returned (.bool true) ∧ Below w.heap.size w w' := by
  have hml := ra_len s0.data.toList
  have HTab := Lib.hid hT
  clear hT
  by_cases ht0 : ¬ (s0.size : Int) ≤ 1048576
  · go_enter Tryd.func5, Tryd.ntmps5
    go_wp2_with fail
    go_ret
    exact ⟨rfl, by repeat (first | (with_reducible exact Below.refl _ _) | (with_reducible assumption) | ((with_reducible refine bl_alloc ?_ _ ?_); (focus ((first | omega | (simp <;> omega)); done))) | ((with_reducible refine bl_set ?_ _ ?_); (focus ((first | omega | (simp <;> omega)); done))) | (with_reducible refine below_drewN ?_ _) | (with_reducible refine Below.drew ?_))⟩
  have ht0' : (s0.size : Int) ≤ 1048576 := by omega
  clear ht0
  go_enter Tryd.func5, Tryd.ntmps5
  go_wp2_with fail
  refine (spec_any _ s0 is0 (by omega)).mono ?_
  rintro e w1 ⟨A0, n0, c0, A1, n1, c1, rfl, hr0, hr1, ha0_1, hb⟩
  have zz1 : w.heap.size ≤ w1.heap.size := (by have := hb.size; ((try simp at this) <;> omega))
  have H1 := Lib.hid (show Below w.heap.size w w1 by repeat (first | (with_reducible exact Below.refl _ _) | (with_reducible assumption) | ((with_reducible refine bl_alloc ?_ _ ?_); (focus ((first | omega | (simp <;> omega)); done))) | ((with_reducible refine bl_set ?_ _ ?_); (focus ((first | omega | (simp <;> omega)); done))) | (with_reducible refine below_drewN ?_ _) | (with_reducible refine Below.drew ?_) | ((with_reducible refine bl_trans ?_ hb ?_); (focus ((first | omega | (simp <;> omega)); done)))))
  have R0_1 := Lib.hid hr0
  have RL0 := Lib.hid (show ∀ g, Value.ownBlock (.slice A0 n0 c0) = some g → w.heap.size ≤ g ∧ g < w1.heap.size from fun g h => by have l1 := hr0.lt g h; ((try simp at l1) <;> omega))
  have RA0_1 := Lib.hid ha0_1
  have R1_1 := Lib.hid hr1
  have RL1 := Lib.hid (show ∀ g, Value.ownBlock (.slice A1 n1 c1) = some g → w.heap.size ≤ g ∧ g < w1.heap.size from fun g h => by have l1 := hr1.lt g h; ((try simp at l1) <;> omega))
  clear hb hr0 ha0_1 hr1
  go_wp2_with fail
  refine (impl_any _ (RdTab.below HTab.out (by repeat (first | (with_reducible exact Below.refl _ _) | (with_reducible assumption) | ((with_reducible refine bl_alloc ?_ _ ?_); (focus ((first | omega | (simp <;> omega)); done))) | ((with_reducible refine bl_set ?_ _ ?_); (focus ((first | omega | (simp <;> omega)); done))) | (with_reducible refine below_drewN ?_ _) | (with_reducible refine Below.drew ?_) | ((with_reducible refine bl_trans ?_ H1.out ?_); (focus ((first | omega | (simp <;> omega)); done)))))) s0 is0 (by omega)).mono ?_
  rintro e w2 ⟨A2, n2, c2, A3, n3, c3, rfl, hr2, hr3, ha2_3, hb⟩
  have zz2 : w1.heap.size + 1 ≤ w2.heap.size := (by have := hb.size; ((try simp at this) <;> omega))
  have H2 := Lib.hid (show Below w.heap.size w w2 by repeat (first | (with_reducible exact Below.refl _ _) | (with_reducible assumption) | ((with_reducible refine bl_alloc ?_ _ ?_); (focus ((first | omega | (simp <;> omega)); done))) | ((with_reducible refine bl_set ?_ _ ?_); (focus ((first | omega | (simp <;> omega)); done))) | (with_reducible refine below_drewN ?_ _) | (with_reducible refine Below.drew ?_) | ((with_reducible refine bl_trans ?_ hb ?_); (focus ((first | omega | (simp <;> omega)); done))) | ((with_reducible refine bl_trans ?_ H1.out ?_); (focus ((first | omega | (simp <;> omega)); done)))))
  have f0_0_2 := keeps hb (p := ⟨w1.heap.size, 0, none⟩) (v := .string (raN s0.data.toList)) (by simp [go_sem])
  have f0_1_2 := keeps hb (p := ⟨w1.heap.size, 1, none⟩) (v := .int .i64 ((raG s0.data.toList))) (by simp [go_sem])
  have f0_2_2 := keeps hb (p := ⟨w1.heap.size, 2, none⟩) (v := (.slice A0 n0 c0)) (by simp [go_sem])
  have f0_3_2 := keeps hb (p := ⟨w1.heap.size, 3, none⟩) (v := (.slice A1 n1 c1)) (by simp [go_sem])
  have g0_2 : w1.heap.size < w2.heap.size := block_of_cell f0_0_2
  have R0_2 := Lib.hid (Row.later (R0_1.out.alloc_ _) hb)
  have R1_2 := Lib.hid (Row.later (R1_1.out.alloc_ _) hb)
  have R2_2 := Lib.hid hr2
  have RL2 := Lib.hid (show ∀ g, Value.ownBlock (.slice A2 n2 c2) = some g → w1.heap.size + 1 ≤ g ∧ g < w2.heap.size from fun g h => by have l1 := hr2.lt g h; ((try simp at l1) <;> omega))
  have RA2_3 := Lib.hid ha2_3
  have R3_2 := Lib.hid hr3
  have RL3 := Lib.hid (show ∀ g, Value.ownBlock (.slice A3 n3 c3) = some g → w1.heap.size + 1 ≤ g ∧ g < w2.heap.size from fun g h => by have l1 := hr3.lt g h; ((try simp at l1) <;> omega))
  clear hb R0_1 R1_1 hr2 ha2_3 hr3 H1
  go_wp2_with fail
  refine (eqAntenna_any ((raN s0.data.toList)) ((raG s0.data.toList)) _ _ _ ((raH s0.data.toList)) _ _ (R2_2.out.alloc_ _) (R0_2.out.alloc_ _) _ _ ((raV s0.data.toList)) _ _ (R3_2.out.alloc_ _) (R1_2.out.alloc_ _)).mono ?_
  rintro e w3 ⟨rfl, hb⟩
  have zz3 : w2.heap.size + 1 ≤ w3.heap.size := (by have := hb.size; ((try simp at this) <;> omega))
  have H3 := Lib.hid (show Below w.heap.size w w3 by repeat (first | (with_reducible exact Below.refl _ _) | (with_reducible assumption) | ((with_reducible refine bl_alloc ?_ _ ?_); (focus ((first | omega | (simp <;> omega)); done))) | ((with_reducible refine bl_set ?_ _ ?_); (focus ((first | omega | (simp <;> omega)); done))) | (with_reducible refine below_drewN ?_ _) | (with_reducible refine Below.drew ?_) | ((with_reducible refine bl_trans ?_ hb ?_); (focus ((first | omega | (simp <;> omega)); done))) | ((with_reducible refine bl_trans ?_ H2.out ?_); (focus ((first | omega | (simp <;> omega)); done)))))
  have f0_0_3 := keeps hb (cell_alloc f0_0_2 _)
  have f0_1_3 := keeps hb (cell_alloc f0_1_2 _)
  have f0_2_3 := keeps hb (cell_alloc f0_2_2 _)
  have f0_3_3 := keeps hb (cell_alloc f0_3_2 _)
  have g0_3 : w1.heap.size < w3.heap.size := block_of_cell f0_0_3
  have f1_0_3 := keeps hb (p := ⟨w2.heap.size, 0, none⟩) (v := .string (raN s0.data.toList)) (by simp [go_sem])
  have f1_1_3 := keeps hb (p := ⟨w2.heap.size, 1, none⟩) (v := .int .i64 ((raG s0.data.toList))) (by simp [go_sem])
  have f1_2_3 := keeps hb (p := ⟨w2.heap.size, 2, none⟩) (v := (.slice A2 n2 c2)) (by simp [go_sem])
  have f1_3_3 := keeps hb (p := ⟨w2.heap.size, 3, none⟩) (v := (.slice A3 n3 c3)) (by simp [go_sem])
  have g1_3 : w2.heap.size < w3.heap.size := block_of_cell f1_0_3
  have R0_3 := Lib.hid (Row.later (R0_2.out.alloc_ _) hb)
  have R1_3 := Lib.hid (Row.later (R1_2.out.alloc_ _) hb)
  have R2_3 := Lib.hid (Row.later (R2_2.out.alloc_ _) hb)
  have R3_3 := Lib.hid (Row.later (R3_2.out.alloc_ _) hb)
  clear hb f0_0_2 f0_1_2 f0_2_2 f0_3_2 g0_2 R0_2 R1_2 R2_2 R3_2 H2
  go_wp2_with fail
  refine (markAntenna_any ((raN s0.data.toList)) ((raG s0.data.toList)) _ _ _ ((raH s0.data.toList)) _ R2_3.out _ ((raV s0.data.toList)) _ R3_3.out RA2_3.out (by omega) (by omega)).mono ?_
  rintro e w4 ⟨rfl, hr2, hr3, hb⟩
  have zz4 : w3.heap.size ≤ w4.heap.size := (by have := hb.size; ((try simp at this) <;> omega))
  have H4 := Lib.hid (show Below w.heap.size w w4 from Below.trans (by repeat (first | (with_reducible exact Below.refl _ _) | (with_reducible assumption) | ((with_reducible refine bl_alloc ?_ _ ?_); (focus ((first | omega | (simp <;> omega)); done))) | ((with_reducible refine bl_set ?_ _ ?_); (focus ((first | omega | (simp <;> omega)); done))) | (with_reducible refine below_drewN ?_ _) | (with_reducible refine Below.drew ?_) | ((with_reducible refine bl_trans ?_ H3.out ?_); (focus ((first | omega | (simp <;> omega)); done))))) (hb.below (by first | omega | (simp <;> omega)) (fun g hs => by rcases hs with hs | hs <;> first | (have := (RL2.out g hs).1; omega) | (have := (RL3.out g hs).1; omega))))
  have f0_0_4 := keepsW hb f0_0_3 (fun hs => by rcases hs with hs | hs <;> first | (have := RL2.out _ hs; ((try simp at this) <;> omega)) | (have := RL3.out _ hs; ((try simp at this) <;> omega)))
  have f0_1_4 := keepsW hb f0_1_3 (fun hs => by rcases hs with hs | hs <;> first | (have := RL2.out _ hs; ((try simp at this) <;> omega)) | (have := RL3.out _ hs; ((try simp at this) <;> omega)))
  have f0_2_4 := keepsW hb f0_2_3 (fun hs => by rcases hs with hs | hs <;> first | (have := RL2.out _ hs; ((try simp at this) <;> omega)) | (have := RL3.out _ hs; ((try simp at this) <;> omega)))
  have f0_3_4 := keepsW hb f0_3_3 (fun hs => by rcases hs with hs | hs <;> first | (have := RL2.out _ hs; ((try simp at this) <;> omega)) | (have := RL3.out _ hs; ((try simp at this) <;> omega)))
  have g0_4 : w1.heap.size < w4.heap.size := block_of_cell f0_0_4
  have f1_0_4 := keepsW hb f1_0_3 (fun hs => by rcases hs with hs | hs <;> first | (have := RL2.out _ hs; ((try simp at this) <;> omega)) | (have := RL3.out _ hs; ((try simp at this) <;> omega)))
  have f1_1_4 := keepsW hb f1_1_3 (fun hs => by rcases hs with hs | hs <;> first | (have := RL2.out _ hs; ((try simp at this) <;> omega)) | (have := RL3.out _ hs; ((try simp at this) <;> omega)))
  have f1_2_4 := keepsW hb f1_2_3 (fun hs => by rcases hs with hs | hs <;> first | (have := RL2.out _ hs; ((try simp at this) <;> omega)) | (have := RL3.out _ hs; ((try simp at this) <;> omega)))
  have f1_3_4 := keepsW hb f1_3_3 (fun hs => by rcases hs with hs | hs <;> first | (have := RL2.out _ hs; ((try simp at this) <;> omega)) | (have := RL3.out _ hs; ((try simp at this) <;> omega)))
  have g1_4 : w2.heap.size < w4.heap.size := block_of_cell f1_0_4
  have R0_4 := Lib.hid (Row.writes R0_3.out hb (fun g h hs => by have h1 := RL0.out g h; rcases hs with hs | hs <;> first | (have h2 := RL2.out g hs; omega) | (have h2 := RL3.out g hs; omega)))
  have R1_4 := Lib.hid (Row.writes R1_3.out hb (fun g h hs => by have h1 := RL1.out g h; rcases hs with hs | hs <;> first | (have h2 := RL2.out g hs; omega) | (have h2 := RL3.out g hs; omega)))
  have R2_4 := Lib.hid hr2
  have R3_4 := Lib.hid hr3
  clear hb f0_0_3 f0_1_3 f0_2_3 f0_3_3 g0_3 f1_0_3 f1_1_3 f1_2_3 f1_3_3 g1_3 R0_3 R1_3 R2_3 hr2 R3_3 hr3 H3
  go_wp2_with fail
  refine (heldAntenna_any ((raN s0.data.toList)) ((raG s0.data.toList)) _ _ _ _ _ R2_4.out _ _ _ R3_4.out (by omega) (by omega)).mono ?_
  rintro e w5 ⟨rfl, hb⟩
  have zz5 : w4.heap.size ≤ w5.heap.size := (by have := hb.size; ((try simp at this) <;> omega))
  have H5 := Lib.hid (show Below w.heap.size w w5 by repeat (first | (with_reducible exact Below.refl _ _) | (with_reducible assumption) | ((with_reducible refine bl_alloc ?_ _ ?_); (focus ((first | omega | (simp <;> omega)); done))) | ((with_reducible refine bl_set ?_ _ ?_); (focus ((first | omega | (simp <;> omega)); done))) | (with_reducible refine below_drewN ?_ _) | (with_reducible refine Below.drew ?_) | ((with_reducible refine bl_trans ?_ hb ?_); (focus ((first | omega | (simp <;> omega)); done))) | ((with_reducible refine bl_trans ?_ H4.out ?_); (focus ((first | omega | (simp <;> omega)); done)))))
  have f0_0_5 := keeps hb f0_0_4
  have f0_1_5 := keeps hb f0_1_4
  have f0_2_5 := keeps hb f0_2_4
  have f0_3_5 := keeps hb f0_3_4
  have g0_5 : w1.heap.size < w5.heap.size := block_of_cell f0_0_5
  have f1_0_5 := keeps hb f1_0_4
  have f1_1_5 := keeps hb f1_1_4
  have f1_2_5 := keeps hb f1_2_4
  have f1_3_5 := keeps hb f1_3_4
  have g1_5 : w2.heap.size < w5.heap.size := block_of_cell f1_0_5
  have R0_5 := Lib.hid (Row.later R0_4.out hb)
  have R1_5 := Lib.hid (Row.later R1_4.out hb)
  have R2_5 := Lib.hid (Row.later R2_4.out hb)
  have R3_5 := Lib.hid (Row.later R3_4.out hb)
  clear hb f0_0_4 f0_1_4 f0_2_4 f0_3_4 g0_4 f1_0_4 f1_1_4 f1_2_4 f1_3_4 g1_4 R0_4 R1_4 R2_4 R3_4 H4
  go_wp2_with fail
  refine (impl_any _ (RdTab.below HTab.out (by repeat (first | (with_reducible exact Below.refl _ _) | (with_reducible assumption) | ((with_reducible refine bl_alloc ?_ _ ?_); (focus ((first | omega | (simp <;> omega)); done))) | ((with_reducible refine bl_set ?_ _ ?_); (focus ((first | omega | (simp <;> omega)); done))) | (with_reducible refine below_drewN ?_ _) | (with_reducible refine Below.drew ?_) | ((with_reducible refine bl_trans ?_ H5.out ?_); (focus ((first | omega | (simp <;> omega)); done)))))) s0 is0 (by omega)).mono ?_
  rintro e w6 ⟨A4, n4, c4, A5, n5, c5, rfl, hr4, hr5, ha4_5, hb⟩
  have zz6 : w5.heap.size ≤ w6.heap.size := (by have := hb.size; ((try simp at this) <;> omega))
  have H6 := Lib.hid (show Below w.heap.size w w6 by repeat (first | (with_reducible exact Below.refl _ _) | (with_reducible assumption) | ((with_reducible refine bl_alloc ?_ _ ?_); (focus ((first | omega | (simp <;> omega)); done))) | ((with_reducible refine bl_set ?_ _ ?_); (focus ((first | omega | (simp <;> omega)); done))) | (with_reducible refine below_drewN ?_ _) | (with_reducible refine Below.drew ?_) | ((with_reducible refine bl_trans ?_ hb ?_); (focus ((first | omega | (simp <;> omega)); done))) | ((with_reducible refine bl_trans ?_ H5.out ?_); (focus ((first | omega | (simp <;> omega)); done)))))
  have f0_0_6 := keeps hb f0_0_5
  have f0_1_6 := keeps hb f0_1_5
  have f0_2_6 := keeps hb f0_2_5
  have f0_3_6 := keeps hb f0_3_5
  have g0_6 : w1.heap.size < w6.heap.size := block_of_cell f0_0_6
  have f1_0_6 := keeps hb f1_0_5
  have f1_1_6 := keeps hb f1_1_5
  have f1_2_6 := keeps hb f1_2_5
  have f1_3_6 := keeps hb f1_3_5
  have g1_6 : w2.heap.size < w6.heap.size := block_of_cell f1_0_6
  have R0_6 := Lib.hid (Row.later R0_5.out hb)
  have R1_6 := Lib.hid (Row.later R1_5.out hb)
  have R2_6 := Lib.hid (Row.later R2_5.out hb)
  have R3_6 := Lib.hid (Row.later R3_5.out hb)
  have R4_6 := Lib.hid hr4
  have RL4 := Lib.hid (show ∀ g, Value.ownBlock (.slice A4 n4 c4) = some g → w5.heap.size ≤ g ∧ g < w6.heap.size from fun g h => by have l1 := hr4.lt g h; ((try simp at l1) <;> omega))
  have RA4_5 := Lib.hid ha4_5
  have R5_6 := Lib.hid hr5
  have RL5 := Lib.hid (show ∀ g, Value.ownBlock (.slice A5 n5 c5) = some g → w5.heap.size ≤ g ∧ g < w6.heap.size from fun g h => by have l1 := hr5.lt g h; ((try simp at l1) <;> omega))
  clear hb f0_0_5 f0_1_5 f0_2_5 f0_3_5 g0_5 f1_0_5 f1_1_5 f1_2_5 f1_3_5 g1_5 R0_5 R1_5 R2_5 R3_5 hr4 ha4_5 hr5 H5
  go_wp2_with fail
  refine (eqAntenna_any ((raN s0.data.toList)) ((raG s0.data.toList)) _ _ _ ((raH s0.data.toList)) _ _ (R4_6.out.alloc_ _) (R0_6.out.alloc_ _) _ _ ((raV s0.data.toList)) _ _ (R5_6.out.alloc_ _) (R1_6.out.alloc_ _)).mono ?_
  rintro e w7 ⟨rfl, hb⟩
  have zz7 : w6.heap.size + 1 ≤ w7.heap.size := (by have := hb.size; ((try simp at this) <;> omega))
  have H7 := Lib.hid (show Below w.heap.size w w7 by repeat (first | (with_reducible exact Below.refl _ _) | (with_reducible assumption) | ((with_reducible refine bl_alloc ?_ _ ?_); (focus ((first | omega | (simp <;> omega)); done))) | ((with_reducible refine bl_set ?_ _ ?_); (focus ((first | omega | (simp <;> omega)); done))) | (with_reducible refine below_drewN ?_ _) | (with_reducible refine Below.drew ?_) | ((with_reducible refine bl_trans ?_ hb ?_); (focus ((first | omega | (simp <;> omega)); done))) | ((with_reducible refine bl_trans ?_ H6.out ?_); (focus ((first | omega | (simp <;> omega)); done)))))
  have f1_0_7 := keeps hb (cell_alloc f1_0_6 _)
  have f1_1_7 := keeps hb (cell_alloc f1_1_6 _)
  have f1_2_7 := keeps hb (cell_alloc f1_2_6 _)
  have f1_3_7 := keeps hb (cell_alloc f1_3_6 _)
  have g1_7 : w2.heap.size < w7.heap.size := block_of_cell f1_0_7
  have R2_7 := Lib.hid (Row.later (R2_6.out.alloc_ _) hb)
  have R3_7 := Lib.hid (Row.later (R3_6.out.alloc_ _) hb)
  clear hb f0_0_6 f0_1_6 f0_2_6 f0_3_6 g0_6 f1_0_6 f1_1_6 f1_2_6 f1_3_6 g1_6 R0_6 R1_6 R2_6 R3_6 R4_6 R5_6 H6
  go_wp2_with fail
  refine (heldAntenna_any ((raN s0.data.toList)) ((raG s0.data.toList)) _ _ _ _ _ R2_7.out _ _ _ R3_7.out (by omega) (by omega)).mono ?_
  rintro e w8 ⟨rfl, hb⟩
  have zz8 : w7.heap.size ≤ w8.heap.size := (by have := hb.size; ((try simp at this) <;> omega))
  have H8 := Lib.hid (show Below w.heap.size w w8 by repeat (first | (with_reducible exact Below.refl _ _) | (with_reducible assumption) | ((with_reducible refine bl_alloc ?_ _ ?_); (focus ((first | omega | (simp <;> omega)); done))) | ((with_reducible refine bl_set ?_ _ ?_); (focus ((first | omega | (simp <;> omega)); done))) | (with_reducible refine below_drewN ?_ _) | (with_reducible refine Below.drew ?_) | ((with_reducible refine bl_trans ?_ hb ?_); (focus ((first | omega | (simp <;> omega)); done))) | ((with_reducible refine bl_trans ?_ H7.out ?_); (focus ((first | omega | (simp <;> omega)); done)))))
  clear hb f1_0_7 f1_1_7 f1_2_7 f1_3_7 g1_7 R2_7 R3_7 H7
  go_wp2_with fail
  go_ret
  exact ⟨rfl, (by repeat (first | (with_reducible exact Below.refl _ _) | (with_reducible assumption) | ((with_reducible refine bl_alloc ?_ _ ?_); (focus ((first | omega | (simp <;> omega)); done))) | ((with_reducible refine bl_set ?_ _ ?_); (focus ((first | omega | (simp <;> omega)); done))) | (with_reducible refine below_drewN ?_ _) | (with_reducible refine Below.drew ?_) | ((with_reducible refine bl_trans ?_ H8.out ?_); (focus ((first | omega | (simp <;> omega)); done)))))⟩
end Go.Proofs.YtampjgfddakdoaaDoor.fnExactReadAntenna
