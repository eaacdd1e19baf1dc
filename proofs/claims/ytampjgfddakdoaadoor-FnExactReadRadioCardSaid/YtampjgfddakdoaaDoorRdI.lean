/-
  A list of numbers read off a text: the program's. The conditions are the hypotheses.
-/
import Derived.Test.YtampjgfddakdoaaDoorRows
import Derived.Test.YtampjgfddakdoaaDoorLib
import Derived.Test.YtampjgfddakdoaaDoorInts
import Derived.Test.YtampjgfddakdoaaDoorOwn
import Derived.Test.YtampjgfddakdoaaDoorShelf
import Derived.Test.YtampjgfddakdoaaDoorDec
import Derived.Test.YtampjgfddakdoaaDoorNumP
import Derived.Test.YtampjgfddakdoaaDoorNumS
import Derived.Test.YtampjgfddakdoaaDoorSplP
import Derived.Test.YtampjgfddakdoaaDoorSplS
import Derived.Test.YtampjgfddakdoaaDoorRdP
import Derived.Test.YtampjgfddakdoaaDoorRdS
import Derived.Test.YtampjgfddakdoaaDoorRdW
import Derived.Test.YtampjgfddakdoaaDoorRdD
import Derived.Test.YtampjgfddakdoaaDoorListT
import Derived.Test.YtampjgfddakdoaaDoorLstO
import Derived.OwnWalk
import Derived.Outline
namespace Go.Proofs.YtampjgfddakdoaaDoor
open Go.RowKit
set_option linter.unusedSimpArgs false
set_option linter.unusedVariables false
theorem cells_of_pieces {w : World} {SB : List ByteArray} {N : Nat} {e : TypeId} {k : Nat} {p : List UInt8} (h : (SB.map (·.data.toList))[k]? = some p) : (w.alloc (.cells (Lib.cellsOf SB N) e)).cell? ⟨w.heap.size, k, none⟩ = some (encL p) := by
  rw [List.getElem?_map, Option.map_eq_some_iff] at h
  obtain ⟨b, hb, rfl⟩ := h
  rw [cell_of_row (w.alloc (.cells (Lib.cellsOf SB N) e)) w.heap.size k (Lib.cellsOf SB N) e (0, 0) (heap_alloc_new w _)]
  unfold Lib.cellsOf encL
  rw [bytes_eta]
  obtain ⟨hk, rfl⟩ := List.getElem?_eq_some_iff.1 hb
  rw [List.getElem?_toArray, List.getElem?_append_left (by simpa using hk)]
  simp [hk]
theorem cells_of_split {w : World} {SB : List ByteArray} {e : TypeId} {k : Nat} {p : List UInt8} (h : (SB.map (·.data.toList))[k]? = some p) : (w.alloc (.cells (SB.map Value.string).toArray e)).cell? ⟨w.heap.size, k, none⟩ = some (encL p) := by
  rw [List.getElem?_map, Option.map_eq_some_iff] at h
  obtain ⟨b, hb, rfl⟩ := h
  rw [cell_of_row (w.alloc (.cells (SB.map Value.string).toArray e)) w.heap.size k (SB.map Value.string).toArray e (0, 0) (heap_alloc_new w _)]
  unfold encL
  rw [bytes_eta]
  obtain ⟨hk, rfl⟩ := List.getElem?_eq_some_iff.1 hb
  simp [hk]
/-- The library's pieces, at most n. -/
theorem splitN_any (w : World) (hT : RdTab w) (s : ByteArray) (hs : s.size ≤ 1048576) (c : UInt8) (n : Nat) (h1 : 1 ≤ n) (h2 : n ≤ 1000) :
    Calls Tryd.prog 34 #[.string s, .string ⟨#[c]⟩, .int .i64 n] w fun e w' => ∃ g cap, e = .returned (.slice (some ⟨g, 0, none⟩) (Lib.splitN s.data.toList [c] n).length cap) ∧ w.heap.size ≤ g ∧ g < w'.heap.size ∧ (∀ k p, (Lib.splitN s.data.toList [c] n)[k]? = some p → w'.cell? ⟨g, k, none⟩ = some (encL p)) ∧ Below w.heap.size w w' := by
  obtain ⟨m, hm⟩ := hT.mx
  have hd : (Lib.splitB ⟨#[c]⟩ 0 (min n (s.size + 1) - 1) s).map (·.data.toList) = Lib.splitN s.data.toList [c] n := by
    rw [Lib.splitB_data]
    unfold Lib.splitN
    rw [size_len]
  have hl : (Lib.splitB ⟨#[c]⟩ 0 (min n (s.size + 1) - 1) s).length = (Lib.splitN s.data.toList [c] n).length := by rw [← hd, List.length_map]
  refine (Tryd.strings_SplitN s ⟨#[c]⟩ n m w (by omega) hm (Nat.le_refl 1) h1 (by omega)).mono ?_
  rintro e w' ⟨rfl, rfl⟩
  refine ⟨w.heap.size, _, by rw [hl], Nat.le_refl _, by simp, fun k p hp => ?_, bl_alloc (Nat.le_refl _) _ (Below.refl _ _)⟩
  rw [← hd] at hp
  exact cells_of_pieces hp
theorem lst_end {L : List UInt8} {xs : List Int} (hd : L ≠ [45]) (h : allO numL (Lib.splitN L [44] 65) = some xs) :
    (lstM L = some xs ∧ listT xs = L ∧ lst12 xs ∧ xs.length ≤ 64) ∨ (lstM L = none ∧ L ≠ [] ∧ (64 < xs.length ∨ (0 < xs.length ∧ ¬ lst12 xs)) ∧ xs.length ≤ 65) := by
  by_cases h64 : (splitL 44 L).length ≤ 64
  · rw [splitN_few (by omega)] at h
    obtain ⟨h1, h2, h3, h4, h5⟩ := lst_few hd h64 h
    by_cases hb : lst12 xs
    · exact .inl ⟨(h4 hb).1, (h4 hb).2, hb, h3⟩
    · exact .inr ⟨h5 hb, h1, .inr ⟨h2, hb⟩, by omega⟩
  · have hl : (Lib.splitN L [44] 65).length = 65 := by
      by_cases h65 : (splitL 44 L).length ≤ 65
      · rw [splitN_few h65]; omega
      · exact (splitN_many (by omega) (by omega)).1
    have hx := (allO_some h).1
    refine .inr ⟨lstM_long hd (by omega), ?_, .inl (by omega), by omega⟩
    rintro rfl
    apply h64
    decide
theorem lst_stop {L : List UInt8} {k : Nat} (hd : L ≠ [45]) (hk : k < (Lib.splitN L [44] 65).length) (h : numL ((Lib.splitN L [44] 65).getD k []) = none) : lstM L = none := by
  by_cases h64 : (splitL 44 L).length ≤ 64
  · rw [splitN_few (by omega)] at h hk
    exact lst_few_none hd h64 hk h
  · exact lstM_long hd (by omega)
theorem splitN_len (L : List UInt8) : (Lib.splitN L [44] 65).length ≤ 65 := by
  by_cases h65 : (splitL 44 L).length ≤ 65
  · rw [splitN_few h65]; exact h65
  · have := (splitN_many (c := 44) (s := L) (n := 65) (by omega) (by omega)).1
    omega
theorem splitK_part {c : UInt8} : ∀ (k : Nat) (s : List UInt8), ∀ p ∈ Lib.splitK [c] 0 k s, p.length ≤ s.length
  | 0, s, p, h => by
    simp [Lib.splitK] at h
    rw [h]
    exact Nat.le_refl _
  | k + 1, s, p, h => by
    rcases part_of c s with hn | ⟨q, r, hq, rfl⟩
    · unfold Lib.splitK at h
      rw [index_none hn] at h
      simp at h
      rw [h]
      exact Nat.le_refl _
    · unfold Lib.splitK at h
      have hne : ¬ ((q.length : Int) == -1) = true := fun e => by have := beq_iff_eq.1 e; omega
      rw [index_app hq, if_neg hne, Int.toNat_natCast, Nat.add_zero, List.take_left] at h
      have e : (q ++ c :: r).drop (q.length + [c].length) = r := by
        rw [List.drop_append]
        simp
      rw [e] at h
      rcases List.mem_cons.1 h with rfl | h
      · simp
      · have := splitK_part k r p h
        simp only [List.length_append, List.length_cons]
        omega
set_option maxRecDepth 20000 in
set_option maxHeartbeats 8000000 in
theorem implReadList_any (w : World) (hT : RdTab w) (s : ByteArray) (hs : s.size ≤ 1048576) :
    Calls Tryd.prog 25 #[.string s] w fun e w' => ∃ A n c, e = .returned (.tuple #[.slice A n c, .bool (lstB s.data.toList)]) ∧ Row 2 w' w.heap.size (.slice A n c) (lstV s.data.toList) ∧ Below w.heap.size w w' := by
  obtain ⟨i0, hi, hz0, hz1, hz2⟩ := info_parts Tryd.info_i64
  have HI := Lib.hid hi
  have HZ0 := Lib.hid hz0
  have HZ1 := Lib.hid hz1
  have HZ2 := Lib.hid hz2
  clear hi hz0 hz1 hz2
  by_cases hd : s.data.toList = [45]
  · have HN := Lib.hid (lst_some (l := s.data.toList) (xs := []) (by rw [hd]; exact lstM_dash))
    have q1 : (s.toList == [45]) = true := by rw [ByteArray.toList_eq, hd]; rfl
    have q2 : ([45] == s.toList) = true := by rw [ByteArray.toList_eq, hd]; rfl
    have q3 : s.toList = [45] := by rw [ByteArray.toList_eq, hd]
    clear hd hT
    go_enter Tryd.func25, Tryd.ntmps25
    go_wp2_with fail
    refine bodyPost_ret (v := .tuple #[.slice none 0 0, .bool true]) (by simp [results, Tryd.results25, go_sem, *]) rfl ?_
    rw [HN.out.1, HN.out.2]
    exact ⟨_, _, _, rfl, Row.nil_, by repeat (first | (with_reducible exact Below.refl _ _) | (with_reducible assumption) | ((with_reducible refine bl_alloc ?_ _ ?_); (focus ((first | omega | (simp <;> omega)); done))) | ((with_reducible refine bl_set ?_ _ ?_); (focus ((first | omega | (simp <;> omega)); done))) | (with_reducible refine below_drewN ?_ _) | (with_reducible refine Below.drew ?_))⟩
  have q1 : (s.toList == [45]) = false := by rw [ByteArray.toList_eq]; simpa using hd
  have q2 : ([45] == s.toList) = false := by rw [ByteArray.toList_eq]; simpa using fun q => hd q.symm
  have q3 : ¬ s.toList = [45] := by rw [ByteArray.toList_eq]; exact hd
  have HT := Lib.hid hT
  clear hT
  have HSP := Lib.hid (splitN_any w HT.out s hs 44 65 (by omega) (by omega))
  have HPL := Lib.hid (fun p (h : p ∈ Lib.splitN s.data.toList [44] 65) => splitK_part _ _ p h)
  have HSL := Lib.hid (size_len s)
  have HEND := Lib.hid (fun xs => lst_end (L := s.data.toList) (xs := xs) hd)
  have HSTOP := Lib.hid (fun k => lst_stop (L := s.data.toList) (k := k) hd)
  have HN65 := splitN_len s.data.toList
  have HETA := Lib.hid (bytes_eta s)
  obtain ⟨L, hL⟩ : ∃ L, L = s.data.toList := ⟨_, rfl⟩
  rw [← hL] at HSP HPL HSL HEND HSTOP HN65 HETA ⊢
  clear hL hd
  obtain ⟨ps, hps⟩ : ∃ p, p = Lib.splitN L [44] 65 := ⟨_, rfl⟩
  rw [← hps] at HSP HPL HEND HSTOP HN65
  clear hps
  obtain ⟨N, hN⟩ : ∃ N, N = ps.length := ⟨_, rfl⟩
  have HNL := Lib.hid hN.symm
  rw [← hN] at HSP HSTOP HN65
  clear hN
  have n0 : (0 : Int) ≤ (N : Int) := Int.natCast_nonneg _
  go_enter Tryd.func25, Tryd.ntmps25
  go_wp2_with fail
  refine HSP.out.mono ?_
  rintro e w1 ⟨g, cap, rfl, gB, gl, hcc, hb1⟩
  have H1 := Lib.hid (show Below w.heap.size w w1 by repeat (first | (with_reducible exact Below.refl _ _) | (with_reducible assumption) | ((with_reducible refine bl_alloc ?_ _ ?_); (focus ((first | omega | (simp <;> omega)); done))) | ((with_reducible refine bl_set ?_ _ ?_); (focus ((first | omega | (simp <;> omega)); done))) | (with_reducible refine below_drewN ?_ _) | (with_reducible refine Below.drew ?_) | ((with_reducible refine bl_trans ?_ hb1 ?_); (focus ((first | omega | (simp <;> omega)); done)))))
  have HCC := Lib.hid hcc
  have z1 := H1.out.size
  clear hcc hb1 HSP
  go_wp2_with fail
  go_loopw [4, 14] (fun t i wr => ∃ (k : Nat) (xs : List Int), k ≤ N ∧ i = .int .i64 (k : Int) ∧ Hid (allO numL (ps.take k) = some xs) ∧ xs.length = k ∧ Hid (Row 2 wr w1.heap.size t xs) ∧ Hid (Below w1.heap.size w1 wr)) (fun _ i _ => N + 1 - (intOf i).toNat)
  case atStart => exact ⟨0, [], Nat.zero_le _, rfl, (show allO numL (ps.take 0) = some [] by rw [List.take_zero]; rfl), rfl, (show Row _ _ _ _ _ from Row.nil_), (show Below _ _ _ by repeat (first | (with_reducible exact Below.refl _ _) | (with_reducible assumption) | ((with_reducible refine bl_alloc ?_ _ ?_); (focus ((first | omega | (simp <;> omega)); done))) | ((with_reducible refine bl_set ?_ _ ?_); (focus ((first | omega | (simp <;> omega)); done))) | (with_reducible refine below_drewN ?_ _) | (with_reducible refine Below.drew ?_)))⟩
  case round =>
    obtain ⟨k, xs, hk, rfl, hall, hlen, hr, hb⟩ := hrel
    have k0 : (0 : Int) ≤ (k : Int) := Int.natCast_nonneg _
    have zw := hb.out.size
    by_cases hlt : k < N
    · have hlt' : (k : Int) < (N : Int) := by omega
      have hm := part_mem (ps := ps) (k := k) (by rw [HNL.out]; exact hlt)
      have ck := (hb.out.cell (p := ⟨g, k, none⟩) gl).trans (HCC.out k _ hm.2)
      have hpl := HPL.out _ hm.1
      have htk := Lib.hid (take_part (ps := ps) (k := k) (by rw [HNL.out]; exact hlt))
      have hbad := Lib.hid (fun (h : numL (ps.getD k []) = none) => lst_none (HSTOP.out k hlt h))
      obtain ⟨p, hp⟩ : ∃ p, p = ps.getD k [] := ⟨_, rfl⟩
      rw [← hp] at ck hpl htk hbad
      clear hm hp
      have hpz : (⟨p.toArray⟩ : ByteArray).size ≤ 1048576 := by rw [psize]; have := HSL.out; omega
      have HNU : Hid (∀ W : World, Below w.heap.size w W → Calls Tryd.prog 33 #[.string ⟨p.toArray⟩] W fun e w' => e = .returned (.tuple #[.int .i64 (numV p), .bool (numB p)]) ∧ Below W.heap.size W w') := fun W hW => by have h := ReadDecimal_any W (HT.out.below hW) ⟨p.toArray⟩ hpz; rw [numV_size] at h; exact h
      obtain ⟨ep, hep⟩ : ∃ ep : ByteArray, ep = ⟨p.toArray⟩ := ⟨_, rfl⟩
      have hee : encL p = .string ep := by rw [hep]; rfl
      rw [hee] at ck
      rw [← hep] at HNU
      clear hee hep hpz hpl
      have HBW := Lib.hid (show Below w.heap.size w wr by repeat (first | (with_reducible exact Below.refl _ _) | (with_reducible assumption) | ((with_reducible refine bl_alloc ?_ _ ?_); (focus ((first | omega | (simp <;> omega)); done))) | ((with_reducible refine bl_set ?_ _ ?_); (focus ((first | omega | (simp <;> omega)); done))) | (with_reducible refine below_drewN ?_ _) | (with_reducible refine Below.drew ?_) | ((with_reducible refine bl_trans ?_ hb.out ?_); (focus ((first | omega | (simp <;> omega)); done))) | ((with_reducible refine bl_trans ?_ H1.out ?_); (focus ((first | omega | (simp <;> omega)); done)))))
      cases hn : numL p with
      | none =>
        have hv := numV_none hn
        rw [hv.1, hv.2] at HNU
        have HN := Lib.hid (hbad.out hn)
        clear hn hv hbad
        go_wp2_with fail
        refine (HNU.out _ HBW.out).mono ?_
        rintro e w2 ⟨rfl, hb2⟩
        have H2 := Lib.hid (show Below w.heap.size w w2 from HBW.out.trans (hb2.mono HBW.out.size))
        clear hb2
        go_wp2_with fail
        refine bodyPost_ret (v := .tuple #[.slice none 0 0, .bool false]) (by simp [results, Tryd.results25, go_sem, *]) rfl ?_
        rw [HN.out.1, HN.out.2]
        exact ⟨_, _, _, rfl, Row.nil_, by repeat (first | (with_reducible exact Below.refl _ _) | (with_reducible assumption) | ((with_reducible refine bl_alloc ?_ _ ?_); (focus ((first | omega | (simp <;> omega)); done))) | ((with_reducible refine bl_set ?_ _ ?_); (focus ((first | omega | (simp <;> omega)); done))) | (with_reducible refine below_drewN ?_ _) | (with_reducible refine Below.drew ?_) | ((with_reducible refine bl_trans ?_ H2.out ?_); (focus ((first | omega | (simp <;> omega)); done))))⟩
      | some n =>
        have hv := numV_some hn
        rw [hv.1, hv.2] at HNU
        have hst := Lib.hid (show allO numL (ps.take (k + 1)) = some (xs ++ [n]) by rw [htk.out]; exact allO_snoc hn hall.out)
        have HLE := Lib.hid (show k + 1 ≤ N by omega)
        clear hn hv hbad htk
        go_wp2_with fail
        refine (HNU.out _ HBW.out).mono ?_
        rintro e w2 ⟨rfl, hb2⟩
        have hr2 := Lib.hid (hr.out.later hb2)
        have H2 := Lib.hid (show Below w1.heap.size w1 w2 from hb.out.trans (hb2.mono hb.out.size))
        have z2 := H2.out.size
        clear hb2 hr ck HNU
        go_wp2_with (first | (at_builtin; refine wpList_append_own _ rfl _ _ 22 rfl w1.heap.size 2 i0 (.int .i64 0) 1 8 Tryd.underlying22 HI.out HZ0.out HZ1.out HZ2.out rfl (by decide) _ _ _ rfl (hr2.out.alloc_ _) ⟨w2.heap.size, 0, none⟩ 1 1 [.int .i64 n] rfl rfl ?c1a ?c2a ?c3a ?c4a ?c5a ?_))
        try case c1a =>
          intro j u hj
          match j, hj with
          | 0, hj => simp at hj; subst hj; simp [Addr.add]
        try case c2a => first | rfl | (intro u hu; simp at hu; subst hu; rfl)
        try case c3a => unfold maxLen; (try simp); omega
        try case c4a => (try simp); omega
        try case c5a => first | omega | (simp; omega)
        · intro v' w3 hown hgrow _
          have hr3 : Hid (Row 2 w3 w1.heap.size v' (xs ++ [n])) := app_row (by first | exact hlen | rfl) hown
          have hb3 := app_below (hr2.out.alloc_ _) hgrow (by simp; omega)
          have H3 := Lib.hid (show Below w1.heap.size w1 w3 from (bl_alloc z2 _ H2.out).trans hb3)
          have hl2 := Lib.hid (show (xs ++ [n]).length = k + 1 by simp [hlen])
          clear hown hgrow hb3 hr2
          go_wp2_with fail
          refine ⟨?_, ?_⟩
          · first
              | ((repeat apply Exists.intro); (refine ⟨?_, rfl⟩); exact ⟨(k + 1 : Nat), xs ++ [n], HLE.out, by go_num, hst, hl2.out, hr3, H3⟩)
              | exact ⟨(k + 1 : Nat), xs ++ [n], HLE.out, by go_num, hst, hl2.out, hr3, H3⟩
          · simp [intOf]; omega
    · obtain rfl : k = N := by omega
      have HX := hall.out
      rw [List.take_of_length_le (by rw [HNL.out]; exact Nat.le_refl _)] at HX
      have hform : ∃ A m c, u4 = .slice A m c := by rcases hr.out.forms with ⟨rfl, _⟩ | ⟨g2, cap2, rfl, _⟩ <;> exact ⟨_, _, _, rfl⟩
      obtain ⟨A, m, c, rfl⟩ := hform
      have HBW := Lib.hid (show Below w.heap.size w wr by repeat (first | (with_reducible exact Below.refl _ _) | (with_reducible assumption) | ((with_reducible refine bl_alloc ?_ _ ?_); (focus ((first | omega | (simp <;> omega)); done))) | ((with_reducible refine bl_set ?_ _ ?_); (focus ((first | omega | (simp <;> omega)); done))) | (with_reducible refine below_drewN ?_ _) | (with_reducible refine Below.drew ?_) | ((with_reducible refine bl_trans ?_ hb.out ?_); (focus ((first | omega | (simp <;> omega)); done))) | ((with_reducible refine bl_trans ?_ H1.out ?_); (focus ((first | omega | (simp <;> omega)); done)))))
      rcases HEND.out xs HX with ⟨e1, e2, e3, e4⟩ | ⟨e1, e2, e3, e4⟩
      · have HN := Lib.hid (lst_some e1)
        have HLT := Lib.hid (ListText_any wr (HT.out.pow.below HBW.out) _ xs _ hr.out e3 e4)
        rw [e2, HETA.out] at HLT
        clear HX hall HEND HSTOP e1 e2 e3 e4
        go_wp2_with fail
        refine HLT.out.mono ?_
        rintro e w2 ⟨rfl, hb2⟩
        have hr2 := Lib.hid (hr.out.later hb2)
        have H2 := Lib.hid (show Below w.heap.size w w2 from HBW.out.trans (hb2.mono HBW.out.size))
        clear hb2
        go_wp2_with fail
        refine bodyPost_ret (v := .tuple #[.slice A m c, .bool true]) (by simp [results, Tryd.results25, go_sem, *]) rfl ?_
        rw [HN.out.1, HN.out.2]
        exact ⟨_, _, _, rfl, Row.base_le hr2.out z1, by repeat (first | (with_reducible exact Below.refl _ _) | (with_reducible assumption) | ((with_reducible refine bl_alloc ?_ _ ?_); (focus ((first | omega | (simp <;> omega)); done))) | ((with_reducible refine bl_set ?_ _ ?_); (focus ((first | omega | (simp <;> omega)); done))) | (with_reducible refine below_drewN ?_ _) | (with_reducible refine Below.drew ?_) | ((with_reducible refine bl_trans ?_ H2.out ?_); (focus ((first | omega | (simp <;> omega)); done))))⟩
      · have HN := Lib.hid (lst_none e1)
        have hne : ¬ (⟨#[]⟩ : ByteArray) = s := fun q => e2 (by have h := HSL.out; rw [← q] at h; exact List.eq_nil_of_length_eq_zero h)
        obtain ⟨r1, r2⟩ := str_off hne
        have HLT := Lib.hid (ListText_out wr (HT.out.pow.below HBW.out) _ xs _ hr.out e3 (by omega))
        obtain ⟨es, hes⟩ : ∃ z : ByteArray, z = ⟨#[]⟩ := ⟨_, rfl⟩
        rw [← hes] at HLT r1 r2 hne
        clear HX hall HEND HSTOP e1 e2 e3 e4 hes
        go_wp2_with fail
        refine HLT.out.mono ?_
        rintro e w2 ⟨rfl, hb2⟩
        have H2 := Lib.hid (show Below w.heap.size w w2 from HBW.out.trans (hb2.mono HBW.out.size))
        clear hb2
        go_wp2_with fail
        refine bodyPost_ret (v := .tuple #[.slice none 0 0, .bool false]) (by simp [results, Tryd.results25, go_sem, *]) rfl ?_
        rw [HN.out.1, HN.out.2]
        exact ⟨_, _, _, rfl, Row.nil_, by repeat (first | (with_reducible exact Below.refl _ _) | (with_reducible assumption) | ((with_reducible refine bl_alloc ?_ _ ?_); (focus ((first | omega | (simp <;> omega)); done))) | ((with_reducible refine bl_set ?_ _ ?_); (focus ((first | omega | (simp <;> omega)); done))) | (with_reducible refine below_drewN ?_ _) | (with_reducible refine Below.drew ?_) | ((with_reducible refine bl_trans ?_ H2.out ?_); (focus ((first | omega | (simp <;> omega)); done))))⟩
end Go.Proofs.YtampjgfddakdoaaDoor
