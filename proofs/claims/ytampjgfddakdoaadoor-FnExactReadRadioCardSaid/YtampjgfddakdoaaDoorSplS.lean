/-
  A text divided at each instance of a byte: the reference's. The conditions are the hypotheses.
-/
import Derived.Test.YtampjgfddakdoaaDoorRows
import Derived.Test.YtampjgfddakdoaaDoorLib
import Derived.Test.YtampjgfddakdoaaDoorSplP
import Derived.Test.YtampjgfddakdoaaDoorNumS
import Derived.Test.YtampjgfddakdoaaDoorGRow
import Derived.OwnWalk
import Derived.WalkSpells
import Derived.Outline
namespace Go.Proofs.YtampjgfddakdoaaDoor
open Go.RowKit
set_option linter.unusedSimpArgs false
set_option linter.unusedVariables false
def encL (p : List UInt8) : Value := .string ⟨p.toArray⟩
theorem Tryd.info_strL : (Tryd.prog.info? 9).map (fun i => (i.zero, i.size, i.bytes)) = some (some (.string ⟨#[]⟩), 1, 16) := by kernel_rfl
theorem bytes_eta (s : ByteArray) : (⟨s.data.toList.toArray⟩ : ByteArray) = s := by cases s; simp
theorem ext_list (s : ByteArray) (a b : Nat) : s.extract a b = ⟨((s.data.toList.drop a).take (b - a)).toArray⟩ := by
  have h := ByteArray.extract_mk s.data.toList a b
  rw [bytes_eta] at h
  exact h
/-- The pieces so far, and where the next one begins. -/
def spO (c : UInt8) (L : List UInt8) : Nat → List (List UInt8) × Nat
  | 0 => ([], 0)
  | i + 1 => if L.getD i 0 = c then ((spO c L i).1 ++ [(L.drop (spO c L i).2).take (i - (spO c L i).2)], i + 1) else spO c L i
theorem spO_hit {c : UInt8} {L : List UInt8} {i : Nat} (h : L.getD i 0 = c) : spO c L (i + 1) = ((spO c L i).1 ++ [(L.drop (spO c L i).2).take (i - (spO c L i).2)], i + 1) := if_pos h
theorem spO_miss {c : UInt8} {L : List UInt8} {i : Nat} (h : ¬ L.getD i 0 = c) : spO c L (i + 1) = spO c L i := if_neg h
theorem spO_inv {c : UInt8} {L : List UInt8} : ∀ i, i ≤ L.length → (spO c L i).2 ≤ i ∧ (spO c L i).1 ++ splitL c (L.drop (spO c L i).2) = splitL c L ∧ c ∉ (L.drop (spO c L i).2).take (i - (spO c L i).2) ∧ (spO c L i).1.length ≤ i
  | 0, _ => ⟨Nat.le_refl _, by simp [spO], by simp [spO], by simp [spO]⟩
  | i + 1, h => by
    obtain ⟨h1, h2, h3, h4⟩ := spO_inv (c := c) (L := L) i (by omega)
    have hi : i < L.length := by omega
    have hg : L.getD i 0 = L[i] := by simp [List.getD, hi]
    have hd : (L.drop (spO c L i).2).drop (i - (spO c L i).2) = L[i] :: L.drop (i + 1) := by
      rw [List.drop_drop, show (spO c L i).2 + (i - (spO c L i).2) = i by omega]
      exact List.drop_eq_getElem_cons hi
    have hs : L.drop (spO c L i).2 = (L.drop (spO c L i).2).take (i - (spO c L i).2) ++ L[i] :: L.drop (i + 1) := by
      rw [← hd, List.take_append_drop]
    by_cases hc : L.getD i 0 = c
    · rw [spO_hit hc]
      refine ⟨Nat.le_refl _, ?_, by simp, by simp; omega⟩
      rw [hg] at hc
      rw [hc] at hs
      rw [← h2]
      conv => rhs; rw [hs, splitL_app h3]
      simp
    · rw [spO_miss hc]
      refine ⟨by omega, h2, ?_, by omega⟩
      rw [hg] at hc
      have e : i + 1 - (spO c L i).2 = (i - (spO c L i).2) + 1 := by omega
      rw [e, List.take_add_one, List.mem_append]
      rintro (q | q)
      · exact h3 q
      · rw [List.getElem?_drop, show (spO c L i).2 + (i - (spO c L i).2) = i by omega, List.getElem?_eq_getElem hi] at q
        simp at q
        exact hc q.symm
theorem spO_end {c : UInt8} {L : List UInt8} : (spO c L L.length).1 ++ [L.drop (spO c L L.length).2] = splitL c L := by
  obtain ⟨h1, h2, h3, _⟩ := spO_inv (c := c) (L := L) L.length (Nat.le_refl _)
  rw [List.take_of_length_le (by simp)] at h3
  rw [← h2, splitL_none h3]
theorem getD_byte {s : ByteArray} {k : Nat} (h : k < s.size) : s.data.toList.getD k 0 = s[k]'h := by
  have hl : k < s.data.toList.length := by simpa using h
  simp only [List.getD, List.getElem?_eq_getElem hl, Option.getD_some]
  rfl
set_option maxRecDepth 20000 in
set_option maxHeartbeats 8000000 in
theorem l01Split_any (w : World) (s : ByteArray) (hs : s.size ≤ 1048576) (c : UInt8) (b : Int) (hb : b = (c.toNat : Int)) :
    Calls Tryd.prog 21 #[.string s, .int .u8 b] w fun e w' => ∃ g cap, e = .returned (.slice (some ⟨g, 0, none⟩) (splitL c s.data.toList).length cap) ∧ w.heap.size ≤ g ∧ g < w'.heap.size ∧ (∀ k p, (splitL c s.data.toList)[k]? = some p → w'.cell? ⟨g, k, none⟩ = some (encL p)) ∧ Below w.heap.size w w' := by
  obtain ⟨i0, hi, hz0, hz1, hz2⟩ := info_parts Tryd.info_strL
  have HI := Lib.hid hi
  have HZ0 := Lib.hid hz0
  have HZ1 := Lib.hid hz1
  have HZ2 := Lib.hid hz2
  clear hi hz0 hz1 hz2
  obtain ⟨L, hL⟩ : ∃ L, L = s.data.toList := ⟨_, rfl⟩
  have HL := Lib.hid hL
  have HLN := Lib.hid (show L.length = s.size by rw [hL]; exact size_len s)
  rw [← hL]
  have HINV := Lib.hid (fun i (h : i ≤ s.size) => spO_inv (c := c) (L := L) i (by rw [HLN.out]; exact h))
  have HEND := Lib.hid (spO_end (c := c) (L := L))
  rw [HLN.out] at HEND
  have HEX := Lib.hid (ext_list s)
  rw [← hL] at HEX
  have HB := Lib.hid hb
  clear hL hb
  have z0 : (0 : Int) ≤ (s.size : Int) := Int.natCast_nonneg _
  go_enter Tryd.func21, Tryd.ntmps21
  go_wp2_with fail
  go_loopw [5, 6, 7] (fun t f i wr => ∃ k : Nat, k ≤ s.size ∧ i = .int .i64 (k : Int) ∧ f = .int .i64 ((spO c L k).2 : Int) ∧ Hid (GRow 9 wr w.heap.size t ((spO c L k).1.map encL)) ∧ Hid (Below w.heap.size w wr)) (fun _ _ i _ => s.size + 1 - (intOf i).toNat)
  case atStart => exact ⟨0, Nat.zero_le _, rfl, rfl, (show GRow _ _ _ _ _ from grow0 w _ (Nat.le_refl _)), (show Below _ _ _ by repeat (first | (with_reducible exact Below.refl _ _) | (with_reducible assumption) | ((with_reducible refine bl_alloc ?_ _ ?_); (focus ((first | omega | (simp <;> omega)); done))) | ((with_reducible refine bl_set ?_ _ ?_); (focus ((first | omega | (simp <;> omega)); done))) | (with_reducible refine below_drewN ?_ _) | (with_reducible refine Below.drew ?_)))⟩
  case round =>
    obtain ⟨k, hk, rfl, rfl, hr, hb⟩ := hrel
    have k0 : (0 : Int) ≤ (k : Int) := Int.natCast_nonneg _
    have zw := hb.out.size
    obtain ⟨hf1, hf2, hf3, hf4⟩ := HINV.out k hk
    have HF2 := Lib.hid hf2
    clear hf2 hf3
    by_cases hlt : k < s.size
    · have hlt' : (k : Int) < (s.size : Int) := by omega
      have hgb := getD_byte hlt
      rw [← HL.out] at hgb
      obtain ⟨x, hx⟩ : ∃ x, (s[k]'hlt).toNat = x := ⟨_, rfl⟩
      by_cases hc : s[k]'hlt = c
      · have hst := Lib.hid (spO_hit (c := c) (L := L) (i := k) (by rw [hgb]; exact hc))
        have hxb : (x : Int) = b := by rw [HB.out, ← hx, hc]
        clear hgb hc
        obtain ⟨O, hO⟩ : ∃ O, O = (spO c L k).1 := ⟨_, rfl⟩
        obtain ⟨f, hf⟩ : ∃ f, f = (spO c L k).2 := ⟨_, rfl⟩
        rw [← hO, ← hf] at hst
        rw [← hO] at hr hf4
        rw [← hf] at hf1
        rw [← hf]
        clear hO hf HF2
        have f0 : (0 : Int) ≤ (f : Int) := Int.natCast_nonneg _
        have hf1' : (f : Int) ≤ (k : Int) := by omega
        have hE := Lib.hid (show encL ((L.drop f).take (k - f)) = .string (s.extract f k) by rw [HEX.out]; rfl)
        have hlO : (O.map encL).length = O.length := List.length_map ..
        have HLE := Lib.hid (show k + 1 ≤ s.size by omega)
        have f1 : (f : Int) ≤ (s.size : Int) := by omega
        go_wp2_with (first | (at_builtin; refine wpList_append_own _ rfl _ _ 43 rfl w.heap.size 9 i0 (.string ⟨#[]⟩) 1 16 Tryd.underlying43 HI.out HZ0.out HZ1.out HZ2.out rfl (by decide) _ _ _ rfl (hr.out.alloc_ _) ⟨wr.heap.size, 0, none⟩ 1 1 [.string (s.extract f k)] rfl rfl ?c1a ?c2a ?c3a ?c4a ?c5a ?_))
        try case c1a =>
          intro j u hu
          match j, hu with
          | 0, hu => simp at hu; subst hu; simp [Addr.add]
        try case c2a => first | rfl | (intro u hu; simp at hu; subst hu; rfl)
        try case c3a => (try simp); unfold maxLen; omega
        try case c4a => (try simp); omega
        try case c5a => first | omega | (simp; omega)
        · intro v' w3 hown hgrow _
          have hr3 : Hid (GRow 9 w3 w.heap.size v' ((spO c L (k + 1)).1.map encL)) := by
            show GRow _ _ _ _ _
            rw [hst.out, List.map_append, List.map_cons, List.map_nil, hE.out]
            exact gapp_row (by simp) hown
          have hb3 := gapp_below (hr.out.alloc_ _) hgrow (by simp; omega)
          have H3 := Lib.hid (show Below w.heap.size w w3 from (bl_alloc zw _ hb.out).trans hb3)
          have HF := Lib.hid (show (spO c L (k + 1)).2 = k + 1 by rw [hst.out])
          clear hown hgrow hb3 hr
          go_wp2_with fail
          refine ⟨?_, ?_⟩
          · first
              | ((repeat apply Exists.intro); (refine ⟨?_, rfl⟩); exact ⟨(k + 1 : Nat), HLE.out, by go_num, by rw [HF.out]; go_num, hr3, H3⟩)
              | exact ⟨(k + 1 : Nat), HLE.out, by go_num, by rw [HF.out]; go_num, hr3, H3⟩
          · simp [intOf]; omega
      · have hst := Lib.hid (spO_miss (c := c) (L := L) (i := k) (by rw [hgb]; exact hc))
        have hxb : ¬ (x : Int) = b := fun q => hc (UInt8.toNat_inj.1 (hx.trans (show x = c.toNat by have := HB.out; omega)))
        have hxb2 : ((x : Int) == b) = false := by rw [beq_eq_false_iff_ne]; exact hxb
        have HLE := Lib.hid (show k + 1 ≤ s.size by omega)
        clear hgb hc
        go_wp2_with fail
        refine ⟨?_, ?_⟩
        · first
            | ((repeat apply Exists.intro); (refine ⟨?_, rfl⟩); exact ⟨(k + 1 : Nat), HLE.out, by go_num, by rw [hst.out], by rw [hst.out]; exact hr, hb⟩)
            | exact ⟨(k + 1 : Nat), HLE.out, by go_num, by rw [hst.out], by rw [hst.out]; exact hr, hb⟩
        · simp [intOf]; omega
    · obtain rfl : k = s.size := by omega
      obtain ⟨O, hO⟩ : ∃ O, O = (spO c L s.size).1 := ⟨_, rfl⟩
      obtain ⟨f, hf⟩ : ∃ f, f = (spO c L s.size).2 := ⟨_, rfl⟩
      rw [← hO, ← hf] at HEND
      rw [← hO] at hr hf4
      rw [← hf] at hf1
      rw [← hf]
      clear hO hf HF2
      have f0 : (0 : Int) ≤ (f : Int) := Int.natCast_nonneg _
      have f1 : (f : Int) ≤ (s.size : Int) := by omega
      have hE := Lib.hid (show encL (L.drop f) = .string (s.extract f s.size) by rw [HEX.out, List.take_of_length_le (by rw [List.length_drop, HLN.out]; exact Nat.le_refl _)]; rfl)
      have hlO : (O.map encL).length = O.length := List.length_map ..
      go_wp2_with (first | (at_builtin; refine wpList_append_own _ rfl _ _ 43 rfl w.heap.size 9 i0 (.string ⟨#[]⟩) 1 16 Tryd.underlying43 HI.out HZ0.out HZ1.out HZ2.out rfl (by decide) _ _ _ rfl (hr.out.alloc_ _) ⟨wr.heap.size, 0, none⟩ 1 1 [.string (s.extract f s.size)] rfl rfl ?c1b ?c2b ?c3b ?c4b ?c5b ?_))
      try case c1b =>
        intro j u hu
        match j, hu with
        | 0, hu => simp at hu; subst hu; simp [Addr.add]
      try case c2b => first | rfl | (intro u hu; simp at hu; subst hu; rfl)
      try case c3b => (try simp); unfold maxLen; omega
      try case c4b => (try simp); omega
      try case c5b => first | omega | (simp; omega)
      · intro v' w3 hown hgrow _
        have hr3 : Hid (GRow 9 w3 w.heap.size v' ((splitL c L).map encL)) := by
          show GRow _ _ _ _ _
          rw [← HEND.out, List.map_append, List.map_cons, List.map_nil, hE.out]
          exact gapp_row (by simp) hown
        have hb3 := gapp_below (hr.out.alloc_ _) hgrow (by simp; omega)
        have H3 := Lib.hid (show Below w.heap.size w w3 from (bl_alloc zw _ hb.out).trans hb3)
        clear hown hgrow hb3 hr
        rcases hr3.out.forms with ⟨_, hz⟩ | ⟨g, cap, rfl, gB, gl, _, hcc, _⟩
        · exfalso; have h := congrArg List.length hz; rw [List.length_map, List.length_nil] at h; have := splitL_len c L; omega
        have hlen := Lib.hid (show ((splitL c L).map encL).length = (splitL c L).length from List.length_map ..)
        rw [hlen.out]
        have HCC := Lib.hid hcc
        clear hcc
        go_wp2_with fail
        go_ret
        exact ⟨g, cap, rfl, gB, gl, fun k p hp => HCC.out k _ (by rw [List.getElem?_map, hp]; rfl), H3.out⟩
end Go.Proofs.YtampjgfddakdoaaDoor
