/-
  A list of numbers read off a text: the reference's. The conditions are the hypotheses.
-/
import Derived.Test.YtampjgfddakdoaaDoorRows
import Derived.Test.YtampjgfddakdoaaDoorLib
import Derived.Test.YtampjgfddakdoaaDoorInts
import Derived.Test.YtampjgfddakdoaaDoorOwn
import Derived.Test.YtampjgfddakdoaaDoorWithin
import Derived.Test.YtampjgfddakdoaaDoorNumP
import Derived.Test.YtampjgfddakdoaaDoorNumS
import Derived.Test.YtampjgfddakdoaaDoorSplP
import Derived.Test.YtampjgfddakdoaaDoorSplS
import Derived.Test.YtampjgfddakdoaaDoorRdP
import Derived.OwnWalk
import Derived.Outline
namespace Go.Proofs.YtampjgfddakdoaaDoor
open Go.RowKit
set_option linter.unusedSimpArgs false
set_option linter.unusedVariables false
theorem split_part {c : UInt8} : ∀ {s : List UInt8}, ∀ p ∈ splitL c s, p.length ≤ s.length
  | [], p, h => by simp [splitL] at h; subst h; simp
  | b :: r, p, h => by
    unfold splitL at h
    split at h
    · rcases List.mem_cons.1 h with rfl | h
      · simp
      · have := split_part p h; simp only [List.length_cons]; omega
    · rcases List.mem_cons.1 h with rfl | h
      · have h2 := split_part (c := c) (s := r) ((splitL c r).headD []) (by
          cases hq : splitL c r with
          | nil => exact absurd hq (splitL_ne c r)
          | cons x y => simp)
        simp only [List.length_cons]; omega
      · have := split_part (c := c) (s := r) p (by rw [splitL_eta c r]; exact List.mem_cons_of_mem _ h)
        simp only [List.length_cons]; omega
theorem part_mem {ps : List (List UInt8)} {k : Nat} (h : k < ps.length) : ps.getD k [] ∈ ps ∧ ps[k]? = some (ps.getD k []) := by
  simp only [List.getD, List.getElem?_eq_getElem h, Option.getD_some]
  exact ⟨List.getElem_mem h, trivial⟩
theorem str_no {a b : ByteArray} (h : ¬ a = b) : (a.toList == b.toList) = false ∧ (b.toList == a.toList) = false := by
  have h2 : ¬ a.toList = b.toList := by
    rw [ByteArray.toList_eq, ByteArray.toList_eq]
    intro q
    apply h
    cases a; cases b
    simp at q
    rw [q]
  exact ⟨by simpa using h2, by simpa using fun q => h2 q.symm⟩
def lstV (l : List UInt8) : List Int := (lstM l).getD []
def lstB (l : List UInt8) : Bool := (lstM l).isSome
theorem lst_none {l : List UInt8} (h : lstM l = none) : lstV l = [] ∧ lstB l = false := by simp [lstV, lstB, h]
theorem lst_some {l : List UInt8} {xs : List Int} (h : lstM l = some xs) : lstV l = xs ∧ lstB l = true := by simp [lstV, lstB, h]
theorem take_part {α : Type} {ps : List (List α)} {k : Nat} (h : k < ps.length) : ps.take (k + 1) = ps.take k ++ [ps.getD k []] := by
  rw [List.take_add_one]
  congr 1
  simp [h]
theorem numV_size {p : List UInt8} : (⟨p.toArray⟩ : ByteArray).data.toList = p := by simp
theorem psize (p : List UInt8) : (⟨p.toArray⟩ : ByteArray).size = p.length := by simp [ByteArray.size]
theorem allO_take_len {f : List UInt8 → Option Int} {ps : List (List UInt8)} {k : Nat} {xs : List Int} (hk : k ≤ ps.length) (h : allO f (ps.take k) = some xs) : xs.length = k := by
  have := (allO_some h).1
  rw [List.length_take] at this
  omega
set_option maxRecDepth 20000 in
set_option maxHeartbeats 8000000 in
theorem specReadList_any (w : World) (s : ByteArray) (hs : s.size ≤ 1048576) :
    Calls Tryd.prog 22 #[.string s] w fun e w' => ∃ A n c, e = .returned (.tuple #[.slice A n c, .bool (lstB s.data.toList)]) ∧ Row 2 w' w.heap.size (.slice A n c) (lstV s.data.toList) ∧ Below w.heap.size w w' := by
  obtain ⟨i0, hi, hz0, hz1, hz2⟩ := info_parts Tryd.info_i64
  have HI := Lib.hid hi
  have HZ0 := Lib.hid hz0
  have HZ1 := Lib.hid hz1
  have HZ2 := Lib.hid hz2
  clear hi hz0 hz1 hz2
  by_cases hd : s.data.toList = [45]
  · have HN := Lib.hid (lst_some (l := s.data.toList) (xs := []) (by rw [hd]; exact lstM_dash))
    have q1 : (s.toList == [45]) = true := by rw [ByteArray.toList_eq, hd]; rfl
    have q2 : ([45] == s.toList) = true := by rw [ByteArray.toList_eq, hd]; rfl
    have q3 : s.toList = [45] := by rw [ByteArray.toList_eq, hd]
    clear hd
    go_enter Tryd.func22, Tryd.ntmps22
    go_wp2_with fail
    refine bodyPost_ret (v := .tuple #[.slice (some ⟨w.heap.size, 0, none⟩) 0 0, .bool true]) (by simp [results, Tryd.results22, go_sem, *]) rfl ?_
    rw [HN.out.1, HN.out.2]
    exact ⟨_, _, _, rfl, app_row0 w (Nat.le_refl _), by repeat (first | (with_reducible exact Below.refl _ _) | (with_reducible assumption) | ((with_reducible refine bl_alloc ?_ _ ?_); (focus ((first | omega | (simp <;> omega)); done))) | ((with_reducible refine bl_set ?_ _ ?_); (focus ((first | omega | (simp <;> omega)); done))) | (with_reducible refine below_drewN ?_ _) | (with_reducible refine Below.drew ?_))⟩
  have q1 : (s.toList == [45]) = false := by rw [ByteArray.toList_eq]; simpa using hd
  have q2 : ([45] == s.toList) = false := by rw [ByteArray.toList_eq]; simpa using fun q => hd q.symm
  have q3 : ¬ s.toList = [45] := by rw [ByteArray.toList_eq]; exact hd
  have HD := Lib.hid hd
  clear hd
  have HSP := Lib.hid (fun (W : World) => l01Split_any W s hs 44 44 (by rfl))
  have HPL := Lib.hid (fun p (h : p ∈ splitL 44 s.data.toList) => split_part p h)
  have HSL := Lib.hid (size_len s)
  obtain ⟨L, hL⟩ : ∃ L, L = s.data.toList := ⟨_, rfl⟩
  rw [← hL] at HD HSP HPL HSL ⊢
  clear hL
  have HLONG := Lib.hid (fun h => lst_none (lstM_long HD.out h))
  have HALL := Lib.hid (fun h => lstM_all (s := L) HD.out h)
  obtain ⟨ps, hps⟩ : ∃ p, p = splitL 44 L := ⟨_, rfl⟩
  rw [← hps] at HSP HPL HLONG HALL
  clear hps
  go_enter Tryd.func22, Tryd.ntmps22
  go_wp2_with fail
  refine (HSP.out _).mono ?_
  rintro e w1 ⟨g, cap, rfl, gB, gl, hcc, hb1⟩
  have H1 := Lib.hid (show Below w.heap.size w w1 by repeat (first | (with_reducible exact Below.refl _ _) | (with_reducible assumption) | ((with_reducible refine bl_alloc ?_ _ ?_); (focus ((first | omega | (simp <;> omega)); done))) | ((with_reducible refine bl_set ?_ _ ?_); (focus ((first | omega | (simp <;> omega)); done))) | (with_reducible refine below_drewN ?_ _) | (with_reducible refine Below.drew ?_) | ((with_reducible refine bl_trans ?_ hb1 ?_); (focus ((first | omega | (simp <;> omega)); done)))))
  have HCC := Lib.hid hcc
  have z1 := H1.out.size
  clear hcc hb1 HSP
  obtain ⟨N, hN⟩ : ∃ N, N = ps.length := ⟨_, rfl⟩
  have HNL := Lib.hid hN.symm
  rw [← hN] at HLONG HALL ⊢
  clear hN
  have n0 : (0 : Int) ≤ (N : Int) := Int.natCast_nonneg _
  by_cases h64 : 64 < N
  · have HN := Lib.hid (HLONG.out h64)
    have h64' : (64 : Int) < (N : Int) := by omega
    clear HLONG HALL
    go_wp2_with fail
    refine bodyPost_ret (v := .tuple #[.slice none 0 0, .bool false]) (by simp [results, Tryd.results22, go_sem, *]) rfl ?_
    rw [HN.out.1, HN.out.2]
    exact ⟨_, _, _, rfl, Row.nil_, by repeat (first | (with_reducible exact Below.refl _ _) | (with_reducible assumption) | ((with_reducible refine bl_alloc ?_ _ ?_); (focus ((first | omega | (simp <;> omega)); done))) | ((with_reducible refine bl_set ?_ _ ?_); (focus ((first | omega | (simp <;> omega)); done))) | (with_reducible refine below_drewN ?_ _) | (with_reducible refine Below.drew ?_) | ((with_reducible refine bl_trans ?_ H1.out ?_); (focus ((first | omega | (simp <;> omega)); done))))⟩
  have h64' : (N : Int) ≤ 64 := by omega
  have HAL := Lib.hid (HALL.out (by omega))
  clear HLONG HALL
  go_wp2_with fail
  go_loopw [5, 6] (fun t i wr => ∃ (k : Nat) (xs : List Int), k ≤ N ∧ i = .int .i64 (k : Int) ∧ Hid (allO numR (ps.take k) = some xs) ∧ xs.length = k ∧ Hid (Row 2 wr w1.heap.size t xs) ∧ Hid (Below w1.heap.size w1 wr)) (fun _ i _ => N + 1 - (intOf i).toNat)
  case atStart => exact ⟨0, [], Nat.zero_le _, rfl, (show allO numR (ps.take 0) = some [] by rw [List.take_zero]; rfl), rfl, (show Row _ _ _ _ _ from app_row0 w1 (Nat.le_refl _)), (show Below _ _ _ by repeat (first | (with_reducible exact Below.refl _ _) | (with_reducible assumption) | ((with_reducible refine bl_alloc ?_ _ ?_); (focus ((first | omega | (simp <;> omega)); done))) | ((with_reducible refine bl_set ?_ _ ?_); (focus ((first | omega | (simp <;> omega)); done))) | (with_reducible refine below_drewN ?_ _) | (with_reducible refine Below.drew ?_)))⟩
  case round =>
    obtain ⟨k, xs, hk, rfl, hall, hlen, hr, hb⟩ := hrel
    have k0 : (0 : Int) ≤ (k : Int) := Int.natCast_nonneg _
    have zw := hb.out.size
    by_cases hlt : k < N
    · have hlt' : (k : Int) < (N : Int) := by omega
      have hm := part_mem (ps := ps) (k := k) (by rw [HNL.out]; exact hlt)
      have ck := (hb.out.cell (p := ⟨g, k, none⟩) gl).trans (HCC.out k _ hm.2)
      have hpl := HPL.out _ hm.1
      have htk := Lib.hid (take_part (ps := ps) (k := k) (by rw [HNL.out]; exact hlt))
      have hbad := Lib.hid (fun (h : numR (ps.getD k []) = none) => lst_none (HAL.out.trans (allO_none hm.1 h)))
      obtain ⟨p, hp⟩ : ∃ p, p = ps.getD k [] := ⟨_, rfl⟩
      rw [← hp] at ck hpl htk hbad
      clear hm hp
      have hpz : (⟨p.toArray⟩ : ByteArray).size ≤ 1048576 := by rw [psize]; have := HSL.out; omega
      have HNU : Hid (∀ W : World, Calls Tryd.prog 30 #[.string ⟨p.toArray⟩] W fun e w' => e = .returned (.tuple #[.int .i64 (numV p), .bool (numB p)]) ∧ W = w') := fun W => by have h := l01Number_any W ⟨p.toArray⟩ (by omega); rw [numV_size] at h; exact h.mono fun e w' q => ⟨q.1, q.2.symm⟩
      obtain ⟨ep, hep⟩ : ∃ ep : ByteArray, ep = ⟨p.toArray⟩ := ⟨_, rfl⟩
      have hee : encL p = .string ep := by rw [hep]; rfl
      rw [hee] at ck
      rw [← hep] at HNU
      clear hee hep hpz hpl
      cases hn : numL p with
      | none =>
        have hv := numV_none hn
        rw [hv.1, hv.2] at HNU
        have HN := Lib.hid (hbad.out (numR_none hn))
        clear hn hv hbad
        go_wp2_with fail
        refine (HNU.out _).mono ?_
        rintro e w2_ ⟨rfl, rfl⟩
        go_wp2_with fail
        refine bodyPost_ret (v := .tuple #[.slice none 0 0, .bool false]) (by simp [results, Tryd.results22, go_sem, *]) rfl ?_
        rw [HN.out.1, HN.out.2]
        exact ⟨_, _, _, rfl, Row.nil_, by repeat (first | (with_reducible exact Below.refl _ _) | (with_reducible assumption) | ((with_reducible refine bl_alloc ?_ _ ?_); (focus ((first | omega | (simp <;> omega)); done))) | ((with_reducible refine bl_set ?_ _ ?_); (focus ((first | omega | (simp <;> omega)); done))) | (with_reducible refine below_drewN ?_ _) | (with_reducible refine Below.drew ?_) | ((with_reducible refine bl_trans ?_ hb.out ?_); (focus ((first | omega | (simp <;> omega)); done))) | ((with_reducible refine bl_trans ?_ H1.out ?_); (focus ((first | omega | (simp <;> omega)); done))))⟩
      | some n =>
        have hv := numV_some hn
        rw [hv.1, hv.2] at HNU
        by_cases hin : -1000000000000 ≤ n ∧ n ≤ 1000000000000
        · have HIN := Lib.hid (inB_yes hin.1 hin.2)
          have hst := Lib.hid (show allO numR (ps.take (k + 1)) = some (xs ++ [n]) by rw [htk.out]; exact allO_snoc (numR_of hn hin.1 hin.2) hall.out)
          have HLE := Lib.hid (show k + 1 ≤ N by omega)
          clear hn hv hbad hin htk
          go_wp2_with fail
          refine (HNU.out _).mono ?_
          rintro e w2_ ⟨rfl, rfl⟩
          go_wp2_with fail
          refine (l00In_any _ n (-1000000000000) 1000000000000).mono ?_
          rintro e w3_ ⟨he, rfl⟩
          rw [HIN.out] at he
          subst he
          clear ck HNU
          go_wp2_with (first | (at_builtin; refine wpList_append_own _ rfl _ _ 22 rfl w1.heap.size 2 i0 (.int .i64 0) 1 8 Tryd.underlying22 HI.out HZ0.out HZ1.out HZ2.out rfl (by decide) _ _ _ rfl (hr.out.alloc_ _) ⟨wr.heap.size, 0, none⟩ 1 1 [.int .i64 n] rfl rfl ?c1a ?c2a ?c3a ?c4a ?c5a ?_))
          try case c1a =>
            intro j u hj
            match j, hj with
            | 0, hj => simp at hj; subst hj; simp [Addr.add]
          try case c2a => first | rfl | (intro u hu; simp at hu; subst hu; rfl)
          try case c3a => unfold maxLen; (try simp); omega
          try case c4a => (try simp); omega
          try case c5a => first | omega | (simp; omega)
          · intro v' w3 hown hgrow _
            have hr3 : Hid (Row 2 w3 w1.heap.size v' (xs ++ [n])) := app_row (by first | exact hlen | rfl) hown
            have hb3 := app_below (hr.out.alloc_ _) hgrow (by simp; omega)
            have H3 := Lib.hid (show Below w1.heap.size w1 w3 from (bl_alloc zw _ hb.out).trans hb3)
            have hl2 := Lib.hid (show (xs ++ [n]).length = k + 1 by simp [hlen])
            clear hown hgrow hb3 hr
            go_wp2_with fail
            refine ⟨?_, ?_⟩
            · first
                | ((repeat apply Exists.intro); (refine ⟨?_, rfl⟩); exact ⟨(k + 1 : Nat), xs ++ [n], HLE.out, by go_num, hst, hl2.out, hr3, H3⟩)
                | exact ⟨(k + 1 : Nat), xs ++ [n], HLE.out, by go_num, hst, hl2.out, hr3, H3⟩
            · simp [intOf]; omega
        · have HIN := Lib.hid (inB_no hin)
          have HN := Lib.hid (hbad.out (numR_out hn hin))
          clear hn hv hbad hin
          go_wp2_with fail
          refine (HNU.out _).mono ?_
          rintro e w2_ ⟨rfl, rfl⟩
          go_wp2_with fail
          refine (l00In_any _ n (-1000000000000) 1000000000000).mono ?_
          rintro e w3_ ⟨he, rfl⟩
          rw [HIN.out] at he
          subst he
          go_wp2_with fail
          refine bodyPost_ret (v := .tuple #[.slice none 0 0, .bool false]) (by simp [results, Tryd.results22, go_sem, *]) rfl ?_
          rw [HN.out.1, HN.out.2]
          exact ⟨_, _, _, rfl, Row.nil_, by repeat (first | (with_reducible exact Below.refl _ _) | (with_reducible assumption) | ((with_reducible refine bl_alloc ?_ _ ?_); (focus ((first | omega | (simp <;> omega)); done))) | ((with_reducible refine bl_set ?_ _ ?_); (focus ((first | omega | (simp <;> omega)); done))) | (with_reducible refine below_drewN ?_ _) | (with_reducible refine Below.drew ?_) | ((with_reducible refine bl_trans ?_ hb.out ?_); (focus ((first | omega | (simp <;> omega)); done))) | ((with_reducible refine bl_trans ?_ H1.out ?_); (focus ((first | omega | (simp <;> omega)); done))))⟩
    · obtain rfl : k = N := by omega
      have HX := hall.out
      rw [List.take_of_length_le (by rw [HNL.out]; exact Nat.le_refl _)] at HX
      have HN := Lib.hid (lst_some (HAL.out.trans HX))
      have hform : ∃ A m c, u5 = .slice A m c := by rcases hr.out.forms with ⟨rfl, _⟩ | ⟨g2, cap2, rfl, _⟩ <;> exact ⟨_, _, _, rfl⟩
      obtain ⟨A, m, c, rfl⟩ := hform
      clear HX hall
      go_wp2_with fail
      refine bodyPost_ret (v := .tuple #[.slice A m c, .bool true]) (by simp [results, Tryd.results22, go_sem, *]) rfl ?_
      rw [HN.out.1, HN.out.2]
      exact ⟨_, _, _, rfl, Row.base_le hr.out z1, by repeat (first | (with_reducible exact Below.refl _ _) | (with_reducible assumption) | ((with_reducible refine bl_alloc ?_ _ ?_); (focus ((first | omega | (simp <;> omega)); done))) | ((with_reducible refine bl_set ?_ _ ?_); (focus ((first | omega | (simp <;> omega)); done))) | (with_reducible refine below_drewN ?_ _) | (with_reducible refine Below.drew ?_) | ((with_reducible refine bl_trans ?_ hb.out ?_); (focus ((first | omega | (simp <;> omega)); done))) | ((with_reducible refine bl_trans ?_ H1.out ?_); (focus ((first | omega | (simp <;> omega)); done))))⟩
end Go.Proofs.YtampjgfddakdoaaDoor
