/-
  Contract of the reference's decimal form of a number: the library's own. The conditions are the hypotheses.
-/
import Derived.Test.YtboglgkaelbdcaaDoorRows
import Derived.Test.YtboglgkaelbdcaaDoorLib
import Derived.Test.YtboglgkaelbdcaaDoorGRow
import Derived.Lib.ItoaMem
import Derived.Laws.IdiomStrings
import Derived.Outline
namespace Go.Proofs.YtboglgkaelbdcaaDoor
open Go.RowKit
set_option linter.unusedSimpArgs false
set_option linter.unusedVariables false
/-- The digits of a number, none for 0. -/
def digP (m : Nat) : List UInt8 := if m = 0 then [] else Lib.decDigits m
theorem digP_zero : digP 0 = [] := if_pos rfl
theorem digP_pos {m : Nat} (h : 0 < m) : digP m = Lib.decDigits m := if_neg (by omega)
theorem digP_step {m : Nat} (h : 0 < m) : digP m = digP (m / 10) ++ [UInt8.ofNat (48 + m % 10)] := by
  rw [digP_pos h]
  by_cases h10 : m < 10
  · have h0 : m / 10 = 0 := by omega
    rw [h0, digP_zero, Lib.decDigits, dif_pos h10, Nat.mod_eq_of_lt h10]
    rfl
  · rw [digP_pos (by omega)]
    conv => lhs; rw [Lib.decDigits, dif_neg h10]
theorem digP_len : ∀ (k m : Nat), m < 10 ^ k → (digP m).length ≤ k
  | 0, m, h => by
    have : m = 0 := by simpa using h
    rw [this, digP_zero]
    exact Nat.le_refl _
  | k + 1, m, h => by
    by_cases h0 : m = 0
    · rw [h0, digP_zero]; exact Nat.zero_le _
    · rw [digP_step (by omega), List.length_append]
      have := digP_len k (m / 10) (by rw [Nat.pow_succ] at h; omega)
      simp
      omega
theorem take_next (bs : List UInt8) {k : Nat} (h : k < bs.length) : bs.reverse.take (k + 1) = bs.reverse.take k ++ [bs.getD (bs.length - 1 - k) 0] := by
  rw [List.take_add_one]
  congr 1
  rw [List.getElem?_reverse h]
  simp [List.getElem?_eq_getElem (show bs.length - 1 - k < bs.length by omega)]
theorem Tryd.info_u8 : (Tryd.prog.info? 5).map (fun i => (i.zero, i.size, i.bytes)) = some (some (.int .u8 0), 1, 1) := by kernel_rfl
set_option maxRecDepth 20000 in
set_option maxHeartbeats 4000000 in
theorem l01Dec_pos (w : World) (u : Nat) (h0 : 0 < u) (h1 : u < 10 ^ 18) :
    Calls Tryd.prog 40 #[.int .i64 ((u : Int))] w fun e w' => e = .returned (.string ⟨(digP u).toArray⟩) ∧ Below w.heap.size w w' := by
  have hD := digP_len 18 u h1
  have h1' : u < 1000000000000000000 := by simpa using h1
  clear h1
  obtain ⟨R, hR⟩ : ∃ R, R = (digP u) := ⟨_, rfl⟩
  rw [← hR]
  have HR := Lib.hid hR
  clear hR
  have hn0 : ¬ ((u : Int) < 0) := by omega
  have hn1 : (0 : Int) < (u : Int) := by omega
  have b0 : (((u : Int)) == 0) = false := by rw [beq_eq_false_iff_ne]; omega
  obtain ⟨i0, hi, hz0, hz1, hz2⟩ := info_parts Tryd.info_u8
  have HI := Lib.hid hi
  have HZ0 := Lib.hid hz0
  have HZ1 := Lib.hid hz1
  have HZ2 := Lib.hid hz2
  clear hi hz0 hz1 hz2
  go_enter Tryd.func40, Tryd.ntmps40
  go_wp2_with fail
  go_loopw [3, 4] (fun t v wr => ∃ (m : Nat) (ds : List UInt8), v = .int .i64 ((m : Int)) ∧ m ≤ u ∧ Hid (GRow 5 wr w.heap.size t (ds.map encB)) ∧ Hid (digP u = digP m ++ ds.reverse) ∧ Hid (Below w.heap.size w wr)) (fun _ v _ => (intOf v).natAbs)
  case atStart => exact ⟨u, [], rfl, Nat.le_refl _, grow0 w 5 (Nat.le_refl _), (by simp [Hid]), (show Below _ _ _ by repeat (first | (with_reducible exact Below.refl _ _) | (with_reducible assumption) | ((with_reducible refine bl_alloc ?_ _ ?_); (focus ((first | omega | (simp <;> omega)); done))) | ((with_reducible refine bl_set ?_ _ ?_); (focus ((first | omega | (simp <;> omega)); done))) | (with_reducible refine below_drewN ?_ _) | (with_reducible refine Below.drew ?_)))⟩
  case round =>
    obtain ⟨m, ds, rfl, hm, hr, hd, hb⟩ := hrel
    have zw : w.heap.size ≤ wr.heap.size := hb.out.size
    have hlen : (digP m).length + ds.length ≤ 18 := by
      have h := hd.out
      have h2 := congrArg List.length h
      rw [List.length_append, List.length_reverse] at h2
      omega
    by_cases hm0 : 0 < m
    · obtain ⟨d, hdd⟩ : ∃ d, d = m % 10 := ⟨_, rfl⟩
      obtain ⟨q, hq⟩ : ∃ q, q = m / 10 := ⟨_, rfl⟩
      have d1 : d < 10 := by omega
      have hqm : q < m := by omega
      have hmd : m = 10 * q + d := by omega
      have hs := digP_step hm0
      rw [← hdd, ← hq] at hs
      have hl2 : (digP m).length = (digP q).length + 1 := by rw [hs]; simp
      have hd' : Hid (digP u = digP q ++ (ds ++ [UInt8.ofNat (48 + d)]).reverse) := by
        show _ = _
        rw [hd.out, hs]
        simp
      obtain ⟨x, hx⟩ : ∃ x : Int, x = (m : Int) := ⟨_, rfl⟩
      obtain ⟨dI, hdI⟩ : ∃ x : Int, x = (d : Int) := ⟨_, rfl⟩
      obtain ⟨qI, hqI⟩ : ∃ x : Int, x = (q : Int) := ⟨_, rfl⟩
      rw [← hx]
      have hxd : x = 10 * qI + dI := by omega
      have m0' : 0 < x := by omega
      have m1' : x < 1000000000000000000 := by omega
      have d0' : 0 ≤ dI := by omega
      have d1' : dI < 10 := by omega
      have q0' : 0 ≤ qI := by omega
      have q1' : qI < x := by omega
      have HE : Hid (encB (UInt8.ofNat (48 + d)) = .int .u8 (48 + dI)) := by rw [hdI]; exact encB_digit d1
      have HQ := Lib.hid hqI
      have hqu : q ≤ u := by omega
      have hlm : (ds.map encB).length ≤ 17 := by rw [List.length_map]; omega
      have hlm2 : ds.length ≤ 17 := by omega
      clear hdd hq hs hmd hd hlen hl2 hqm hx hdI hqI d1 hm hm0
      have e1 : (x).tmod 10 = dI := by
        rw [Int.tmod_eq_emod_of_nonneg (by omega)]
        omega
      have e2 : (x).tdiv 10 = qI := by
        rw [Int.tdiv_eq_ediv_of_nonneg (by omega)]
        omega
      have e3 : x % 10 = dI := by omega
      have e4 : x / 10 = qI := by omega
      have b1 : ((x) != 0) = true := by rw [bne_iff_ne]; omega
      clear hxd
      go_wp2_with (first | (at_builtin; refine wpList_append_own _ rfl _ _ 103 rfl w.heap.size 5 i0 (.int .u8 0) 1 1 Tryd.underlying103 HI.out HZ0.out HZ1.out HZ2.out rfl (by decide) _ _ _ rfl (hr.out.alloc_ _) ⟨wr.heap.size, 0, none⟩ 1 1 [.int .u8 (48 + dI)] rfl rfl ?c1 ?c2 ?c3 ?c4 ?c5 ?_))
      case c1 =>
        intro j u hu
        match j, hu with
        | 0, hu => simp at hu; subst hu; simp [Addr.add]
      case c2 => intro u hu; simp at hu; subst hu; rfl
      case c3 => (try simp); unfold maxLen; omega
      case c4 => (try simp); omega
      case c5 => simp; omega
      · intro v' w3 hown hgrow _
        have hr3 : Hid (GRow 5 w3 w.heap.size v' ((ds ++ [UInt8.ofNat (48 + d)]).map encB)) := by
          show GRow _ _ _ _ _
          rw [List.map_append, List.map_cons, List.map_nil, HE.out]
          exact gapp_row (by first | rfl | simp) hown
        have hb3 := gapp_below (hr.out.alloc_ _) hgrow (by simp; omega)
        have H3 := Lib.hid (show Below w.heap.size w w3 from (bl_alloc zw _ hb.out).trans hb3)
        clear hown hgrow hb3 hr hb
        go_wp2
        refine ⟨?_, ?_⟩
        · first
            | ((repeat apply Exists.intro); (refine ⟨?_, rfl⟩); exact ⟨q, ds ++ [UInt8.ofNat (48 + d)], by rw [HQ.out], hqu, hr3, hd', H3⟩)
            | exact ⟨q, ds ++ [UInt8.ofNat (48 + d)], by rw [HQ.out], hqu, hr3, hd', H3⟩
            | exact ⟨q, HQ.out, hqu, ds ++ [UInt8.ofNat (48 + d)], hr3, hd', H3⟩
        · simp [intOf]; omega
    · have hm1 : m = 0 := by omega
      have hmI : (m : Int) = 0 := by omega
      rw [hm1, digP_zero, List.nil_append] at hd
      rw [hm1, digP_zero] at hlen
      simp only [List.length_nil, Nat.zero_add] at hlen
      have hbs : Hid (R = ds.reverse) := by
        show _ = _
        rw [HR.out, hd.out]
      clear hd hm hm0 hm1
      have hlm : (ds.map encB).length ≤ 18 := by rw [List.length_map]; simpa using hlen
      have hr4 := hr
      have H4 := hb
      obtain ⟨w4, hw4⟩ : ∃ w4, w4 = wr := ⟨_, rfl⟩
      rw [← hw4] at hr4 H4 ⊢
      clear hw4 hr hb
      obtain ⟨xs, hxs⟩ : ∃ xs, xs = ds := ⟨_, rfl⟩
      have hlx : xs.length ≤ 19 ∧ 0 < xs.length := by
        rw [hxs]
        rw [List.length_map] at hlm
        have h := congrArg List.length hbs.out
        rw [HR.out, List.length_reverse, digP_step h0, List.length_append] at h
        simp at h
        omega
      rw [← hxs] at hr4 hbs
      clear hxs hlm hlen
      obtain ⟨hl1, hl0⟩ := hlx
      rcases hr4.out.forms with ⟨_, hz⟩ | ⟨g, cap, rfl, gB, gl, gc', hc, _⟩
      · exfalso
        have := congrArg List.length hz
        rw [List.length_map] at this
        simp at this
        rw [this] at hl0
        simp at hl0
      have hcb : Hid (∀ k, k < xs.length → w4.cell? ⟨g, k, none⟩ = some (encB (xs.getD k 0))) := fun k hk => hc k _ (by rw [List.getElem?_map, List.getElem?_eq_getElem hk]; simp [hk])
      have hcap : xs.length ≤ cap := by rw [List.length_map] at gc'; exact gc'
      rw [List.length_map] at *
      clear hc hr4 gc'
      have zw4 : w.heap.size ≤ w4.heap.size := H4.out.size
      obtain ⟨n, hn⟩ : ∃ n, n = xs.length := ⟨_, rfl⟩
      have HN := Lib.hid hn
      rw [← hn] at hl1 hl0 hcb hcap ⊢
      clear hn
      have n0 : (0 : Int) < (n : Int) := by omega
      have n1 : (n : Int) ≤ 19 := by omega
      go_wp2_with fail
      clear hmI
      go_loopw [6, 7] (fun t v wr => ∃ k : Nat, k ≤ n ∧ v = .int .i64 ((n : Int) - 1 - (k : Int)) ∧ Hid (GRow 5 wr w4.heap.size t ((xs.reverse.take k).map encB)) ∧ Hid (Below w4.heap.size w4 wr)) (fun _ v _ => ((intOf v) + 1).toNat)
      case atStart => exact ⟨0, Nat.zero_le _, by simp, grow0 w4 5 (Nat.le_refl _), (show Below _ _ _ by repeat (first | (with_reducible exact Below.refl _ _) | (with_reducible assumption) | ((with_reducible refine bl_alloc ?_ _ ?_); (focus ((first | omega | (simp <;> omega)); done))) | ((with_reducible refine bl_set ?_ _ ?_); (focus ((first | omega | (simp <;> omega)); done))) | (with_reducible refine below_drewN ?_ _) | (with_reducible refine Below.drew ?_)))⟩
      case round =>
        obtain ⟨k, hk, rfl, hr, hb⟩ := hrel
        have z4 : w4.heap.size ≤ wr.heap.size := hb.out.size
        by_cases hlt : k < n
        · have hst := take_next xs (k := k) (by have := HN.out; omega)
          rw [← HN.out] at hst
          obtain ⟨j, hj⟩ : ∃ j : Nat, j = n - 1 - k := ⟨_, rfl⟩
          rw [← hj] at hst
          have hji : (n : Int) - 1 - (k : Int) = (j : Int) := by omega
          have cj := (hb.out.cell (p := ⟨g, j, none⟩) gl).trans (hcb.out j (by omega))
          unfold encB at cj
          have hlk : ((xs.reverse.take k).map encB).length = k := by rw [List.length_map, List.length_take, List.length_reverse, ← HN.out]; omega
          have hst' : Hid ((xs.reverse.take (k + 1)).map encB = (xs.reverse.take k).map encB ++ [.int .u8 ((xs.getD j 0).toNat : Int)]) := by
            show _ = _
            rw [hst, List.map_append]
            rfl
          have hbt : (0 : Int) ≤ ((xs.getD j 0).toNat : Int) ∧ ((xs.getD j 0).toNat : Int) < 256 := by have := (xs.getD j 0).toNat_lt; omega
          obtain ⟨us, hus⟩ : ∃ us, us = (xs.reverse.take k).map encB := ⟨_, rfl⟩
          rw [← hus] at hr hlk hst'
          clear hus hst
          obtain ⟨bb, hbb⟩ : ∃ bb, bb = ((xs.getD j 0).toNat : Int) := ⟨_, rfl⟩
          rw [← hbb] at cj hst' hbt
          clear hbb
          rw [hji]
          have j0 : (0 : Int) ≤ (j : Int) := by omega
          have j1 : (j : Int) < (n : Int) := by omega
          have hlk' : us.length ≤ 18 := by omega
          have HJ2 := Lib.hid (show (j : Int) - 1 = (n : Int) - 1 - ((k + 1 : Nat) : Int) by omega)
          have HLE := Lib.hid (show k + 1 ≤ n by omega)
          have HM := Lib.hid (show ((j : Int) - 1 + 1).toNat < ((j : Int) + 1).toNat by omega)
          clear hj hji
          go_wp2_with (first | (at_builtin; refine wpList_append_own _ rfl _ _ 103 rfl w4.heap.size 5 i0 (.int .u8 0) 1 1 Tryd.underlying103 HI.out HZ0.out HZ1.out HZ2.out rfl (by decide) _ _ _ rfl (hr.out.alloc_ _) ⟨wr.heap.size, 0, none⟩ 1 1 [.int .u8 bb] rfl rfl ?c1 ?c2 ?c3 ?c4 ?c5 ?_))
          case c1 =>
            intro j u hu
            match j, hu with
            | 0, hu => simp at hu; subst hu; simp [Addr.add]
          case c2 => intro u hu; simp at hu; subst hu; rfl
          case c3 => (try simp); unfold maxLen; omega
          case c4 => (try simp); omega
          case c5 => simp; omega
          · intro v' w5 hown hgrow _
            have hr5 : Hid (GRow 5 w5 w4.heap.size v' ((xs.reverse.take (k + 1)).map encB)) := by
              show GRow _ _ _ _ _
              rw [hst'.out]
              exact gapp_row hlk hown
            have hb5 := gapp_below (hr.out.alloc_ _) hgrow (by simp; omega)
            have H5 := Lib.hid (show Below w4.heap.size w4 w5 from (bl_alloc z4 _ hb.out).trans hb5)
            clear hown hgrow hb5 hr hb cj
            go_wp2
            refine ⟨?_, ?_⟩
            · first
                | ((repeat apply Exists.intro); (refine ⟨?_, rfl⟩); exact ⟨k + 1, HLE.out, by rw [HJ2.out], hr5, H5⟩)
                | exact ⟨k + 1, HLE.out, by rw [HJ2.out], hr5, H5⟩
                | exact ⟨(k + 1 : Nat), HLE.out, HJ2.out, hr5, H5⟩
            · simp [intOf]
        · obtain rfl : n = k := by omega
          have hfull : Hid (GRow 5 wr w4.heap.size u6 (xs.reverse.map encB)) := by
            have h := hr.out
            rw [List.take_of_length_le (by rw [List.length_reverse]; exact Nat.le_of_eq HN.out.symm)] at h
            exact h
          clear hr
          have hneg : (n : Int) - 1 - (n : Int) = -1 := by omega
          rw [hneg]
          rcases hfull.out.forms with ⟨_, hz⟩ | ⟨g2, cap2, rfl, _, gl2, _, hc2, _⟩
          · exfalso
            have h := congrArg List.length hz
            rw [List.length_map, List.length_reverse, ← HN.out] at h
            simp at h
            omega
          have HBK := Lib.hid (run_convert_bytes_back (P := Tryd.prog) wr 103 9 5 ⟨g2, 0, none⟩ cap2 xs.reverse Tryd.underlying103 Tryd.underlying5 Tryd.underlying9 (fun j hj => by
            have hadd : (⟨g2, 0, none⟩ : Addr).add j = ⟨g2, j, none⟩ := by unfold Addr.add; split <;> simp_all
            rw [hadd]
            refine (hc2 j _ (by rw [List.getElem?_map, List.getElem?_eq_getElem hj]; rfl)).trans ?_
            rfl))
          rw [← hbs.out] at HBK
          have hlr : (xs.reverse.map encB).length = R.length := by rw [List.length_map, ← hbs.out]
          rw [hlr]
          clear hlr hc2 hfull hcb
          have HBK' := HBK.out
          go_wp2_with fail
          go_ret
          exact ⟨rfl, by repeat (first | (with_reducible exact Below.refl _ _) | (with_reducible assumption) | ((with_reducible refine bl_alloc ?_ _ ?_); (focus ((first | omega | (simp <;> omega)); done))) | ((with_reducible refine bl_set ?_ _ ?_); (focus ((first | omega | (simp <;> omega)); done))) | (with_reducible refine below_drewN ?_ _) | (with_reducible refine Below.drew ?_) | ((with_reducible refine bl_trans ?_ hb.out ?_); (focus ((first | omega | (simp <;> omega)); done))) | ((with_reducible refine bl_trans ?_ H4.out ?_); (focus ((first | omega | (simp <;> omega)); done))))⟩
set_option maxRecDepth 20000 in
set_option maxHeartbeats 4000000 in
theorem l01Dec_neg (w : World) (u : Nat) (h0 : 0 < u) (h1 : u < 10 ^ 18) :
    Calls Tryd.prog 40 #[.int .i64 (-(u : Int))] w fun e w' => e = .returned (.string ⟨(45 :: digP u).toArray⟩) ∧ Below w.heap.size w w' := by
  have hD := digP_len 18 u h1
  have h1' : u < 1000000000000000000 := by simpa using h1
  clear h1
  obtain ⟨R, hR⟩ : ∃ R, R = (45 :: digP u) := ⟨_, rfl⟩
  rw [← hR]
  have HR := Lib.hid hR
  clear hR
  have hn0 : -(u : Int) < 0 := by omega
  have hn1 : (0 : Int) < (u : Int) := by omega
  have b0 : ((-(u : Int)) == 0) = false := by rw [beq_eq_false_iff_ne]; omega
  obtain ⟨i0, hi, hz0, hz1, hz2⟩ := info_parts Tryd.info_u8
  have HI := Lib.hid hi
  have HZ0 := Lib.hid hz0
  have HZ1 := Lib.hid hz1
  have HZ2 := Lib.hid hz2
  clear hi hz0 hz1 hz2
  go_enter Tryd.func40, Tryd.ntmps40
  go_wp2_with fail
  go_loopw [3, 4] (fun t v wr => ∃ (m : Nat) (ds : List UInt8), v = .int .i64 (-(m : Int)) ∧ m ≤ u ∧ Hid (GRow 5 wr w.heap.size t (ds.map encB)) ∧ Hid (digP u = digP m ++ ds.reverse) ∧ Hid (Below w.heap.size w wr)) (fun _ v _ => (intOf v).natAbs)
  case atStart => exact ⟨u, [], rfl, Nat.le_refl _, grow0 w 5 (Nat.le_refl _), (by simp [Hid]), (show Below _ _ _ by repeat (first | (with_reducible exact Below.refl _ _) | (with_reducible assumption) | ((with_reducible refine bl_alloc ?_ _ ?_); (focus ((first | omega | (simp <;> omega)); done))) | ((with_reducible refine bl_set ?_ _ ?_); (focus ((first | omega | (simp <;> omega)); done))) | (with_reducible refine below_drewN ?_ _) | (with_reducible refine Below.drew ?_)))⟩
  case round =>
    obtain ⟨m, ds, rfl, hm, hr, hd, hb⟩ := hrel
    have zw : w.heap.size ≤ wr.heap.size := hb.out.size
    have hlen : (digP m).length + ds.length ≤ 18 := by
      have h := hd.out
      have h2 := congrArg List.length h
      rw [List.length_append, List.length_reverse] at h2
      omega
    by_cases hm0 : 0 < m
    · obtain ⟨d, hdd⟩ : ∃ d, d = m % 10 := ⟨_, rfl⟩
      obtain ⟨q, hq⟩ : ∃ q, q = m / 10 := ⟨_, rfl⟩
      have d1 : d < 10 := by omega
      have hqm : q < m := by omega
      have hmd : m = 10 * q + d := by omega
      have hs := digP_step hm0
      rw [← hdd, ← hq] at hs
      have hl2 : (digP m).length = (digP q).length + 1 := by rw [hs]; simp
      have hd' : Hid (digP u = digP q ++ (ds ++ [UInt8.ofNat (48 + d)]).reverse) := by
        show _ = _
        rw [hd.out, hs]
        simp
      obtain ⟨x, hx⟩ : ∃ x : Int, x = (m : Int) := ⟨_, rfl⟩
      obtain ⟨dI, hdI⟩ : ∃ x : Int, x = (d : Int) := ⟨_, rfl⟩
      obtain ⟨qI, hqI⟩ : ∃ x : Int, x = (q : Int) := ⟨_, rfl⟩
      rw [← hx]
      have hxd : x = 10 * qI + dI := by omega
      have m0' : 0 < x := by omega
      have m1' : x < 1000000000000000000 := by omega
      have d0' : 0 ≤ dI := by omega
      have d1' : dI < 10 := by omega
      have q0' : 0 ≤ qI := by omega
      have q1' : qI < x := by omega
      have HE : Hid (encB (UInt8.ofNat (48 + d)) = .int .u8 (48 + dI)) := by rw [hdI]; exact encB_digit d1
      have HQ := Lib.hid hqI
      have hqu : q ≤ u := by omega
      have hlm : (ds.map encB).length ≤ 17 := by rw [List.length_map]; omega
      have hlm2 : ds.length ≤ 17 := by omega
      clear hdd hq hs hmd hd hlen hl2 hqm hx hdI hqI d1 hm hm0
      have e1 : (-x).tmod 10 = -dI := by
        rw [Int.neg_tmod, Int.tmod_eq_emod_of_nonneg (by omega)]
        omega
      have e2 : (-x).tdiv 10 = -qI := by
        rw [Int.neg_tdiv, Int.tdiv_eq_ediv_of_nonneg (by omega)]
        omega
      have b1 : ((-x) != 0) = true := by rw [bne_iff_ne]; omega
      clear hxd
      by_cases hz : dI = 0
      · subst hz
        have HE : Hid (encB (UInt8.ofNat (48 + d)) = .int .u8 48) := HE
        clear d0' d1'
        go_wp2_with (first | (at_builtin; refine wpList_append_own _ rfl _ _ 103 rfl w.heap.size 5 i0 (.int .u8 0) 1 1 Tryd.underlying103 HI.out HZ0.out HZ1.out HZ2.out rfl (by decide) _ _ _ rfl (hr.out.alloc_ _) ⟨wr.heap.size, 0, none⟩ 1 1 [.int .u8 (48)] rfl rfl ?c1 ?c2 ?c3 ?c4 ?c5 ?_))
        case c1 =>
          intro j u hu
          match j, hu with
          | 0, hu => simp at hu; subst hu; simp [Addr.add]
        case c2 => intro u hu; simp at hu; subst hu; rfl
        case c3 => (try simp); unfold maxLen; omega
        case c4 => (try simp); omega
        case c5 => simp; omega
        · intro v' w3 hown hgrow _
          have hr3 : Hid (GRow 5 w3 w.heap.size v' ((ds ++ [UInt8.ofNat (48 + d)]).map encB)) := by
            show GRow _ _ _ _ _
            rw [List.map_append, List.map_cons, List.map_nil, HE.out]
            exact gapp_row (by first | rfl | simp) hown
          have hb3 := gapp_below (hr.out.alloc_ _) hgrow (by simp; omega)
          have H3 := Lib.hid (show Below w.heap.size w w3 from (bl_alloc zw _ hb.out).trans hb3)
          clear hown hgrow hb3 hr hb
          go_wp2
          refine ⟨?_, ?_⟩
          · first
              | ((repeat apply Exists.intro); (refine ⟨?_, rfl⟩); exact ⟨q, ds ++ [UInt8.ofNat (48 + d)], by rw [HQ.out], hqu, hr3, hd', H3⟩)
              | exact ⟨q, ds ++ [UInt8.ofNat (48 + d)], by rw [HQ.out], hqu, hr3, hd', H3⟩
              | exact ⟨q, HQ.out, hqu, ds ++ [UInt8.ofNat (48 + d)], hr3, hd', H3⟩
          · simp [intOf]; omega
      · have dp : 0 < dI := by omega
        go_wp2_with (first | (at_builtin; refine wpList_append_own _ rfl _ _ 103 rfl w.heap.size 5 i0 (.int .u8 0) 1 1 Tryd.underlying103 HI.out HZ0.out HZ1.out HZ2.out rfl (by decide) _ _ _ rfl (hr.out.alloc_ _) ⟨wr.heap.size, 0, none⟩ 1 1 [.int .u8 (48 + dI)] rfl rfl ?c1 ?c2 ?c3 ?c4 ?c5 ?_))
        case c1 =>
          intro j u hu
          match j, hu with
          | 0, hu => simp at hu; subst hu; simp [Addr.add]
        case c2 => intro u hu; simp at hu; subst hu; rfl
        case c3 => (try simp); unfold maxLen; omega
        case c4 => (try simp); omega
        case c5 => simp; omega
        · intro v' w3 hown hgrow _
          have hr3 : Hid (GRow 5 w3 w.heap.size v' ((ds ++ [UInt8.ofNat (48 + d)]).map encB)) := by
            show GRow _ _ _ _ _
            rw [List.map_append, List.map_cons, List.map_nil, HE.out]
            exact gapp_row (by first | rfl | simp) hown
          have hb3 := gapp_below (hr.out.alloc_ _) hgrow (by simp; omega)
          have H3 := Lib.hid (show Below w.heap.size w w3 from (bl_alloc zw _ hb.out).trans hb3)
          clear hown hgrow hb3 hr hb
          go_wp2
          refine ⟨?_, ?_⟩
          · first
              | ((repeat apply Exists.intro); (refine ⟨?_, rfl⟩); exact ⟨q, ds ++ [UInt8.ofNat (48 + d)], by rw [HQ.out], hqu, hr3, hd', H3⟩)
              | exact ⟨q, ds ++ [UInt8.ofNat (48 + d)], by rw [HQ.out], hqu, hr3, hd', H3⟩
              | exact ⟨q, HQ.out, hqu, ds ++ [UInt8.ofNat (48 + d)], hr3, hd', H3⟩
          · simp [intOf]; omega
    · have hm1 : m = 0 := by omega
      have hmI : (m : Int) = 0 := by omega
      rw [hm1, digP_zero, List.nil_append] at hd
      rw [hm1, digP_zero] at hlen
      simp only [List.length_nil, Nat.zero_add] at hlen
      have hbs : Hid (R = (ds ++ [45]).reverse) := by
        show _ = _
        rw [HR.out, hd.out]
        simp
      clear hd hm hm0 hm1
      have hlm : (ds.map encB).length ≤ 18 := by rw [List.length_map]; simpa using hlen
      go_wp2_with (first | (at_builtin; refine wpList_append_own _ rfl _ _ 103 rfl w.heap.size 5 i0 (.int .u8 0) 1 1 Tryd.underlying103 HI.out HZ0.out HZ1.out HZ2.out rfl (by decide) _ _ _ rfl (hr.out.alloc_ _) ⟨wr.heap.size, 0, none⟩ 1 1 [.int .u8 45] rfl rfl ?c1 ?c2 ?c3 ?c4 ?c5 ?_))
      case c1 =>
        intro j u hu
        match j, hu with
        | 0, hu => simp at hu; subst hu; simp [Addr.add]
      case c2 => intro u hu; simp at hu; subst hu; rfl
      case c3 => (try simp); unfold maxLen; omega
      case c4 => (try simp); omega
      case c5 => simp; omega
      intro t w4 hown hgrow _
      have hr4 : Hid (GRow 5 w4 w.heap.size t ((ds ++ [45]).map encB)) := by
        show GRow _ _ _ _ _
        have e45 : encB 45 = .int .u8 45 := rfl
        rw [List.map_append, List.map_cons, List.map_nil, e45]
        exact gapp_row (by first | rfl | simp) hown
      have hb3 := gapp_below (hr.out.alloc_ _) hgrow (by simp; omega)
      have H4 := Lib.hid (show Below w.heap.size w w4 from (bl_alloc zw _ hb.out).trans hb3)
      clear hown hgrow hb3 hr hb
      obtain ⟨xs, hxs⟩ : ∃ xs, xs = ds ++ [45] := ⟨_, rfl⟩
      have hlx : xs.length ≤ 19 ∧ 0 < xs.length := by rw [hxs]; rw [List.length_map] at hlm; simp; omega
      rw [← hxs] at hr4 hbs
      clear hxs hlm hlen
      obtain ⟨hl1, hl0⟩ := hlx
      rcases hr4.out.forms with ⟨_, hz⟩ | ⟨g, cap, rfl, gB, gl, gc', hc, _⟩
      · exfalso
        have := congrArg List.length hz
        rw [List.length_map] at this
        simp at this
        rw [this] at hl0
        simp at hl0
      have hcb : Hid (∀ k, k < xs.length → w4.cell? ⟨g, k, none⟩ = some (encB (xs.getD k 0))) := fun k hk => hc k _ (by rw [List.getElem?_map, List.getElem?_eq_getElem hk]; simp [hk])
      have hcap : xs.length ≤ cap := by rw [List.length_map] at gc'; exact gc'
      rw [List.length_map] at *
      clear hc hr4 gc'
      have zw4 : w.heap.size ≤ w4.heap.size := H4.out.size
      obtain ⟨n, hn⟩ : ∃ n, n = xs.length := ⟨_, rfl⟩
      have HN := Lib.hid hn
      rw [← hn] at hl1 hl0 hcb hcap ⊢
      clear hn
      have n0 : (0 : Int) < (n : Int) := by omega
      have n1 : (n : Int) ≤ 19 := by omega
      go_wp2_with fail
      clear hmI
      go_loopw [6, 7] (fun t v wr => ∃ k : Nat, k ≤ n ∧ v = .int .i64 ((n : Int) - 1 - (k : Int)) ∧ Hid (GRow 5 wr w4.heap.size t ((xs.reverse.take k).map encB)) ∧ Hid (Below w4.heap.size w4 wr)) (fun _ v _ => ((intOf v) + 1).toNat)
      case atStart => exact ⟨0, Nat.zero_le _, by simp, grow0 w4 5 (Nat.le_refl _), (show Below _ _ _ by repeat (first | (with_reducible exact Below.refl _ _) | (with_reducible assumption) | ((with_reducible refine bl_alloc ?_ _ ?_); (focus ((first | omega | (simp <;> omega)); done))) | ((with_reducible refine bl_set ?_ _ ?_); (focus ((first | omega | (simp <;> omega)); done))) | (with_reducible refine below_drewN ?_ _) | (with_reducible refine Below.drew ?_)))⟩
      case round =>
        obtain ⟨k, hk, rfl, hr, hb⟩ := hrel
        have z4 : w4.heap.size ≤ wr.heap.size := hb.out.size
        by_cases hlt : k < n
        · have hst := take_next xs (k := k) (by have := HN.out; omega)
          rw [← HN.out] at hst
          obtain ⟨j, hj⟩ : ∃ j : Nat, j = n - 1 - k := ⟨_, rfl⟩
          rw [← hj] at hst
          have hji : (n : Int) - 1 - (k : Int) = (j : Int) := by omega
          have cj := (hb.out.cell (p := ⟨g, j, none⟩) gl).trans (hcb.out j (by omega))
          unfold encB at cj
          have hlk : ((xs.reverse.take k).map encB).length = k := by rw [List.length_map, List.length_take, List.length_reverse, ← HN.out]; omega
          have hst' : Hid ((xs.reverse.take (k + 1)).map encB = (xs.reverse.take k).map encB ++ [.int .u8 ((xs.getD j 0).toNat : Int)]) := by
            show _ = _
            rw [hst, List.map_append]
            rfl
          have hbt : (0 : Int) ≤ ((xs.getD j 0).toNat : Int) ∧ ((xs.getD j 0).toNat : Int) < 256 := by have := (xs.getD j 0).toNat_lt; omega
          obtain ⟨us, hus⟩ : ∃ us, us = (xs.reverse.take k).map encB := ⟨_, rfl⟩
          rw [← hus] at hr hlk hst'
          clear hus hst
          obtain ⟨bb, hbb⟩ : ∃ bb, bb = ((xs.getD j 0).toNat : Int) := ⟨_, rfl⟩
          rw [← hbb] at cj hst' hbt
          clear hbb
          rw [hji]
          have j0 : (0 : Int) ≤ (j : Int) := by omega
          have j1 : (j : Int) < (n : Int) := by omega
          have hlk' : us.length ≤ 18 := by omega
          have HJ2 := Lib.hid (show (j : Int) - 1 = (n : Int) - 1 - ((k + 1 : Nat) : Int) by omega)
          have HLE := Lib.hid (show k + 1 ≤ n by omega)
          have HM := Lib.hid (show ((j : Int) - 1 + 1).toNat < ((j : Int) + 1).toNat by omega)
          clear hj hji
          go_wp2_with (first | (at_builtin; refine wpList_append_own _ rfl _ _ 103 rfl w4.heap.size 5 i0 (.int .u8 0) 1 1 Tryd.underlying103 HI.out HZ0.out HZ1.out HZ2.out rfl (by decide) _ _ _ rfl (hr.out.alloc_ _) ⟨wr.heap.size, 0, none⟩ 1 1 [.int .u8 bb] rfl rfl ?c1 ?c2 ?c3 ?c4 ?c5 ?_))
          case c1 =>
            intro j u hu
            match j, hu with
            | 0, hu => simp at hu; subst hu; simp [Addr.add]
          case c2 => intro u hu; simp at hu; subst hu; rfl
          case c3 => (try simp); unfold maxLen; omega
          case c4 => (try simp); omega
          case c5 => simp; omega
          · intro v' w5 hown hgrow _
            have hr5 : Hid (GRow 5 w5 w4.heap.size v' ((xs.reverse.take (k + 1)).map encB)) := by
              show GRow _ _ _ _ _
              rw [hst'.out]
              exact gapp_row hlk hown
            have hb5 := gapp_below (hr.out.alloc_ _) hgrow (by simp; omega)
            have H5 := Lib.hid (show Below w4.heap.size w4 w5 from (bl_alloc z4 _ hb.out).trans hb5)
            clear hown hgrow hb5 hr hb cj
            go_wp2
            refine ⟨?_, ?_⟩
            · first
                | ((repeat apply Exists.intro); (refine ⟨?_, rfl⟩); exact ⟨k + 1, HLE.out, by rw [HJ2.out], hr5, H5⟩)
                | exact ⟨k + 1, HLE.out, by rw [HJ2.out], hr5, H5⟩
                | exact ⟨(k + 1 : Nat), HLE.out, HJ2.out, hr5, H5⟩
            · simp [intOf]
        · obtain rfl : n = k := by omega
          have hfull : Hid (GRow 5 wr w4.heap.size u6 (xs.reverse.map encB)) := by
            have h := hr.out
            rw [List.take_of_length_le (by rw [List.length_reverse]; exact Nat.le_of_eq HN.out.symm)] at h
            exact h
          clear hr
          have hneg : (n : Int) - 1 - (n : Int) = -1 := by omega
          rw [hneg]
          rcases hfull.out.forms with ⟨_, hz⟩ | ⟨g2, cap2, rfl, _, gl2, _, hc2, _⟩
          · exfalso
            have h := congrArg List.length hz
            rw [List.length_map, List.length_reverse, ← HN.out] at h
            simp at h
            omega
          have HBK := Lib.hid (run_convert_bytes_back (P := Tryd.prog) wr 103 9 5 ⟨g2, 0, none⟩ cap2 xs.reverse Tryd.underlying103 Tryd.underlying5 Tryd.underlying9 (fun j hj => by
            have hadd : (⟨g2, 0, none⟩ : Addr).add j = ⟨g2, j, none⟩ := by unfold Addr.add; split <;> simp_all
            rw [hadd]
            refine (hc2 j _ (by rw [List.getElem?_map, List.getElem?_eq_getElem hj]; rfl)).trans ?_
            rfl))
          rw [← hbs.out] at HBK
          have hlr : (xs.reverse.map encB).length = R.length := by rw [List.length_map, ← hbs.out]
          rw [hlr]
          clear hlr hc2 hfull hcb
          have HBK' := HBK.out
          go_wp2_with fail
          go_ret
          exact ⟨rfl, by repeat (first | (with_reducible exact Below.refl _ _) | (with_reducible assumption) | ((with_reducible refine bl_alloc ?_ _ ?_); (focus ((first | omega | (simp <;> omega)); done))) | ((with_reducible refine bl_set ?_ _ ?_); (focus ((first | omega | (simp <;> omega)); done))) | (with_reducible refine below_drewN ?_ _) | (with_reducible refine Below.drew ?_) | ((with_reducible refine bl_trans ?_ hb.out ?_); (focus ((first | omega | (simp <;> omega)); done))) | ((with_reducible refine bl_trans ?_ H4.out ?_); (focus ((first | omega | (simp <;> omega)); done))))⟩
theorem l01Dec_any (w : World) (n : Int) (h0 : -1000000000000 ≤ n) (h1 : n ≤ 1000000000000) :
    Calls Tryd.prog 40 #[.int .i64 n] w fun e w' => e = .returned (.string ⟨(Lib.itoa n).toArray⟩) ∧ Below w.heap.size w w' := by
  by_cases hz : n = 0
  · subst hz
    have hi : Lib.itoa 0 = [48] := by
      have := Lib.itoa_nonneg 0
      rw [show ((0 : Nat) : Int) = 0 from rfl] at this
      rw [this, Lib.decDigits, dif_pos (by omega)]
      rfl
    rw [hi]
    go_enter Tryd.func40, Tryd.ntmps40
    go_wp2_with fail
    go_ret
    exact ⟨rfl, by repeat (first | (with_reducible exact Below.refl _ _) | (with_reducible assumption) | ((with_reducible refine bl_alloc ?_ _ ?_); (focus ((first | omega | (simp <;> omega)); done))) | ((with_reducible refine bl_set ?_ _ ?_); (focus ((first | omega | (simp <;> omega)); done))) | (with_reducible refine below_drewN ?_ _) | (with_reducible refine Below.drew ?_))⟩
  by_cases hp : 0 < n
  · obtain ⟨u, rfl⟩ : ∃ u : Nat, n = (u : Int) := ⟨n.toNat, by omega⟩
    rw [Lib.itoa_nonneg, ← digP_pos (by omega)]
    exact l01Dec_pos w u (by omega) (by simp; omega)
  · obtain ⟨u, rfl⟩ : ∃ u : Nat, n = -(u : Int) := ⟨n.natAbs, by omega⟩
    rw [Lib.itoa_neg u (by omega), ← digP_pos (by omega)]
    exact l01Dec_neg w u (by omega) (by simp; omega)
end Go.Proofs.YtboglgkaelbdcaaDoor
