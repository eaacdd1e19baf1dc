/-
  Contracts of LossesOf: the program's. The conditions are the hypotheses.
-/
import Derived.Test.YtlpjcebpfmhpnaaDoorRows
import Derived.Test.YtlpjcebpfmhpnaaDoorLib
import Derived.Test.YtlpjcebpfmhpnaaDoorInt
import Derived.Test.YtlpjcebpfmhpnaaDoorWithin
import Derived.Test.YtlpjcebpfmhpnaaDoorAll
import Derived.Test.YtlpjcebpfmhpnaaDoorTab
import Derived.Test.YtlpjcebpfmhpnaaDoorGas
import Derived.Test.YtlpjcebpfmhpnaaDoorRain
import Derived.Test.YtlpjcebpfmhpnaaDoorFree
import Derived.Test.YtlpjcebpfmhpnaaDoorDec
import Derived.Test.YtlpjcebpfmhpnaaDoorClutter
import Derived.Test.YtlpjcebpfmhpnaaDoorClutL
import Derived.Test.YtlpjcebpfmhpnaaDoorOwn
import Derived.Test.YtlpjcebpfmhpnaaDoorField
import Derived.Outline
import Derived.Deep.RegionHeld3
import Derived.Deep.DrawnRows
import Derived.Deep.RegionLaw
import Derived.Test.YtlpjcebpfmhpnaaDoorLosB
namespace Go.Proofs.YtlpjcebpfmhpnaaDoor.ofLossesOf
open Go.RowKit Go.Proofs.YtlpjcebpfmhpnaaDoor.ofClutterLoss
set_option linter.unusedSimpArgs false
set_option linter.unusedVariables false
attribute [local go_sem ↓] Go.wp_at_zero Go.wp_at_succ
set_option maxRecDepth 20000 in
set_option maxHeartbeats 8000000 in
theorem impl_any (w : World) (hT : LosTab w) (f : Int) (jf : In64 f) (d : Int) (jd : In64 d) (r : Int) (jr : In64 r) (v : Value) (cs : List Int) (p : Nat) (hv : Row 2 w p v cs) (ics : ∀ n ∈ cs, In64 n) (u : Value) (bs : List Int) (q : Nat) (hu : Row 2 w q u bs) (ias : ∀ n ∈ bs, In64 n) :
    Calls Tryd.prog 19 #[.int .i64 f, .int .i64 d, .int .i64 r, v, u] w fun e w' => e = .returned (.tuple #[.agg #[.int .i64 (losR f d r cs bs).1, .int .i64 (losR f d r cs bs).2.1, .int .i64 (losR f d r cs bs).2.2.1, .int .i64 (losR f d r cs bs).2.2.2.1, .int .i64 (losR f d r cs bs).2.2.2.2], .int .i64 (losC f d r cs bs)]) ∧ Below w.heap.size w w' := by
  have HV := Lib.hid hv
  have HU := Lib.hid hu
  clear ics ias
  have HT := Lib.hid hT
  clear hT
  by_cases hl : cs.length = 2 ∧ bs.length = 2
  rotate_left
  · obtain ⟨e1, e2⟩ := los_len (f := f) (d := d) (r := r) hl
    rw [e1, e2]
    clear e1 e2
    have fc : ∃ A c, v = .slice A cs.length c := by rcases hv.forms with ⟨rfl, rfl⟩ | ⟨g, c, rfl, _⟩ <;> exact ⟨_, _, rfl⟩
    have fa : ∃ A c, u = .slice A bs.length c := by rcases hu.forms with ⟨rfl, rfl⟩ | ⟨g, c, rfl, _⟩ <;> exact ⟨_, _, rfl⟩
    obtain ⟨A, c, rfl⟩ := fc
    obtain ⟨A', c', rfl⟩ := fa
    clear hv hu HV HU
    generalize cs.length = n at *
    generalize bs.length = m at *
    by_cases h2 : n = 2
    · have h3 : ¬ m = 2 := fun h => hl ⟨h2, h⟩
      have b1 : ((m : Int) != 2) = true := by rw [bne_iff_ne]; omega
      have b2 : (m != 2) = true := by rw [bne_iff_ne]; exact h3
      have b3 : (m == 2) = false := by simpa using h3
      have b4 : ((m : Int) == 2) = false := by rw [beq_eq_false_iff_ne]; omega
      clear hl h3
      subst h2
      go_enter Tryd.func19, Tryd.ntmps19
      go_wp2_with fail
      all_goals refine bodyPost_ret (v := .tuple #[.agg #[.int .i64 0, .int .i64 0, .int .i64 0, .int .i64 0, .int .i64 0], .int .i64 6]) (by simp [results, Tryd.results19, go_sem, *]) rfl ⟨rfl, by repeat (first | (with_reducible exact Below.refl _ _) | (with_reducible assumption) | ((with_reducible refine bl_alloc ?_ _ ?_); (focus ((first | omega | (simp <;> omega)); done))) | ((with_reducible refine bl_set ?_ _ ?_); (focus ((first | omega | (simp <;> omega)); done))) | (with_reducible refine below_drewN ?_ _) | (with_reducible refine Below.drew ?_))⟩
    · have b1 : ((n : Int) != 2) = true := by rw [bne_iff_ne]; omega
      have b2 : (n != 2) = true := by rw [bne_iff_ne]; exact h2
      have b3 : (n == 2) = false := by simpa using h2
      have b4 : ((n : Int) == 2) = false := by rw [beq_eq_false_iff_ne]; omega
      clear hl h2
      go_enter Tryd.func19, Tryd.ntmps19
      go_wp2_with fail
      all_goals refine bodyPost_ret (v := .tuple #[.agg #[.int .i64 0, .int .i64 0, .int .i64 0, .int .i64 0, .int .i64 0], .int .i64 6]) (by simp [results, Tryd.results19, go_sem, *]) rfl ⟨rfl, by repeat (first | (with_reducible exact Below.refl _ _) | (with_reducible assumption) | ((with_reducible refine bl_alloc ?_ _ ?_); (focus ((first | omega | (simp <;> omega)); done))) | ((with_reducible refine bl_set ?_ _ ?_); (focus ((first | omega | (simp <;> omega)); done))) | (with_reducible refine below_drewN ?_ _) | (with_reducible refine Below.drew ?_))⟩
  obtain ⟨hl1, hl2⟩ := hl
  obtain ⟨gc, cc, rfl, lc, c0, c1⟩ := two_of hv hl1
  obtain ⟨ga, ca, rfl, la, a0, a1⟩ := two_of hu hl2
  have HL1 := Lib.hid hl1
  have HL2 := Lib.hid hl2
  clear hv hu
  rcases in_cases f 1 100000000 with ⟨f0, f1⟩ | t | ⟨f0, t⟩
  rotate_left
  · obtain ⟨e1, e2⟩ := los_out (f := f) (d := d) (r := r) hl1 hl2 (fun h => dec_no t h.1.1)
    rw [e1, e2]
    clear e1 e2 hl1 hl2
    go_enter Tryd.func19, Tryd.ntmps19
    go_wp2_with (first | (go_at_call 53; go_in) | (go_at_call 51; go_in) | (go_at_call 52; go_in))
    all_goals refine bodyPost_ret (v := .tuple #[.agg #[.int .i64 0, .int .i64 0, .int .i64 0, .int .i64 0, .int .i64 0], .int .i64 2]) (by simp [results, Tryd.results19, go_sem, *]) rfl ⟨rfl, by repeat (first | (with_reducible exact Below.refl _ _) | (with_reducible assumption) | ((with_reducible refine bl_alloc ?_ _ ?_); (focus ((first | omega | (simp <;> omega)); done))) | ((with_reducible refine bl_set ?_ _ ?_); (focus ((first | omega | (simp <;> omega)); done))) | (with_reducible refine below_drewN ?_ _) | (with_reducible refine Below.drew ?_))⟩
  · obtain ⟨e1, e2⟩ := los_out (f := f) (d := d) (r := r) hl1 hl2 (fun h => dec_no t h.1.2)
    rw [e1, e2]
    clear e1 e2 hl1 hl2
    go_enter Tryd.func19, Tryd.ntmps19
    go_wp2_with (first | (go_at_call 53; go_in) | (go_at_call 51; go_in) | (go_at_call 52; go_in))
    all_goals refine bodyPost_ret (v := .tuple #[.agg #[.int .i64 0, .int .i64 0, .int .i64 0, .int .i64 0, .int .i64 0], .int .i64 2]) (by simp [results, Tryd.results19, go_sem, *]) rfl ⟨rfl, by repeat (first | (with_reducible exact Below.refl _ _) | (with_reducible assumption) | ((with_reducible refine bl_alloc ?_ _ ?_); (focus ((first | omega | (simp <;> omega)); done))) | ((with_reducible refine bl_set ?_ _ ?_); (focus ((first | omega | (simp <;> omega)); done))) | (with_reducible refine below_drewN ?_ _) | (with_reducible refine Below.drew ?_))⟩
  rcases in_cases d 1 283000 with ⟨d0, d1⟩ | t | ⟨d0, t⟩
  rotate_left
  · obtain ⟨e1, e2⟩ := los_out (f := f) (d := d) (r := r) hl1 hl2 (fun h => dec_no t h.2.1.1)
    rw [e1, e2]
    clear e1 e2 hl1 hl2
    go_enter Tryd.func19, Tryd.ntmps19
    go_wp2_with (first | (go_at_call 53; go_in) | (go_at_call 51; go_in) | (go_at_call 52; go_in))
    all_goals refine bodyPost_ret (v := .tuple #[.agg #[.int .i64 0, .int .i64 0, .int .i64 0, .int .i64 0, .int .i64 0], .int .i64 2]) (by simp [results, Tryd.results19, go_sem, *]) rfl ⟨rfl, by repeat (first | (with_reducible exact Below.refl _ _) | (with_reducible assumption) | ((with_reducible refine bl_alloc ?_ _ ?_); (focus ((first | omega | (simp <;> omega)); done))) | ((with_reducible refine bl_set ?_ _ ?_); (focus ((first | omega | (simp <;> omega)); done))) | (with_reducible refine below_drewN ?_ _) | (with_reducible refine Below.drew ?_))⟩
  · obtain ⟨e1, e2⟩ := los_out (f := f) (d := d) (r := r) hl1 hl2 (fun h => dec_no t h.2.1.2)
    rw [e1, e2]
    clear e1 e2 hl1 hl2
    go_enter Tryd.func19, Tryd.ntmps19
    go_wp2_with (first | (go_at_call 53; go_in) | (go_at_call 51; go_in) | (go_at_call 52; go_in))
    all_goals refine bodyPost_ret (v := .tuple #[.agg #[.int .i64 0, .int .i64 0, .int .i64 0, .int .i64 0, .int .i64 0], .int .i64 2]) (by simp [results, Tryd.results19, go_sem, *]) rfl ⟨rfl, by repeat (first | (with_reducible exact Below.refl _ _) | (with_reducible assumption) | ((with_reducible refine bl_alloc ?_ _ ?_); (focus ((first | omega | (simp <;> omega)); done))) | ((with_reducible refine bl_set ?_ _ ?_); (focus ((first | omega | (simp <;> omega)); done))) | (with_reducible refine below_drewN ?_ _) | (with_reducible refine Below.drew ?_))⟩
  rcases in_cases r 0 200 with ⟨r0, r1⟩ | t | ⟨r0, t⟩
  rotate_left
  · obtain ⟨e1, e2⟩ := los_out (f := f) (d := d) (r := r) hl1 hl2 (fun h => dec_no t h.2.2.1.1)
    rw [e1, e2]
    clear e1 e2 hl1 hl2
    go_enter Tryd.func19, Tryd.ntmps19
    go_wp2_with (first | (go_at_call 53; go_in) | (go_at_call 51; go_in) | (go_at_call 52; go_in))
    all_goals refine bodyPost_ret (v := .tuple #[.agg #[.int .i64 0, .int .i64 0, .int .i64 0, .int .i64 0, .int .i64 0], .int .i64 2]) (by simp [results, Tryd.results19, go_sem, *]) rfl ⟨rfl, by repeat (first | (with_reducible exact Below.refl _ _) | (with_reducible assumption) | ((with_reducible refine bl_alloc ?_ _ ?_); (focus ((first | omega | (simp <;> omega)); done))) | ((with_reducible refine bl_set ?_ _ ?_); (focus ((first | omega | (simp <;> omega)); done))) | (with_reducible refine below_drewN ?_ _) | (with_reducible refine Below.drew ?_))⟩
  · obtain ⟨e1, e2⟩ := los_out (f := f) (d := d) (r := r) hl1 hl2 (fun h => dec_no t h.2.2.1.2)
    rw [e1, e2]
    clear e1 e2 hl1 hl2
    go_enter Tryd.func19, Tryd.ntmps19
    go_wp2_with (first | (go_at_call 53; go_in) | (go_at_call 51; go_in) | (go_at_call 52; go_in))
    all_goals refine bodyPost_ret (v := .tuple #[.agg #[.int .i64 0, .int .i64 0, .int .i64 0, .int .i64 0, .int .i64 0], .int .i64 2]) (by simp [results, Tryd.results19, go_sem, *]) rfl ⟨rfl, by repeat (first | (with_reducible exact Below.refl _ _) | (with_reducible assumption) | ((with_reducible refine bl_alloc ?_ _ ?_); (focus ((first | omega | (simp <;> omega)); done))) | ((with_reducible refine bl_set ?_ _ ?_); (focus ((first | omega | (simp <;> omega)); done))) | (with_reducible refine below_drewN ?_ _) | (with_reducible refine Below.drew ?_))⟩
  rcases bool_tf (allIn cs 0 7) with hc | hc
  rotate_left
  · obtain ⟨e1, e2⟩ := los_out (f := f) (d := d) (r := r) hl1 hl2 (fun h => by have := h.2.2.2.1; rw [hc] at this; cases this)
    rw [e1, e2]
    clear e1 e2 hl1 hl2
    have HC := Lib.hid hc
    clear hc
    go_enter Tryd.func19, Tryd.ntmps19
    go_wp2_with (first | (go_at_call 53; go_in) | (go_at_call 51; go_in) | (go_at_call 52; go_in))
    refine (allWithin_any _ _ cs p (HV.out.alloc_ _) 0 7).mono ?_
    rintro e w1 ⟨he, hb⟩
    rw [HC.out] at he
    subst he
    have H1 := Lib.hid (show Below w.heap.size w w1 by repeat (first | (with_reducible exact Below.refl _ _) | (with_reducible assumption) | ((with_reducible refine bl_alloc ?_ _ ?_); (focus ((first | omega | (simp <;> omega)); done))) | ((with_reducible refine bl_set ?_ _ ?_); (focus ((first | omega | (simp <;> omega)); done))) | (with_reducible refine below_drewN ?_ _) | (with_reducible refine Below.drew ?_) | ((with_reducible refine bl_trans ?_ hb ?_); (focus ((first | omega | (simp <;> omega)); done)))))
    have zs1 := H1.out.size
    have SZ := Lib.hid ((SInv.fresh w #[.int .i64 0, .int .i64 0, .int .i64 0, .int .i64 0, .int .i64 0] 39).later hb)
    have z0 := SZ.out.cell 0 _ rfl
    have z1 := SZ.out.cell 1 _ rfl
    have z2 := SZ.out.cell 2 _ rfl
    have z3 := SZ.out.cell 3 _ rfl
    have z4 := SZ.out.cell 4 _ rfl
    have zf := SZ.out.free
    have zR : w.heap.size < w1.heap.size := SZ.out.lt
    clear hb
    go_wp2_with fail
    all_goals refine bodyPost_ret (v := .tuple #[.agg #[.int .i64 0, .int .i64 0, .int .i64 0, .int .i64 0, .int .i64 0], .int .i64 2]) (by simp [results, Tryd.results19, go_sem, *]) rfl ⟨rfl, by repeat (first | (with_reducible exact Below.refl _ _) | (with_reducible assumption) | ((with_reducible refine bl_alloc ?_ _ ?_); (focus ((first | omega | (simp <;> omega)); done))) | ((with_reducible refine bl_set ?_ _ ?_); (focus ((first | omega | (simp <;> omega)); done))) | (with_reducible refine below_drewN ?_ _) | (with_reducible refine Below.drew ?_) | ((with_reducible refine bl_trans ?_ H1.out ?_); (focus ((first | omega | (simp <;> omega)); done))))⟩
  rcases bool_tf (allIn bs 0 90000) with ha | ha
  rotate_left
  · obtain ⟨e1, e2⟩ := los_out (f := f) (d := d) (r := r) hl1 hl2 (fun h => by have := h.2.2.2.2; rw [ha] at this; cases this)
    rw [e1, e2]
    clear e1 e2 hl1 hl2
    have HC := Lib.hid hc
    have HAA := Lib.hid ha
    clear hc ha
    go_enter Tryd.func19, Tryd.ntmps19
    go_wp2_with (first | (go_at_call 53; go_in) | (go_at_call 51; go_in) | (go_at_call 52; go_in))
    refine (allWithin_any _ _ cs p (HV.out.alloc_ _) 0 7).mono ?_
    rintro e w1 ⟨he, hb⟩
    rw [HC.out] at he
    subst he
    have H1 := Lib.hid (show Below w.heap.size w w1 by repeat (first | (with_reducible exact Below.refl _ _) | (with_reducible assumption) | ((with_reducible refine bl_alloc ?_ _ ?_); (focus ((first | omega | (simp <;> omega)); done))) | ((with_reducible refine bl_set ?_ _ ?_); (focus ((first | omega | (simp <;> omega)); done))) | (with_reducible refine below_drewN ?_ _) | (with_reducible refine Below.drew ?_) | ((with_reducible refine bl_trans ?_ hb ?_); (focus ((first | omega | (simp <;> omega)); done)))))
    have zs1 := H1.out.size
    have SZ1 := Lib.hid ((SInv.fresh w #[.int .i64 0, .int .i64 0, .int .i64 0, .int .i64 0, .int .i64 0] 39).later hb)
    have HU1 := Lib.hid ((HU.out.alloc_ (.cells #[.int .i64 0, .int .i64 0, .int .i64 0, .int .i64 0, .int .i64 0] 39)).later hb)
    clear hb
    go_wp2_with (first | (go_at_call 53; go_in) | (go_at_call 51; go_in) | (go_at_call 52; go_in))
    refine (allWithin_any _ _ bs q HU1.out 0 90000).mono ?_
    rintro e w2 ⟨he, hb⟩
    rw [HAA.out] at he
    subst he
    have H2 := Lib.hid (show Below w.heap.size w w2 by repeat (first | (with_reducible exact Below.refl _ _) | (with_reducible assumption) | ((with_reducible refine bl_alloc ?_ _ ?_); (focus ((first | omega | (simp <;> omega)); done))) | ((with_reducible refine bl_set ?_ _ ?_); (focus ((first | omega | (simp <;> omega)); done))) | (with_reducible refine below_drewN ?_ _) | (with_reducible refine Below.drew ?_) | ((with_reducible refine bl_trans ?_ hb ?_); (focus ((first | omega | (simp <;> omega)); done))) | ((with_reducible refine bl_trans ?_ H1.out ?_); (focus ((first | omega | (simp <;> omega)); done)))))
    have zs2 := H2.out.size
    have SZ := Lib.hid (SZ1.out.later hb)
    clear hb
    have z0 := SZ.out.cell 0 _ rfl
    have z1 := SZ.out.cell 1 _ rfl
    have z2 := SZ.out.cell 2 _ rfl
    have z3 := SZ.out.cell 3 _ rfl
    have z4 := SZ.out.cell 4 _ rfl
    have zf := SZ.out.free
    have zR : w.heap.size < w2.heap.size := SZ.out.lt
    go_wp2_with fail
    all_goals refine bodyPost_ret (v := .tuple #[.agg #[.int .i64 0, .int .i64 0, .int .i64 0, .int .i64 0, .int .i64 0], .int .i64 2]) (by simp [results, Tryd.results19, go_sem, *]) rfl ⟨rfl, by repeat (first | (with_reducible exact Below.refl _ _) | (with_reducible assumption) | ((with_reducible refine bl_alloc ?_ _ ?_); (focus ((first | omega | (simp <;> omega)); done))) | ((with_reducible refine bl_set ?_ _ ?_); (focus ((first | omega | (simp <;> omega)); done))) | (with_reducible refine below_drewN ?_ _) | (with_reducible refine Below.drew ?_) | ((with_reducible refine bl_trans ?_ H2.out ?_); (focus ((first | omega | (simp <;> omega)); done))))⟩
  obtain ⟨e1, e2⟩ := los_yes (f := f) (d := d) (r := r) (cs := cs) (bs := bs) ⟨hl1, hl2, ⟨f0, f1⟩, ⟨d0, d1⟩, ⟨r0, r1⟩, hc, ha⟩
  rw [e1, e2]
  clear e1 e2
  obtain ⟨⟨x0, x1⟩, y0, y1⟩ := all_two hl1 hc
  obtain ⟨⟨s0, s1⟩, t0, t1⟩ := all_two hl2 ha
  have HLV : Hid (losV f d r cs bs = (freeV f d, gasV f d, wetV f r d, cluV f cs bs 0 + cluV f cs bs 1, freeV f d + gasV f d + wetV f r d + (cluV f cs bs 0 + cluV f cs bs 1))) := rfl
  obtain ⟨F0, F1⟩ := freeV_bd (f := f) (d := d) (by omega) (by omega)
  obtain ⟨G0, G1⟩ := gasV_bd (f := f) d0 d1
  obtain ⟨W0, W1⟩ := wetV_bd (f := f) (rain := r) (d := d) r0 r1 ⟨d0, d1⟩
  obtain ⟨j0, hj0⟩ : ∃ j : Nat, cs.getD 0 0 = j := ⟨(cs.getD 0 0).toNat, by omega⟩
  obtain ⟨j1, hj1⟩ : ∃ j : Nat, cs.getD 1 0 = j := ⟨(cs.getD 1 0).toNat, by omega⟩
  have k0 : cluV f cs bs 0 = lossOf (heights.getD j0 0) (weights.getD j0 0) (share f) (bs.getD 0 0) := by unfold cluV; rw [hj0, Int.toNat_natCast]
  have k1 : cluV f cs bs 1 = lossOf (heights.getD j1 0) (weights.getD j1 0) (share f) (bs.getD 1 0) := by unfold cluV; rw [hj1, Int.toNat_natCast]
  have K0 := clutter_bd (k := j0) (by omega) (f := f) s0
  have K1 := clutter_bd (k := j1) (by omega) (f := f) t0
  rw [← k0] at K0
  rw [← k1] at K1
  obtain ⟨K00, K01⟩ := K0
  obtain ⟨K10, K11⟩ := K1
  have HK0 := Lib.hid k0
  have HK1 := Lib.hid k1
  rw [hj0] at c0 x0 x1
  rw [hj1] at c1 y0 y1
  obtain ⟨F, hF⟩ : ∃ F, F = freeV f d := ⟨_, rfl⟩
  obtain ⟨G, hG⟩ : ∃ G, G = gasV f d := ⟨_, rfl⟩
  obtain ⟨W, hW⟩ : ∃ W, W = wetV f r d := ⟨_, rfl⟩
  obtain ⟨C, hC⟩ : ∃ C, C = cluV f cs bs 0 := ⟨_, rfl⟩
  obtain ⟨E, hE⟩ : ∃ E, E = cluV f cs bs 1 := ⟨_, rfl⟩
  rw [← hF, ← hG, ← hW, ← hC, ← hE] at HLV
  rw [← hF] at F0 F1
  rw [← hG] at G0 G1
  rw [← hW] at W0 W1
  rw [← hC] at K00 K01 HK0
  rw [← hE] at K10 K11 HK1
  have HF := Lib.hid hF
  have HG := Lib.hid hG
  have HWW := Lib.hid hW
  clear hF hG hW hC hE k0 k1 hj0 hj1
  generalize bs.getD 0 0 = A0 at *
  generalize bs.getD 1 0 = A1 at *
  clear hl1 hl2
  rw [HLV.out]
  have HC := Lib.hid hc
  have HAA := Lib.hid ha
  clear hc ha
  go_enter Tryd.func19, Tryd.ntmps19
  go_wp2_with (first | (go_at_call 53; go_in) | (go_at_call 51; go_in) | (go_at_call 52; go_in))
  refine (allWithin_any _ _ cs p (HV.out.alloc_ _) 0 7).mono ?_
  rintro e w1 ⟨he, hb⟩
  rw [HC.out] at he
  subst he
  have H1 := Lib.hid (show Below w.heap.size w w1 by repeat (first | (with_reducible exact Below.refl _ _) | (with_reducible assumption) | ((with_reducible refine bl_alloc ?_ _ ?_); (focus ((first | omega | (simp <;> omega)); done))) | ((with_reducible refine bl_set ?_ _ ?_); (focus ((first | omega | (simp <;> omega)); done))) | (with_reducible refine below_drewN ?_ _) | (with_reducible refine Below.drew ?_) | ((with_reducible refine bl_trans ?_ hb ?_); (focus ((first | omega | (simp <;> omega)); done)))))
  have zs1 := H1.out.size
  have SZ1 := Lib.hid ((SInv.fresh w #[.int .i64 0, .int .i64 0, .int .i64 0, .int .i64 0, .int .i64 0] 39).later hb)
  have HU1 := Lib.hid ((HU.out.alloc_ (.cells #[.int .i64 0, .int .i64 0, .int .i64 0, .int .i64 0, .int .i64 0] 39)).later hb)
  clear hb
  go_wp2_with (first | (go_at_call 53; go_in) | (go_at_call 51; go_in) | (go_at_call 52; go_in))
  refine (allWithin_any _ _ bs q HU1.out 0 90000).mono ?_
  rintro e w2 ⟨he, hb⟩
  rw [HAA.out] at he
  subst he
  have H2 := Lib.hid (show Below w.heap.size w w2 by repeat (first | (with_reducible exact Below.refl _ _) | (with_reducible assumption) | ((with_reducible refine bl_alloc ?_ _ ?_); (focus ((first | omega | (simp <;> omega)); done))) | ((with_reducible refine bl_set ?_ _ ?_); (focus ((first | omega | (simp <;> omega)); done))) | (with_reducible refine below_drewN ?_ _) | (with_reducible refine Below.drew ?_) | ((with_reducible refine bl_trans ?_ hb ?_); (focus ((first | omega | (simp <;> omega)); done))) | ((with_reducible refine bl_trans ?_ H1.out ?_); (focus ((first | omega | (simp <;> omega)); done)))))
  have zs2 := H2.out.size
  have SZ := Lib.hid (SZ1.out.later hb)
  clear hb
  go_wp2_with fail
  refine (freeLoss_any _ (HT.out.1.below H2.out) f d f0 f1 d0 (by omega)).mono ?_
  rintro e w3 ⟨he, hb⟩
  rw [← HF.out] at he
  subst he
  have H3 := Lib.hid (show Below w.heap.size w w3 by repeat (first | (with_reducible exact Below.refl _ _) | (with_reducible assumption) | ((with_reducible refine bl_alloc ?_ _ ?_); (focus ((first | omega | (simp <;> omega)); done))) | ((with_reducible refine bl_set ?_ _ ?_); (focus ((first | omega | (simp <;> omega)); done))) | (with_reducible refine below_drewN ?_ _) | (with_reducible refine Below.drew ?_) | ((with_reducible refine bl_trans ?_ hb ?_); (focus ((first | omega | (simp <;> omega)); done))) | ((with_reducible refine bl_trans ?_ H2.out ?_); (focus ((first | omega | (simp <;> omega)); done)))))
  have zs3 := H3.out.size
  have SZ3 := Lib.hid (SZ.out.later hb)
  clear hb
  go_wp2_with fail
  refine (gasLoss_any _ f d f0 f1 d0 d1).mono ?_
  rintro e w4 ⟨he, hb⟩
  rw [← HG.out] at he
  subst he
  have H4 := Lib.hid (show Below w.heap.size w w4 by repeat (first | (with_reducible exact Below.refl _ _) | (with_reducible assumption) | ((with_reducible refine bl_alloc ?_ _ ?_); (focus ((first | omega | (simp <;> omega)); done))) | ((with_reducible refine bl_set ?_ _ ?_); (focus ((first | omega | (simp <;> omega)); done))) | (with_reducible refine below_drewN ?_ _) | (with_reducible refine Below.drew ?_) | ((with_reducible refine bl_trans ?_ hb ?_); (focus ((first | omega | (simp <;> omega)); done))) | ((with_reducible refine bl_trans ?_ H3.out ?_); (focus ((first | omega | (simp <;> omega)); done)))))
  have zs4 := H4.out.size
  have SZ4 := Lib.hid (SZ3.out.later hb)
  clear hb
  go_wp2_with fail
  refine (rainLoss_any _ (HT.out.1.below H4.out) f r d f0 f1 r0 r1 d0 d1).mono ?_
  rintro e w5 ⟨he, hb⟩
  rw [← HWW.out] at he
  subst he
  have H5 := Lib.hid (show Below w.heap.size w w5 by repeat (first | (with_reducible exact Below.refl _ _) | (with_reducible assumption) | ((with_reducible refine bl_alloc ?_ _ ?_); (focus ((first | omega | (simp <;> omega)); done))) | ((with_reducible refine bl_set ?_ _ ?_); (focus ((first | omega | (simp <;> omega)); done))) | (with_reducible refine below_drewN ?_ _) | (with_reducible refine Below.drew ?_) | ((with_reducible refine bl_trans ?_ hb ?_); (focus ((first | omega | (simp <;> omega)); done))) | ((with_reducible refine bl_trans ?_ H4.out ?_); (focus ((first | omega | (simp <;> omega)); done)))))
  have zs5 := H5.out.size
  have SZ5 := Lib.hid (SZ4.out.later hb)
  clear hb
  have c0' := (H5.out.cell (p := ⟨gc, 0, none⟩) lc).trans c0
  have c1' := (H5.out.cell (p := ⟨gc, 1, none⟩) lc).trans c1
  have a0' := (H5.out.cell (p := ⟨ga, 0, none⟩) la).trans a0
  have a1' := (H5.out.cell (p := ⟨ga, 1, none⟩) la).trans a1
  have zc5 : gc < w5.heap.size := block_of_cell c0'
  have za5 : ga < w5.heap.size := block_of_cell a0'
  have zR5 : w.heap.size < w5.heap.size := SZ5.out.lt
  go_wp2_with fail
  have SO := Lib.hid (show SInv (w5.alloc (.cells #[.int .i64 F, .int .i64 G, .int .i64 W, .int .i64 0, .int .i64 0] 39)) w5.heap.size [.int .i64 F, .int .i64 G, .int .i64 W, .int .i64 0, .int .i64 0] from SInv.fresh _ _ _)
  have SZ6 := Lib.hid (SZ5.out.alloc_ (.cells #[.int .i64 F, .int .i64 G, .int .i64 W, .int .i64 0, .int .i64 0] 39))
  have H6 := Lib.hid (show Below w.heap.size w (w5.alloc (.cells #[.int .i64 F, .int .i64 G, .int .i64 W, .int .i64 0, .int .i64 0] 39)) by repeat (first | (with_reducible exact Below.refl _ _) | (with_reducible assumption) | ((with_reducible refine bl_alloc ?_ _ ?_); (focus ((first | omega | (simp <;> omega)); done))) | ((with_reducible refine bl_set ?_ _ ?_); (focus ((first | omega | (simp <;> omega)); done))) | (with_reducible refine below_drewN ?_ _) | (with_reducible refine Below.drew ?_) | ((with_reducible refine bl_trans ?_ H5.out ?_); (focus ((first | omega | (simp <;> omega)); done)))))
  have zs6 := H6.out.size
  have c0a := cell_alloc c0' (.cells #[.int .i64 F, .int .i64 G, .int .i64 W, .int .i64 0, .int .i64 0] 39)
  have c1a := cell_alloc c1' (.cells #[.int .i64 F, .int .i64 G, .int .i64 W, .int .i64 0, .int .i64 0] 39)
  have a0a := cell_alloc a0' (.cells #[.int .i64 F, .int .i64 G, .int .i64 W, .int .i64 0, .int .i64 0] 39)
  have a1a := cell_alloc a1' (.cells #[.int .i64 F, .int .i64 G, .int .i64 W, .int .i64 0, .int .i64 0] 39)
  obtain ⟨O, hO⟩ : ∃ O, O = w5.heap.size := ⟨_, rfl⟩
  obtain ⟨X, hX⟩ : ∃ X, X = w5.alloc (.cells #[.int .i64 F, .int .i64 G, .int .i64 W, .int .i64 0, .int .i64 0] 39) := ⟨_, rfl⟩
  rw [← hX] at SO SZ6 H6 c0a c1a a0a a1a ⊢
  rw [← hO] at SO zc5 za5 zR5 ⊢
  clear hO hX c0 c1 a0 a1 c0' c1' a0' a1'
  have HCL : Hid (∀ (V : World) (k : Nat) (x L : Int), k < 8 → 0 ≤ x → x ≤ 90000 → L = lossOf (heights.getD k 0) (weights.getD k 0) (share f) x → Below w.heap.size w V → Calls Tryd.prog 58 #[.int .i64 k, .int .i64 f, .int .i64 x] V fun e w' => e = .returned (.int .i64 L) ∧ Below V.heap.size V w') := fun V k x L hk q0 q1 hL hV => by
    rw [hL]
    exact clutterLoss_any V (HT.out.2.later hV) k hk f f0 f1 x q0 q1
  have i1 : IntKind.i64.wrap (C + E) = C + E := by rw [IntKind.wrap_i64]; omega
  go_region_held3 (fun w' => w'.cell? ⟨gc, 0, none⟩ = some (.int .i64 j0) ∧ w'.cell? ⟨gc, 1, none⟩ = some (.int .i64 j1) ∧ w'.cell? ⟨ga, 0, none⟩ = some (.int .i64 A0) ∧ w'.cell? ⟨ga, 1, none⟩ = some (.int .i64 A1))
    (((try go_split_ands); (refine ⟨?_, ?_, ?_, ?_⟩ <;> (repeat (first | (with_reducible assumption) | (with_reducible refine cell_drew ?_) | (with_reducible refine keeps hb ?_) | ((with_reducible refine cell_set1 ?_ ?_); (focus (omega; done))))))))
    (first
      | (go_at_call 58; ((with_reducible refine (HCL.out _ j0 A0 C (by omega) s0 s1 HK0.out (by repeat (first | (with_reducible exact Below.refl _ _) | (with_reducible assumption) | ((with_reducible refine bl_alloc ?_ _ ?_); (focus ((first | omega | (simp <;> omega)); done))) | ((with_reducible refine bl_set ?_ _ ?_); (focus ((first | omega | (simp <;> omega)); done))) | (with_reducible refine below_drewN ?_ _) | (with_reducible refine Below.drew ?_) | ((with_reducible refine bl_trans ?_ H6.out ?_); (focus ((first | omega | (simp <;> omega)); done)))))).mono ?_); rintro e w7 ⟨rfl, hb⟩; have H7 := Lib.hid (show Below w.heap.size w w7 from H6.out.trans (Below.mono (show Below X.heap.size X w7 from ⟨hb.os, hb.tape, hb.output, hb.size, hb.block⟩) H6.out.size)); have SO7 := Lib.hid (SO.out.later (show Below X.heap.size X w7 from ⟨hb.os, hb.tape, hb.output, hb.size, hb.block⟩)); have SZ7 := Lib.hid (SZ6.out.later (show Below X.heap.size X w7 from ⟨hb.os, hb.tape, hb.output, hb.size, hb.block⟩))))
      | (go_at_call 58; ((with_reducible refine (HCL.out w7 j1 A1 E (by omega) t0 t1 HK1.out H7.out).mono ?_); rintro e w8 ⟨rfl, hb⟩; have H8 := Lib.hid (show Below w.heap.size w w8 from H7.out.trans (hb.mono H7.out.size)); have SO8 := Lib.hid (SO7.out.later hb); have SZ8 := Lib.hid (SZ7.out.later hb); have q3 := SO8.out.cell 3 _ rfl; have qf := SO8.out.free)))
  have SO9 := Lib.hid (SO8.out.set 3 (by simp) (.int .i64 (C + E)))
  have SZ9 := Lib.hid (SZ8.out.other (p := ⟨O, 3, none⟩) (by show O ≠ w.heap.size; omega) (.int .i64 (C + E)))
  have H9 := Lib.hid (show Below w.heap.size w (w8.setCell ⟨O, 3, none⟩ (.int .i64 (C + E))) from bl_set (show w.heap.size ≤ O by omega) _ H8.out)
  have zs9 := H9.out.size
  obtain ⟨Y, hY⟩ : ∃ Y, Y = w8.setCell ⟨O, 3, none⟩ (.int .i64 (C + E)) := ⟨_, rfl⟩
  rw [← hY] at SO9 SZ9 H9 ⊢
  clear hY q3 qf
  have v0 := SO9.out.cell 0 _ rfl
  have v1 := SO9.out.cell 1 _ rfl
  have v2 := SO9.out.cell 2 _ rfl
  have v3 := SO9.out.cell 3 _ rfl
  have v4 := SO9.out.cell 4 _ rfl
  have vf := SO9.out.free
  have z0 := SZ9.out.cell 0 _ rfl
  have z1 := SZ9.out.cell 1 _ rfl
  have z2 := SZ9.out.cell 2 _ rfl
  have z3 := SZ9.out.cell 3 _ rfl
  have z4 := SZ9.out.cell 4 _ rfl
  have zf := SZ9.out.free
  have lO : O < Y.heap.size := SO9.out.lt
  have hne : ¬ O = w.heap.size := by omega
  have hne2 : ¬ w.heap.size = O := by omega
  go_wp2_with fail
  refine bodyPost_ret (v := .tuple #[.agg #[.int .i64 F, .int .i64 G, .int .i64 W, .int .i64 (C + E), .int .i64 (F + G + W + (C + E))], .int .i64 0]) (by simp [results, Tryd.results19, go_sem, *]) rfl ⟨rfl, by repeat (first | (with_reducible exact Below.refl _ _) | (with_reducible assumption) | ((with_reducible refine bl_alloc ?_ _ ?_); (focus ((first | omega | (simp <;> omega)); done))) | ((with_reducible refine bl_set ?_ _ ?_); (focus ((first | omega | (simp <;> omega)); done))) | (with_reducible refine below_drewN ?_ _) | (with_reducible refine Below.drew ?_) | ((with_reducible refine bl_trans ?_ H9.out ?_); (focus ((first | omega | (simp <;> omega)); done))))⟩
end Go.Proofs.YtlpjcebpfmhpnaaDoor.ofLossesOf
