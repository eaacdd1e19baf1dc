/-
  Contracts of LossesOf: the reference's. The conditions are the hypotheses.
-/
import Derived.Test.YtlpjcebpfmhpnaaDoorRows
import Derived.Test.YtlpjcebpfmhpnaaDoorLib
import Derived.Test.YtlpjcebpfmhpnaaDoorInt
import Derived.Test.YtlpjcebpfmhpnaaDoorWithin
import Derived.Test.YtlpjcebpfmhpnaaDoorAll
import Derived.Test.YtlpjcebpfmhpnaaDoorTab
import Derived.Test.YtlpjcebpfmhpnaaDoorGas
import Derived.Test.YtlpjcebpfmhpnaaDoorRain
import Derived.Test.YtlpjcebpfmhpnaaDoorFree
import Derived.Test.YtlpjcebpfmhpnaaDoorDec
import Derived.Test.YtlpjcebpfmhpnaaDoorClutter
import Derived.Test.YtlpjcebpfmhpnaaDoorClutL
import Derived.Test.YtlpjcebpfmhpnaaDoorOwn
import Derived.Test.YtlpjcebpfmhpnaaDoorField
import Derived.Outline
import Derived.Deep.RegionHeld3
import Derived.Deep.DrawnRows
import Derived.Deep.RegionLaw
import Derived.Test.YtlpjcebpfmhpnaaDoorLosB
namespace Go.Proofs.YtlpjcebpfmhpnaaDoor.ofLossesOf
open Go.RowKit Go.Proofs.YtlpjcebpfmhpnaaDoor.ofClutterLoss
set_option linter.unusedSimpArgs false
set_option linter.unusedVariables false
attribute [local go_sem ↓] Go.wp_at_zero Go.wp_at_succ
set_option maxRecDepth 20000 in
set_option maxHeartbeats 8000000 in
theorem spec_any (w : World) (f : Int) (jf : In64 f) (d : Int) (jd : In64 d) (r : Int) (jr : In64 r) (v : Value) (cs : List Int) (p : Nat) (hv : Row 2 w p v cs) (ics : ∀ n ∈ cs, In64 n) (u : Value) (bs : List Int) (q : Nat) (hu : Row 2 w q u bs) (ias : ∀ n ∈ bs, In64 n) :
    Calls Tryd.prog 17 #[.int .i64 f, .int .i64 d, .int .i64 r, v, u] w fun e w' => e = .returned (.tuple #[.agg #[.int .i64 (losR f d r cs bs).1, .int .i64 (losR f d r cs bs).2.1, .int .i64 (losR f d r cs bs).2.2.1, .int .i64 (losR f d r cs bs).2.2.2.1, .int .i64 (losR f d r cs bs).2.2.2.2], .int .i64 (losC f d r cs bs)]) ∧ Below w.heap.size w w' := by
  have HV := Lib.hid hv
  have HU := Lib.hid hu
  clear ics ias
  by_cases hl : cs.length = 2 ∧ bs.length = 2
  rotate_left
  · obtain ⟨e1, e2⟩ := los_len (f := f) (d := d) (r := r) hl
    rw [e1, e2]
    clear e1 e2
    have fc : ∃ A c, v = .slice A cs.length c := by rcases hv.forms with ⟨rfl, rfl⟩ | ⟨g, c, rfl, _⟩ <;> exact ⟨_, _, rfl⟩
    have fa : ∃ A c, u = .slice A bs.length c := by rcases hu.forms with ⟨rfl, rfl⟩ | ⟨g, c, rfl, _⟩ <;> exact ⟨_, _, rfl⟩
    obtain ⟨A, c, rfl⟩ := fc
    obtain ⟨A', c', rfl⟩ := fa
    clear hv hu HV HU
    generalize cs.length = n at *
    generalize bs.length = m at *
    by_cases h2 : n = 2
    · have h3 : ¬ m = 2 := fun h => hl ⟨h2, h⟩
      have b1 : ((m : Int) != 2) = true := by rw [bne_iff_ne]; omega
      have b2 : (m != 2) = true := by rw [bne_iff_ne]; exact h3
      have b3 : (m == 2) = false := by simpa using h3
      have b4 : ((m : Int) == 2) = false := by rw [beq_eq_false_iff_ne]; omega
      clear hl h3
      subst h2
      go_enter Tryd.func17, Tryd.ntmps17
      go_wp2_with fail
      all_goals refine bodyPost_ret (v := .tuple #[.agg #[.int .i64 0, .int .i64 0, .int .i64 0, .int .i64 0, .int .i64 0], .int .i64 6]) (by simp [results, Tryd.results17, go_sem, *]) rfl ⟨rfl, by repeat (first | (with_reducible exact Below.refl _ _) | (with_reducible assumption) | ((with_reducible refine bl_alloc ?_ _ ?_); (focus ((first | omega | (simp <;> omega)); done))) | ((with_reducible refine bl_set ?_ _ ?_); (focus ((first | omega | (simp <;> omega)); done))) | (with_reducible refine below_drewN ?_ _) | (with_reducible refine Below.drew ?_))⟩
    · have b1 : ((n : Int) != 2) = true := by rw [bne_iff_ne]; omega
      have b2 : (n != 2) = true := by rw [bne_iff_ne]; exact h2
      have b3 : (n == 2) = false := by simpa using h2
      have b4 : ((n : Int) == 2) = false := by rw [beq_eq_false_iff_ne]; omega
      clear hl h2
      go_enter Tryd.func17, Tryd.ntmps17
      go_wp2_with fail
      all_goals refine bodyPost_ret (v := .tuple #[.agg #[.int .i64 0, .int .i64 0, .int .i64 0, .int .i64 0, .int .i64 0], .int .i64 6]) (by simp [results, Tryd.results17, go_sem, *]) rfl ⟨rfl, by repeat (first | (with_reducible exact Below.refl _ _) | (with_reducible assumption) | ((with_reducible refine bl_alloc ?_ _ ?_); (focus ((first | omega | (simp <;> omega)); done))) | ((with_reducible refine bl_set ?_ _ ?_); (focus ((first | omega | (simp <;> omega)); done))) | (with_reducible refine below_drewN ?_ _) | (with_reducible refine Below.drew ?_))⟩
  obtain ⟨hl1, hl2⟩ := hl
  obtain ⟨gc, cc, rfl, lc, c0, c1⟩ := two_of hv hl1
  obtain ⟨ga, ca, rfl, la, a0, a1⟩ := two_of hu hl2
  have HL1 := Lib.hid hl1
  have HL2 := Lib.hid hl2
  clear hv hu
  rcases in_cases f 1 100000000 with ⟨f0, f1⟩ | t | ⟨f0, t⟩
  rotate_left
  · obtain ⟨e1, e2⟩ := los_out (f := f) (d := d) (r := r) hl1 hl2 (fun h => dec_no t h.1.1)
    rw [e1, e2]
    clear e1 e2 hl1 hl2
    go_enter Tryd.func17, Tryd.ntmps17
    go_wp2_with (first | (go_at_call 49; go_in) | (go_at_call 41; go_in) | (go_at_call 42; go_in) | (go_at_call 43; go_in) | (go_at_call 48; go_in))
    all_goals refine bodyPost_ret (v := .tuple #[.agg #[.int .i64 0, .int .i64 0, .int .i64 0, .int .i64 0, .int .i64 0], .int .i64 2]) (by simp [results, Tryd.results17, go_sem, *]) rfl ⟨rfl, by repeat (first | (with_reducible exact Below.refl _ _) | (with_reducible assumption) | ((with_reducible refine bl_alloc ?_ _ ?_); (focus ((first | omega | (simp <;> omega)); done))) | ((with_reducible refine bl_set ?_ _ ?_); (focus ((first | omega | (simp <;> omega)); done))) | (with_reducible refine below_drewN ?_ _) | (with_reducible refine Below.drew ?_))⟩
  · obtain ⟨e1, e2⟩ := los_out (f := f) (d := d) (r := r) hl1 hl2 (fun h => dec_no t h.1.2)
    rw [e1, e2]
    clear e1 e2 hl1 hl2
    go_enter Tryd.func17, Tryd.ntmps17
    go_wp2_with (first | (go_at_call 49; go_in) | (go_at_call 41; go_in) | (go_at_call 42; go_in) | (go_at_call 43; go_in) | (go_at_call 48; go_in))
    all_goals refine bodyPost_ret (v := .tuple #[.agg #[.int .i64 0, .int .i64 0, .int .i64 0, .int .i64 0, .int .i64 0], .int .i64 2]) (by simp [results, Tryd.results17, go_sem, *]) rfl ⟨rfl, by repeat (first | (with_reducible exact Below.refl _ _) | (with_reducible assumption) | ((with_reducible refine bl_alloc ?_ _ ?_); (focus ((first | omega | (simp <;> omega)); done))) | ((with_reducible refine bl_set ?_ _ ?_); (focus ((first | omega | (simp <;> omega)); done))) | (with_reducible refine below_drewN ?_ _) | (with_reducible refine Below.drew ?_))⟩
  rcases in_cases d 1 283000 with ⟨d0, d1⟩ | t | ⟨d0, t⟩
  rotate_left
  · obtain ⟨e1, e2⟩ := los_out (f := f) (d := d) (r := r) hl1 hl2 (fun h => dec_no t h.2.1.1)
    rw [e1, e2]
    clear e1 e2 hl1 hl2
    go_enter Tryd.func17, Tryd.ntmps17
    go_wp2_with (first | (go_at_call 49; go_in) | (go_at_call 41; go_in) | (go_at_call 42; go_in) | (go_at_call 43; go_in) | (go_at_call 48; go_in))
    all_goals refine bodyPost_ret (v := .tuple #[.agg #[.int .i64 0, .int .i64 0, .int .i64 0, .int .i64 0, .int .i64 0], .int .i64 2]) (by simp [results, Tryd.results17, go_sem, *]) rfl ⟨rfl, by repeat (first | (with_reducible exact Below.refl _ _) | (with_reducible assumption) | ((with_reducible refine bl_alloc ?_ _ ?_); (focus ((first | omega | (simp <;> omega)); done))) | ((with_reducible refine bl_set ?_ _ ?_); (focus ((first | omega | (simp <;> omega)); done))) | (with_reducible refine below_drewN ?_ _) | (with_reducible refine Below.drew ?_))⟩
  · obtain ⟨e1, e2⟩ := los_out (f := f) (d := d) (r := r) hl1 hl2 (fun h => dec_no t h.2.1.2)
    rw [e1, e2]
    clear e1 e2 hl1 hl2
    go_enter Tryd.func17, Tryd.ntmps17
    go_wp2_with (first | (go_at_call 49; go_in) | (go_at_call 41; go_in) | (go_at_call 42; go_in) | (go_at_call 43; go_in) | (go_at_call 48; go_in))
    all_goals refine bodyPost_ret (v := .tuple #[.agg #[.int .i64 0, .int .i64 0, .int .i64 0, .int .i64 0, .int .i64 0], .int .i64 2]) (by simp [results, Tryd.results17, go_sem, *]) rfl ⟨rfl, by repeat (first | (with_reducible exact Below.refl _ _) | (with_reducible assumption) | ((with_reducible refine bl_alloc ?_ _ ?_); (focus ((first | omega | (simp <;> omega)); done))) | ((with_reducible refine bl_set ?_ _ ?_); (focus ((first | omega | (simp <;> omega)); done))) | (with_reducible refine below_drewN ?_ _) | (with_reducible refine Below.drew ?_))⟩
  rcases in_cases r 0 200 with ⟨r0, r1⟩ | t | ⟨r0, t⟩
  rotate_left
  · obtain ⟨e1, e2⟩ := los_out (f := f) (d := d) (r := r) hl1 hl2 (fun h => dec_no t h.2.2.1.1)
    rw [e1, e2]
    clear e1 e2 hl1 hl2
    go_enter Tryd.func17, Tryd.ntmps17
    go_wp2_with (first | (go_at_call 49; go_in) | (go_at_call 41; go_in) | (go_at_call 42; go_in) | (go_at_call 43; go_in) | (go_at_call 48; go_in))
    all_goals refine bodyPost_ret (v := .tuple #[.agg #[.int .i64 0, .int .i64 0, .int .i64 0, .int .i64 0, .int .i64 0], .int .i64 2]) (by simp [results, Tryd.results17, go_sem, *]) rfl ⟨rfl, by repeat (first | (with_reducible exact Below.refl _ _) | (with_reducible assumption) | ((with_reducible refine bl_alloc ?_ _ ?_); (focus ((first | omega | (simp <;> omega)); done))) | ((with_reducible refine bl_set ?_ _ ?_); (focus ((first | omega | (simp <;> omega)); done))) | (with_reducible refine below_drewN ?_ _) | (with_reducible refine Below.drew ?_))⟩
  · obtain ⟨e1, e2⟩ := los_out (f := f) (d := d) (r := r) hl1 hl2 (fun h => dec_no t h.2.2.1.2)
    rw [e1, e2]
    clear e1 e2 hl1 hl2
    go_enter Tryd.func17, Tryd.ntmps17
    go_wp2_with (first | (go_at_call 49; go_in) | (go_at_call 41; go_in) | (go_at_call 42; go_in) | (go_at_call 43; go_in) | (go_at_call 48; go_in))
    all_goals refine bodyPost_ret (v := .tuple #[.agg #[.int .i64 0, .int .i64 0, .int .i64 0, .int .i64 0, .int .i64 0], .int .i64 2]) (by simp [results, Tryd.results17, go_sem, *]) rfl ⟨rfl, by repeat (first | (with_reducible exact Below.refl _ _) | (with_reducible assumption) | ((with_reducible refine bl_alloc ?_ _ ?_); (focus ((first | omega | (simp <;> omega)); done))) | ((with_reducible refine bl_set ?_ _ ?_); (focus ((first | omega | (simp <;> omega)); done))) | (with_reducible refine below_drewN ?_ _) | (with_reducible refine Below.drew ?_))⟩
  have HCC := Lib.hid (two_cells c0 c1)
  have HAC := Lib.hid (two_cells a0 a1)
  have SZ0 := Lib.hid (SInv.fresh w #[.int .i64 0, .int .i64 0, .int .i64 0, .int .i64 0, .int .i64 0] 39)
  have H0 := Lib.hid (show Below w.heap.size w (w.alloc (.cells #[.int .i64 0, .int .i64 0, .int .i64 0, .int .i64 0, .int .i64 0] 39)) by repeat (first | (with_reducible exact Below.refl _ _) | (with_reducible assumption) | ((with_reducible refine bl_alloc ?_ _ ?_); (focus ((first | omega | (simp <;> omega)); done))) | ((with_reducible refine bl_set ?_ _ ?_); (focus ((first | omega | (simp <;> omega)); done))) | (with_reducible refine below_drewN ?_ _) | (with_reducible refine Below.drew ?_)))
  have zs0 := H0.out.size
  clear c0 c1 a0 a1 HV HU
  obtain ⟨F0, F1⟩ := freeV_bd (f := f) (d := d) (by omega) (by omega)
  obtain ⟨G0, G1⟩ := gasV_bd (f := f) d0 d1
  obtain ⟨W0, W1⟩ := wetV_bd (f := f) (rain := r) (d := d) r0 r1 ⟨d0, d1⟩
  obtain ⟨T0, T1⟩ := gas_bd (f / 1000)
  obtain ⟨m1, m2⟩ := mul_nn (A := 15000) (B := 283000) (show 0 ≤ tabAt (f / 1000) gasTab by omega) T1 (show 0 ≤ d by omega) d1
  have HGV : Hid (gasV f d = rdiv (tabAt (f / 1000) gasTab * d) 1000) := rfl
  have HDONE := Lib.hid (fun k => los_done (f := f) (d := d) (r := r) (cs := cs) (bs := bs) (k := k) hl1 hl2 ⟨f0, f1⟩ ⟨d0, d1⟩ ⟨r0, r1⟩)
  have HCLASS := Lib.hid (fun k => los_class (f := f) (d := d) (r := r) (cs := cs) (bs := bs) (k := k) hl1 hl2)
  have HABOVE := Lib.hid (fun k => los_above (f := f) (d := d) (r := r) (cs := cs) (bs := bs) (k := k) hl1 hl2)
  obtain ⟨F, hF⟩ : ∃ F, F = freeV f d := ⟨_, rfl⟩
  obtain ⟨G, hG⟩ : ∃ G, G = gasV f d := ⟨_, rfl⟩
  obtain ⟨W, hW⟩ : ∃ W, W = wetV f r d := ⟨_, rfl⟩
  obtain ⟨T, hT⟩ : ∃ T, T = tabAt (f / 1000) gasTab := ⟨_, rfl⟩
  rw [← hF, ← hG, ← hW] at HDONE
  rw [← hF] at F0 F1
  rw [← hG] at G0 G1 HGV
  rw [← hW] at W0 W1
  rw [← hT] at T0 T1 m1 m2 HGV
  have HF := Lib.hid hF
  have HWW := Lib.hid hW
  have HTT := Lib.hid hT
  clear hF hG hW hT hl1 hl2
  have i1 : IntKind.i64.wrap (T * d) = T * d := by rw [IntKind.wrap_i64]; omega
  go_enter Tryd.func17, Tryd.ntmps17
  go_wp2_with (first | (go_at_call 49; go_in) | (go_at_call 41; go_in) | (go_at_call 42; go_in) | (go_at_call 43; go_in) | (go_at_call 48; go_in))
  refine (l09Loss_any _ f d f0 f1 d0 (by omega)).mono ?_
  rintro e w3 ⟨he, rfl⟩
  rw [← HF.out] at he
  subst he
  go_wp2_with fail
  refine (l11Gas_any _ f f0 f1).mono ?_
  rintro e w4 ⟨he, hb⟩
  rw [← HTT.out] at he
  subst he
  have H4 := Lib.hid (show Below w.heap.size w w4 by repeat (first | (with_reducible exact Below.refl _ _) | (with_reducible assumption) | ((with_reducible refine bl_alloc ?_ _ ?_); (focus ((first | omega | (simp <;> omega)); done))) | ((with_reducible refine bl_set ?_ _ ?_); (focus ((first | omega | (simp <;> omega)); done))) | (with_reducible refine below_drewN ?_ _) | (with_reducible refine Below.drew ?_) | ((with_reducible refine bl_trans ?_ hb ?_); (focus ((first | omega | (simp <;> omega)); done))) | ((with_reducible refine bl_trans ?_ H0.out ?_); (focus ((first | omega | (simp <;> omega)); done)))))
  have zs4 := H4.out.size
  have SZ4 := Lib.hid (SZ0.out.later hb)
  clear hb
  go_wp2_with fail
  refine (l01Div_any _ _ (by omega) (by omega) _).mono ?_
  rintro e w9 ⟨he, rfl⟩
  rw [← HGV.out] at he
  subst he
  go_wp2_with fail
  refine (l11Wet_any _ f r d f0 f1 r0 r1 d0 d1).mono ?_
  rintro e w5 ⟨he, hb⟩
  rw [← HWW.out] at he
  subst he
  have H5 := Lib.hid (show Below w.heap.size w w5 by repeat (first | (with_reducible exact Below.refl _ _) | (with_reducible assumption) | ((with_reducible refine bl_alloc ?_ _ ?_); (focus ((first | omega | (simp <;> omega)); done))) | ((with_reducible refine bl_set ?_ _ ?_); (focus ((first | omega | (simp <;> omega)); done))) | (with_reducible refine below_drewN ?_ _) | (with_reducible refine Below.drew ?_) | ((with_reducible refine bl_trans ?_ hb ?_); (focus ((first | omega | (simp <;> omega)); done))) | ((with_reducible refine bl_trans ?_ H4.out ?_); (focus ((first | omega | (simp <;> omega)); done)))))
  have zs5 := H5.out.size
  have SZ5 := Lib.hid (SZ4.out.later hb)
  clear hb
  have zR5 : w.heap.size < w5.heap.size := SZ5.out.lt
  go_wp2_with fail
  have SO := Lib.hid (show SInv (w5.alloc (.cells #[.int .i64 F, .int .i64 G, .int .i64 W, .int .i64 0, .int .i64 0] 39)) w5.heap.size [.int .i64 F, .int .i64 G, .int .i64 W, .int .i64 0, .int .i64 0] from SInv.fresh _ _ _)
  have SZ6 := Lib.hid (SZ5.out.alloc_ (.cells #[.int .i64 F, .int .i64 G, .int .i64 W, .int .i64 0, .int .i64 0] 39))
  have H6 := Lib.hid (show Below w.heap.size w (w5.alloc (.cells #[.int .i64 F, .int .i64 G, .int .i64 W, .int .i64 0, .int .i64 0] 39)) by repeat (first | (with_reducible exact Below.refl _ _) | (with_reducible assumption) | ((with_reducible refine bl_alloc ?_ _ ?_); (focus ((first | omega | (simp <;> omega)); done))) | ((with_reducible refine bl_set ?_ _ ?_); (focus ((first | omega | (simp <;> omega)); done))) | (with_reducible refine below_drewN ?_ _) | (with_reducible refine Below.drew ?_) | ((with_reducible refine bl_trans ?_ H5.out ?_); (focus ((first | omega | (simp <;> omega)); done)))))
  have zs6 := H6.out.size
  obtain ⟨O, hO⟩ : ∃ O, O = w5.heap.size := ⟨_, rfl⟩
  obtain ⟨X, hX⟩ : ∃ X, X = w5.alloc (.cells #[.int .i64 F, .int .i64 G, .int .i64 W, .int .i64 0, .int .i64 0] 39) := ⟨_, rfl⟩
  rw [← hX] at SO SZ6 H6 ⊢
  rw [← hO] at SO zR5 ⊢
  clear hO hX i1 m1 m2 T0 T1 HGV HTT HF HWW SZ0 SZ4 SZ5 H0 H4 H5 zs0 zs4 zs5 zs6
  have HCL : Hid (∀ (V : World) (j : Nat) (x L : Int), j < 8 → 0 ≤ x → x ≤ 90000 → L = lossOf (heights.getD j 0) (weights.getD j 0) (share f) x → Calls Tryd.prog 50 #[.int .i64 j, .int .i64 f, .int .i64 x] V fun e w' => e = .returned (.int .i64 L) ∧ Below V.heap.size V w') := fun V j x L hk q0 q1 hL => by
    rw [hL]
    exact l11Clutter_any V j hk f f0 f1 x q0 q1
  go_loopw [13] (fun i wr => ∃ k : Nat, k ≤ 2 ∧ i = .int .i64 (k : Int) ∧ Hid (SInv wr O [.int .i64 F, .int .i64 G, .int .i64 W, .int .i64 (cluS f cs bs k), .int .i64 0]) ∧ Hid (SInv wr w.heap.size [.int .i64 0, .int .i64 0, .int .i64 0, .int .i64 0, .int .i64 0]) ∧ Hid (Below w.heap.size w wr) ∧ Hid (∀ j, j < k → good2 cs bs j)) (fun i _ => 3 - (intOf i).toNat)
  case atStart => exact ⟨0, Nat.zero_le _, rfl, SO, SZ6, H6, (fun j h => by omega)⟩
  case round =>
    obtain ⟨k, hk, rfl, hs, hz, hbw, hg⟩ := hrel
    have k0 : (0 : Int) ≤ (k : Int) := Int.natCast_nonneg _
    have zw : w.heap.size ≤ wr.heap.size := hbw.out.size
    have zR : w.heap.size < wr.heap.size := hz.out.lt
    have zO : O < wr.heap.size := hs.out.lt
    obtain ⟨S0, S1⟩ := cluS_bd (f := f) (cs := cs) (bs := bs) (k := k) hg.out
    by_cases hlt : k < 2
    · have hlt' : (k : Int) < 2 := by omega
      have ck := (hbw.out.cell (p := ⟨gc, k, none⟩) lc).trans (HCC.out k hlt)
      have ak := (hbw.out.cell (p := ⟨ga, k, none⟩) la).trans (HAC.out k hlt)
      have hcl := HCLASS.out k hlt
      have hab := HABOVE.out k hlt
      have hgd : Hid ((0 ≤ cs.getD k 0 ∧ cs.getD k 0 ≤ 7) → (0 ≤ bs.getD k 0 ∧ bs.getD k 0 ≤ 90000) → ∀ j, j < k + 1 → good2 cs bs j) := fun p q j hj => by
        by_cases e : j = k
        · subst e; exact ⟨p, q⟩
        · exact hg.out j (by omega)
      have hcv : Hid (cluS f cs bs (k + 1) = cluS f cs bs k + lossOf (heights.getD (cs.getD k 0).toNat 0) (weights.getD (cs.getD k 0).toNat 0) (share f) (bs.getD k 0)) := rfl
      obtain ⟨S, hS⟩ : ∃ S, S = cluS f cs bs k := ⟨_, rfl⟩
      rw [← hS] at hs hcv S0 S1
      clear hS HDONE HCLASS HABOVE HCC HAC
      generalize cs.getD k 0 = x at *
      generalize bs.getD k 0 = y at *
      rcases in_cases x 0 7 with ⟨x0, x1⟩ | t | ⟨x0, t⟩
      rotate_left
      · have HB := Lib.hid (hcl (fun h => dec_no t h.1))
        clear hcl hab hgd hcv hs
        have z0 := hz.out.cell 0 _ rfl
        have z1 := hz.out.cell 1 _ rfl
        have z2 := hz.out.cell 2 _ rfl
        have z3 := hz.out.cell 3 _ rfl
        have z4 := hz.out.cell 4 _ rfl
        have zf := hz.out.free
        go_wp2_with (first | (go_at_call 49; go_in) | (go_at_call 41; go_in) | (go_at_call 42; go_in) | (go_at_call 43; go_in) | (go_at_call 48; go_in))
        all_goals refine bodyPost_ret (v := .tuple #[.agg #[.int .i64 0, .int .i64 0, .int .i64 0, .int .i64 0, .int .i64 0], .int .i64 2]) (by simp [results, Tryd.results17, go_sem, *]) rfl ⟨(by rw [HB.out.1, HB.out.2] <;> rfl), by repeat (first | (with_reducible exact Below.refl _ _) | (with_reducible assumption) | ((with_reducible refine bl_alloc ?_ _ ?_); (focus ((first | omega | (simp <;> omega)); done))) | ((with_reducible refine bl_set ?_ _ ?_); (focus ((first | omega | (simp <;> omega)); done))) | (with_reducible refine below_drewN ?_ _) | (with_reducible refine Below.drew ?_) | ((with_reducible refine bl_trans ?_ hbw.out ?_); (focus ((first | omega | (simp <;> omega)); done))))⟩
      · have HB := Lib.hid (hcl (fun h => dec_no t h.2))
        clear hcl hab hgd hcv hs
        have z0 := hz.out.cell 0 _ rfl
        have z1 := hz.out.cell 1 _ rfl
        have z2 := hz.out.cell 2 _ rfl
        have z3 := hz.out.cell 3 _ rfl
        have z4 := hz.out.cell 4 _ rfl
        have zf := hz.out.free
        go_wp2_with (first | (go_at_call 49; go_in) | (go_at_call 41; go_in) | (go_at_call 42; go_in) | (go_at_call 43; go_in) | (go_at_call 48; go_in))
        all_goals refine bodyPost_ret (v := .tuple #[.agg #[.int .i64 0, .int .i64 0, .int .i64 0, .int .i64 0, .int .i64 0], .int .i64 2]) (by simp [results, Tryd.results17, go_sem, *]) rfl ⟨(by rw [HB.out.1, HB.out.2] <;> rfl), by repeat (first | (with_reducible exact Below.refl _ _) | (with_reducible assumption) | ((with_reducible refine bl_alloc ?_ _ ?_); (focus ((first | omega | (simp <;> omega)); done))) | ((with_reducible refine bl_set ?_ _ ?_); (focus ((first | omega | (simp <;> omega)); done))) | (with_reducible refine below_drewN ?_ _) | (with_reducible refine Below.drew ?_) | ((with_reducible refine bl_trans ?_ hbw.out ?_); (focus ((first | omega | (simp <;> omega)); done))))⟩
      rcases in_cases y 0 90000 with ⟨y0, y1⟩ | t | ⟨y0, t⟩
      rotate_left
      · have HB := Lib.hid (hab (fun h => dec_no t h.1))
        clear hcl hab hgd hcv hs
        have z0 := hz.out.cell 0 _ rfl
        have z1 := hz.out.cell 1 _ rfl
        have z2 := hz.out.cell 2 _ rfl
        have z3 := hz.out.cell 3 _ rfl
        have z4 := hz.out.cell 4 _ rfl
        have zf := hz.out.free
        go_wp2_with (first | (go_at_call 49; go_in) | (go_at_call 41; go_in) | (go_at_call 42; go_in) | (go_at_call 43; go_in) | (go_at_call 48; go_in))
        all_goals refine bodyPost_ret (v := .tuple #[.agg #[.int .i64 0, .int .i64 0, .int .i64 0, .int .i64 0, .int .i64 0], .int .i64 2]) (by simp [results, Tryd.results17, go_sem, *]) rfl ⟨(by rw [HB.out.1, HB.out.2] <;> rfl), by repeat (first | (with_reducible exact Below.refl _ _) | (with_reducible assumption) | ((with_reducible refine bl_alloc ?_ _ ?_); (focus ((first | omega | (simp <;> omega)); done))) | ((with_reducible refine bl_set ?_ _ ?_); (focus ((first | omega | (simp <;> omega)); done))) | (with_reducible refine below_drewN ?_ _) | (with_reducible refine Below.drew ?_) | ((with_reducible refine bl_trans ?_ hbw.out ?_); (focus ((first | omega | (simp <;> omega)); done))))⟩
      · have HB := Lib.hid (hab (fun h => dec_no t h.2))
        clear hcl hab hgd hcv hs
        have z0 := hz.out.cell 0 _ rfl
        have z1 := hz.out.cell 1 _ rfl
        have z2 := hz.out.cell 2 _ rfl
        have z3 := hz.out.cell 3 _ rfl
        have z4 := hz.out.cell 4 _ rfl
        have zf := hz.out.free
        go_wp2_with (first | (go_at_call 49; go_in) | (go_at_call 41; go_in) | (go_at_call 42; go_in) | (go_at_call 43; go_in) | (go_at_call 48; go_in))
        all_goals refine bodyPost_ret (v := .tuple #[.agg #[.int .i64 0, .int .i64 0, .int .i64 0, .int .i64 0, .int .i64 0], .int .i64 2]) (by simp [results, Tryd.results17, go_sem, *]) rfl ⟨(by rw [HB.out.1, HB.out.2] <;> rfl), by repeat (first | (with_reducible exact Below.refl _ _) | (with_reducible assumption) | ((with_reducible refine bl_alloc ?_ _ ?_); (focus ((first | omega | (simp <;> omega)); done))) | ((with_reducible refine bl_set ?_ _ ?_); (focus ((first | omega | (simp <;> omega)); done))) | (with_reducible refine below_drewN ?_ _) | (with_reducible refine Below.drew ?_) | ((with_reducible refine bl_trans ?_ hbw.out ?_); (focus ((first | omega | (simp <;> omega)); done))))⟩
      clear hcl hab
      obtain ⟨j, rfl⟩ : ∃ j : Nat, x = (j : Int) := ⟨x.toNat, by omega⟩
      have hg1 := Lib.hid (hgd.out ⟨x0, x1⟩ ⟨y0, y1⟩)
      rw [Int.toNat_natCast] at hcv
      obtain ⟨l0, l1⟩ := clutter_bd (k := j) (by omega) (f := f) y0
      obtain ⟨L, hL⟩ : ∃ L, L = lossOf (heights.getD j 0) (weights.getD j 0) (share f) y := ⟨_, rfl⟩
      rw [← hL] at hcv l0 l1
      have HL := Lib.hid hL
      clear hL hgd
      have i1 : IntKind.i64.wrap (S + L) = S + L := by rw [IntKind.wrap_i64]; omega
      have o3 := hs.out.cell 3 _ rfl
      have of := hs.out.free
      have lgc : gc < wr.heap.size := block_of_cell ck
      have lga : ga < wr.heap.size := block_of_cell ak
      go_wp2_with (first | (go_at_call 49; go_in) | (go_at_call 41; go_in) | (go_at_call 42; go_in) | (go_at_call 43; go_in) | (go_at_call 48; go_in))
      go_region_law (first | (go_simp; go_at_call 50; ((with_reducible refine (HCL.out _ j y L (by omega) y0 y1 HL.out).mono ?_); rintro e w7 ⟨rfl, hb⟩; have hb7 : Below wr.heap.size wr w7 := ⟨hb.os, hb.tape, hb.output, hb.size, hb.block⟩; have SO7 := Lib.hid (hs.out.later hb7); have SZ7 := Lib.hid (hz.out.later hb7); have H7 := Lib.hid (show Below w.heap.size w w7 from hbw.out.trans (Below.mono hb7 hbw.out.size)); have q3 := SO7.out.cell 3 _ rfl; have qf := SO7.out.free; have ck7 := keeps hb7 ck; have ak7 := keeps hb7 ak)))
      all_goals
        have SO9 : Hid (SInv (w7.setCell ⟨O, 3, none⟩ (.int .i64 (S + L))) O [.int .i64 F, .int .i64 G, .int .i64 W, .int .i64 (cluS f cs bs (k + 1)), .int .i64 0]) := by rw [hcv.out]; exact SO7.out.set 3 (by simp) (.int .i64 (S + L))
        have SZ9 := Lib.hid (SZ7.out.other (p := ⟨O, 3, none⟩) (by show O ≠ w.heap.size; omega) (.int .i64 (S + L)))
        have H9 := Lib.hid (show Below w.heap.size w (w7.setCell ⟨O, 3, none⟩ (.int .i64 (S + L))) from bl_set (show w.heap.size ≤ O by omega) _ H7.out)
        have zs9 := H9.out.size
        go_wp2_with fail
        refine ⟨?_, ?_⟩
        · first
            | ((repeat apply Exists.intro); (refine ⟨?_, rfl⟩); (repeat (first | (with_reducible exact SO9) | (with_reducible exact SZ9) | (with_reducible exact H9) | (with_reducible exact hg1) | (refine And.intro SO9 ?_) | (refine And.intro SZ9 ?_) | (refine And.intro H9 ?_) | (refine ⟨(k + 1 : Nat), ?_⟩) | (refine And.intro (by first | (with_reducible assumption) | omega | (go_num; done)) ?_) | (with_reducible assumption) | omega)); done)
            | ((repeat (first | (with_reducible exact SO9) | (with_reducible exact SZ9) | (with_reducible exact H9) | (with_reducible exact hg1) | (refine And.intro SO9 ?_) | (refine And.intro SZ9 ?_) | (refine And.intro H9 ?_) | (refine ⟨(k + 1 : Nat), ?_⟩) | (refine And.intro (by first | (with_reducible assumption) | omega | (go_num; done)) ?_) | (with_reducible assumption) | omega)); done)
        · simp [intOf]; omega
    · have hge : 2 ≤ k := by omega
      have hgI : (2 : Int) ≤ (k : Int) := by omega
      obtain ⟨e1, e2⟩ := HDONE.out k (by omega) hg.out
      have HE := Lib.hid e1
      have HE2 := Lib.hid e2
      obtain ⟨S, hS⟩ : ∃ S, S = cluS f cs bs k := ⟨_, rfl⟩
      rw [← hS] at hs HE S0 S1
      clear hS HDONE HCLASS HABOVE HCC HAC e1 e2
      have v0 := hs.out.cell 0 _ rfl
      have v1 := hs.out.cell 1 _ rfl
      have v2 := hs.out.cell 2 _ rfl
      have v3 := hs.out.cell 3 _ rfl
      have v4 := hs.out.cell 4 _ rfl
      have vf := hs.out.free
      have z0 := hz.out.cell 0 _ rfl
      have z1 := hz.out.cell 1 _ rfl
      have z2 := hz.out.cell 2 _ rfl
      have z3 := hz.out.cell 3 _ rfl
      have z4 := hz.out.cell 4 _ rfl
      have zf := hz.out.free
      have hne : ¬ O = w.heap.size := by omega
      have hne2 : ¬ w.heap.size = O := by omega
      have i1 : IntKind.i64.wrap (F + G) = F + G := by rw [IntKind.wrap_i64]; omega
      have i2 : IntKind.i64.wrap (F + G + W) = F + G + W := by rw [IntKind.wrap_i64]; omega
      have i3 : IntKind.i64.wrap (F + G + W + S) = F + G + W + S := by rw [IntKind.wrap_i64]; omega
      go_wp2_with fail
      refine bodyPost_ret (v := .tuple #[.agg #[.int .i64 F, .int .i64 G, .int .i64 W, .int .i64 S, .int .i64 (F + G + W + S)], .int .i64 0]) (by simp [results, Tryd.results17, go_sem, *]) rfl ⟨(by rw [HE.out, HE2.out] <;> rfl), by repeat (first | (with_reducible exact Below.refl _ _) | (with_reducible assumption) | ((with_reducible refine bl_alloc ?_ _ ?_); (focus ((first | omega | (simp <;> omega)); done))) | ((with_reducible refine bl_set ?_ _ ?_); (focus ((first | omega | (simp <;> omega)); done))) | (with_reducible refine below_drewN ?_ _) | (with_reducible refine Below.drew ?_) | ((with_reducible refine bl_trans ?_ hbw.out ?_); (focus ((first | omega | (simp <;> omega)); done))))⟩
end Go.Proofs.YtlpjcebpfmhpnaaDoor.ofLossesOf
