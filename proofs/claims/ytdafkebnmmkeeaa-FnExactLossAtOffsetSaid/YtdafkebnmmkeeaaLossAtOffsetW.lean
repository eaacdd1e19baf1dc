/-
  The walk of FnExactLossAtOffset: it returns true, and of what was there nothing has turned. The conditions are what its arguments' readings give.
-/
import Derived.Test.YtdafkebnmmkeeaaRows
import Derived.Test.YtdafkebnmmkeeaaLib
import Derived.Test.YtdafkebnmmkeeaaInts
import Derived.Test.YtdafkebnmmkeeaaMask
import Derived.Test.YtdafkebnmmkeeaaWithin
import Derived.Test.YtdafkebnmmkeeaaMaskB
import Derived.Test.YtdafkebnmmkeeaaRises
import Derived.Test.YtdafkebnmmkeeaaMaskI
import Derived.Test.YtdafkebnmmkeeaaMaskS
import Derived.Test.YtdafkebnmmkeeaaInt
import Derived.Test.YtdafkebnmmkeeaaTab
import Derived.Test.YtdafkebnmmkeeaaLoss
import Derived.Outline
import Derived.Deep.RegionHeld3
import Derived.Deep.DrawnRows
namespace Go.Proofs.Ytdafkebnmmkeeaa.fnExactLossAtOffset
open Go.RowKit Go.ChangeShapes Go.WideShapes Go.ChangeAt
set_option linter.unusedVariables false
set_option linter.unusedSimpArgs false

attribute [local go_sem ↓] Go.wp_at_zero Go.wp_at_succ
def lossM (xs ys : List Int) (t : Int) : Int × Int := if maskB xs ys = true then (if -1000000 ≤ t ∧ t ≤ 1000000 then (tabAt (absV t) (xs.zip ys), 0) else (0, 2)) else (0, 1)
theorem lossM_bad {xs ys : List Int} {t : Int} (h : maskB xs ys = false) : lossM xs ys t = (0, 1) := if_neg (by rw [h]; decide)
theorem lossM_out {xs ys : List Int} {t : Int} (h : maskB xs ys = true) (h1 : ¬ (-1000000 ≤ t ∧ t ≤ 1000000)) : lossM xs ys t = (0, 2) := by
  unfold lossM
  rw [if_pos h, if_neg h1]
theorem lossM_yes {xs ys : List Int} {t : Int} (h : maskB xs ys = true) (h1 : -1000000 ≤ t ∧ t ≤ 1000000) : lossM xs ys t = (tabAt (absV t) (xs.zip ys), 0) := by
  unfold lossM
  rw [if_pos h, if_pos h1]
theorem two_bools (b : Bool) : b = true ∨ b = false := by cases b <;> simp
theorem getD_get {α : Type} (l : List α) (d : α) {k : Nat} (h : k < l.length) : l.getD k d = l[k] := by simp [List.getD, h]
theorem zip_getD {xs ys : List Int} (h : ys.length = xs.length) {k : Nat} (hk : k < xs.length) : (xs.zip ys).getD k (0, 0) = (xs.getD k 0, ys.getD k 0) := by
  have h1 : k < (xs.zip ys).length := by rw [List.length_zip]; omega
  have h2 : k < ys.length := by omega
  rw [getD_get _ _ h1, getD_get _ _ hk, getD_get _ _ h2, List.getElem_zip]
/-- What a valid mask's two rows give as a table. -/
theorem mask_tab {xs ys : List Int} (h : maskB xs ys = true) {w : World} {a b : Value} {p q : Nat} (ha : Row 2 w p a xs) (hb : Row 2 w q b ys) :
    ∃ (n ga ca gb cb : Nat), a = .slice (some ⟨ga, 0, none⟩) n ca ∧ b = .slice (some ⟨gb, 0, none⟩) n cb ∧ (xs.zip ys).length = n ∧ 2 ≤ n ∧ n ≤ 12 ∧ (∀ r ∈ xs.zip ys, Mid r.1 ∧ Mid r.2) ∧
      (∀ k, k + 1 < n → ((xs.zip ys).getD k (0, 0)).1 < ((xs.zip ys).getD (k + 1) (0, 0)).1) ∧
      (∀ k, k < n → w.cell? ⟨ga, k, none⟩ = some (.int .i64 ((xs.zip ys).getD k (0, 0)).1) ∧ w.cell? ⟨gb, k, none⟩ = some (.int .i64 ((xs.zip ys).getD k (0, 0)).2)) := by
  obtain ⟨n2, n12, hl, _, _, hr, hs⟩ := mask_parts h
  rcases ha.forms with ⟨_, h0⟩ | ⟨ga, ca, rfl, _, la, hc, _⟩
  · rw [h0] at n2; simp at n2
  rcases hb.forms with ⟨_, h0⟩ | ⟨gb, cb, rfl, _, lb, hd, _⟩
  · rw [h0] at hl; simp at hl; omega
  refine ⟨xs.length, ga, ca, gb, cb, rfl, by rw [hl], by rw [List.length_zip]; omega, n2, n12, ?_, ?_, ?_⟩
  · intro r hm
    obtain ⟨k, hk, rfl⟩ := List.getElem_of_mem hm
    have hk' : k < xs.length := by rw [List.length_zip] at hk; omega
    have e : (xs.zip ys)[k] = (xs.getD k 0, ys.getD k 0) := by rw [← zip_getD hl hk', getD_get _ _ hk]
    rw [e]
    have h1 := (hr k hk').1
    have h2 := (hs k (by omega)).1
    exact ⟨⟨by show -2000000 ≤ xs.getD k 0; omega, by show xs.getD k 0 ≤ 2000000; omega⟩, ⟨by show -2000000 ≤ ys.getD k 0; omega, by show ys.getD k 0 ≤ 2000000; omega⟩⟩
  · intro k hk
    rw [zip_getD hl (by omega), zip_getD hl hk]
    have := (hr (k + 1) hk).2 (by omega)
    simpa using this
  · intro k hk
    rw [zip_getD hl hk]
    exact ⟨hc k hk, hd k (by omega)⟩
set_option maxRecDepth 20000 in
set_option maxHeartbeats 4000000 in
theorem spec_any (w : World) (a : Value) (xs : List Int) (p : Nat) (ha : Row 2 w p a xs) (ixs : ∀ n ∈ xs, In64 n) (b : Value) (ys : List Int) (q : Nat) (hb : Row 2 w q b ys) (iys : ∀ n ∈ ys, In64 n) (t : Int) (it : In64 t) :
    Calls Try.prog 18 #[.agg #[a, b], .int .i64 t] w fun e w' => e = .returned (.tuple #[.int .i64 (lossM xs ys t).1, .int .i64 (lossM xs ys t).2]) ∧ Below w.heap.size w w' := by
  have HA := Lib.hid ha
  have HB := Lib.hid hb
  obtain ⟨j0, j1⟩ := it
  clear ha hb ixs iys
  rcases two_bools (maskB xs ys) with h | h
  rotate_left
  · rw [lossM_bad h]
    have HE := Lib.hid h
    clear h
    go_enter Try.func18, Try.ntmps18
    go_wp2_with fail
    refine (l08Ok_any _ _ a xs p (HA.out.alloc_ _) b ys q (HB.out.alloc_ _) (by simp [go_sem]) (by simp [go_sem])).mono ?_
    rintro e w1 ⟨he, k, rfl⟩
    rw [HE.out] at he
    subst he
    go_wp2_with fail
    go_ret2
    exact ⟨rfl, by repeat (first | (with_reducible exact Below.refl _ _) | (with_reducible assumption) | ((with_reducible refine bl_alloc ?_ _ ?_); (focus ((first | omega | (simp <;> omega)); done))) | ((with_reducible refine bl_set ?_ _ ?_); (focus ((first | omega | (simp <;> omega)); done))) | (with_reducible refine below_drewN ?_ _) | (with_reducible refine Below.drew ?_))⟩
  rcases in_cases t (-1000000) 1000000 with ⟨t0, u0⟩ | t0 | ⟨t0, u0⟩
  · rw [lossM_yes h ⟨t0, u0⟩]
    obtain ⟨n, ga, ca, gb, cb, rfl, rfl, n1, n2, n3, hm, hr, hc⟩ := mask_tab h HA.out HB.out
    obtain ⟨K, hK⟩ : ∃ K, K = tabAt (absV t) (xs.zip ys) := ⟨_, rfl⟩
    rw [← hK]
    have HK := Lib.hid hK
    have HE := Lib.hid h
    have HM := Lib.hid hm
    have HR := Lib.hid hr
    have HC := Lib.hid hc
    have HN := Lib.hid n1
    clear h hm hr hc n1 hK
    go_enter Try.func18, Try.ntmps18
    go_wp2_with fail
    refine (l08Ok_any _ _ _ xs p (HA.out.alloc_ _) _ ys q (HB.out.alloc_ _) (by simp [go_sem]) (by simp [go_sem])).mono ?_
    rintro e w1 ⟨he, k, rfl⟩
    rw [HE.out] at he
    subst he
    go_wp2_with (first | (go_at_call 71; go_in) | (go_at_call 63; go_in))
    refine (l08Loss_any (xs.zip ys) t t0 u0 w.heap.size ga gb n ca cb HN.out n2 (by omega) HM.out HR.out ((w.alloc (.cells #[.slice (some ⟨ga, 0, none⟩) n ca, .slice (some ⟨gb, 0, none⟩) n cb] 39)).drewN k) (by simp [go_sem]) (by simp [go_sem]) (fun k hk => ⟨cell_alloc (HC.out k hk).1 _, cell_alloc (HC.out k hk).2 _⟩)).mono ?_
    rintro e w2 ⟨he, k', rfl⟩
    rw [← HK.out] at he
    subst he
    go_wp2_with fail
    go_ret2
    exact ⟨rfl, by repeat (first | (with_reducible exact Below.refl _ _) | (with_reducible assumption) | ((with_reducible refine bl_alloc ?_ _ ?_); (focus ((first | omega | (simp <;> omega)); done))) | ((with_reducible refine bl_set ?_ _ ?_); (focus ((first | omega | (simp <;> omega)); done))) | (with_reducible refine below_drewN ?_ _) | (with_reducible refine Below.drew ?_))⟩
  · rw [lossM_out h (fun q => dec_no t0 q.1)]
    have HE := Lib.hid h
    clear h
    go_enter Try.func18, Try.ntmps18
    go_wp2_with fail
    refine (l08Ok_any _ _ a xs p (HA.out.alloc_ _) b ys q (HB.out.alloc_ _) (by simp [go_sem]) (by simp [go_sem])).mono ?_
    rintro e w1 ⟨he, k, rfl⟩
    rw [HE.out] at he
    subst he
    go_wp2_with (first | (go_at_call 71; go_in) | (go_at_call 63; go_in))
    all_goals go_ret2
    all_goals exact ⟨rfl, by repeat (first | (with_reducible exact Below.refl _ _) | (with_reducible assumption) | ((with_reducible refine bl_alloc ?_ _ ?_); (focus ((first | omega | (simp <;> omega)); done))) | ((with_reducible refine bl_set ?_ _ ?_); (focus ((first | omega | (simp <;> omega)); done))) | (with_reducible refine below_drewN ?_ _) | (with_reducible refine Below.drew ?_))⟩
  · rw [lossM_out h (fun q => dec_no u0 q.2)]
    have HE := Lib.hid h
    clear h
    go_enter Try.func18, Try.ntmps18
    go_wp2_with fail
    refine (l08Ok_any _ _ a xs p (HA.out.alloc_ _) b ys q (HB.out.alloc_ _) (by simp [go_sem]) (by simp [go_sem])).mono ?_
    rintro e w1 ⟨he, k, rfl⟩
    rw [HE.out] at he
    subst he
    go_wp2_with (first | (go_at_call 71; go_in) | (go_at_call 63; go_in))
    all_goals go_ret2
    all_goals exact ⟨rfl, by repeat (first | (with_reducible exact Below.refl _ _) | (with_reducible assumption) | ((with_reducible refine bl_alloc ?_ _ ?_); (focus ((first | omega | (simp <;> omega)); done))) | ((with_reducible refine bl_set ?_ _ ?_); (focus ((first | omega | (simp <;> omega)); done))) | (with_reducible refine below_drewN ?_ _) | (with_reducible refine Below.drew ?_))⟩
set_option maxRecDepth 20000 in
set_option maxHeartbeats 4000000 in
theorem impl_any (w : World) (a : Value) (xs : List Int) (p : Nat) (ha : Row 2 w p a xs) (ixs : ∀ n ∈ xs, In64 n) (b : Value) (ys : List Int) (q : Nat) (hb : Row 2 w q b ys) (iys : ∀ n ∈ ys, In64 n) (t : Int) (it : In64 t) :
    Calls Try.prog 20 #[.agg #[a, b], .int .i64 t] w fun e w' => e = .returned (.tuple #[.int .i64 (lossM xs ys t).1, .int .i64 (lossM xs ys t).2]) ∧ Below w.heap.size w w' := by
  have HA := Lib.hid ha
  have HB := Lib.hid hb
  obtain ⟨j0, j1⟩ := it
  clear ha hb ixs iys
  rcases two_bools (maskB xs ys) with h | h
  rotate_left
  · rw [lossM_bad h]
    have HE := Lib.hid h
    clear h
    go_enter Try.func20, Try.ntmps20
    go_wp2_with fail
    refine (ValidMask_any _ a xs p (by first | exact HA.out | exact HA.out.alloc_ _) b ys q (by first | exact HB.out | exact HB.out.alloc_ _)).mono ?_
    rintro e w1 ⟨he, hb⟩
    rw [HE.out] at he
    subst he
    have H1 := Lib.hid (show Below w.heap.size w w1 by repeat (first | (with_reducible exact Below.refl _ _) | (with_reducible assumption) | ((with_reducible refine bl_alloc ?_ _ ?_); (focus ((first | omega | (simp <;> omega)); done))) | ((with_reducible refine bl_set ?_ _ ?_); (focus ((first | omega | (simp <;> omega)); done))) | (with_reducible refine below_drewN ?_ _) | (with_reducible refine Below.drew ?_) | ((with_reducible refine bl_trans ?_ hb ?_); (focus ((first | omega | (simp <;> omega)); done)))))
    clear hb
    go_wp2_with fail
    go_ret2
    exact ⟨rfl, by repeat (first | (with_reducible exact Below.refl _ _) | (with_reducible assumption) | ((with_reducible refine bl_alloc ?_ _ ?_); (focus ((first | omega | (simp <;> omega)); done))) | ((with_reducible refine bl_set ?_ _ ?_); (focus ((first | omega | (simp <;> omega)); done))) | (with_reducible refine below_drewN ?_ _) | (with_reducible refine Below.drew ?_) | ((with_reducible refine bl_trans ?_ H1.out ?_); (focus ((first | omega | (simp <;> omega)); done))))⟩
  rcases in_cases t (-1000000) 1000000 with ⟨t0, u0⟩ | t0 | ⟨t0, u0⟩
  · rw [lossM_yes h ⟨t0, u0⟩]
    obtain ⟨n, ga, ca, gb, cb, rfl, rfl, n1, n2, n3, hm, hr, hc⟩ := mask_tab h HA.out HB.out
    obtain ⟨K, hK⟩ : ∃ K, K = tabAt (absV t) (xs.zip ys) := ⟨_, rfl⟩
    rw [← hK]
    have HK := Lib.hid hK
    have HE := Lib.hid h
    have HM := Lib.hid hm
    have HC := Lib.hid hc
    have HN := Lib.hid n1
    clear h hm hr hc n1 hK
    go_enter Try.func20, Try.ntmps20
    go_wp2_with fail
    refine (ValidMask_any _ _ xs p (by first | exact HA.out | exact HA.out.alloc_ _) _ ys q (by first | exact HB.out | exact HB.out.alloc_ _)).mono ?_
    rintro e w1 ⟨he, hb⟩
    rw [HE.out] at he
    subst he
    have H1 := Lib.hid (show Below w.heap.size w w1 by repeat (first | (with_reducible exact Below.refl _ _) | (with_reducible assumption) | ((with_reducible refine bl_alloc ?_ _ ?_); (focus ((first | omega | (simp <;> omega)); done))) | ((with_reducible refine bl_set ?_ _ ?_); (focus ((first | omega | (simp <;> omega)); done))) | (with_reducible refine below_drewN ?_ _) | (with_reducible refine Below.drew ?_) | ((with_reducible refine bl_trans ?_ hb ?_); (focus ((first | omega | (simp <;> omega)); done)))))
    have HC1 := Lib.hid (fun k hk => (⟨(H1.out.cell (p := ⟨ga, k, none⟩) (block_of_cell (HC.out k hk).1)).trans (HC.out k hk).1, (H1.out.cell (p := ⟨gb, k, none⟩) (block_of_cell (HC.out k hk).2)).trans (HC.out k hk).2⟩ : _ ∧ _))
    have zz : w.heap.size ≤ w1.heap.size := H1.out.size
    obtain ⟨hc, hf⟩ := bcell hb
    clear hb
    go_wp2_with (first | (go_at_call 74; go_in) | (go_at_call 67; go_in))
    refine (loss_any (xs.zip ys) t t0 u0 ga gb n ca cb HN.out n2 (by omega) HM.out _ HC1.out).mono ?_
    rintro e w2 ⟨he, hb⟩
    rw [← HK.out] at he
    subst he
    have H2 := Lib.hid (show Below w.heap.size w w2 by repeat (first | (with_reducible exact Below.refl _ _) | (with_reducible assumption) | ((with_reducible refine bl_alloc ?_ _ ?_); (focus ((first | omega | (simp <;> omega)); done))) | ((with_reducible refine bl_set ?_ _ ?_); (focus ((first | omega | (simp <;> omega)); done))) | (with_reducible refine below_drewN ?_ _) | (with_reducible refine Below.drew ?_) | ((with_reducible refine bl_trans ?_ hb ?_); (focus ((first | omega | (simp <;> omega)); done))) | ((with_reducible refine bl_trans ?_ H1.out ?_); (focus ((first | omega | (simp <;> omega)); done)))))
    clear hb
    go_wp2_with fail
    go_ret2
    exact ⟨rfl, by repeat (first | (with_reducible exact Below.refl _ _) | (with_reducible assumption) | ((with_reducible refine bl_alloc ?_ _ ?_); (focus ((first | omega | (simp <;> omega)); done))) | ((with_reducible refine bl_set ?_ _ ?_); (focus ((first | omega | (simp <;> omega)); done))) | (with_reducible refine below_drewN ?_ _) | (with_reducible refine Below.drew ?_) | ((with_reducible refine bl_trans ?_ H2.out ?_); (focus ((first | omega | (simp <;> omega)); done))))⟩
  · rw [lossM_out h (fun q => dec_no t0 q.1)]
    have HE := Lib.hid h
    clear h
    go_enter Try.func20, Try.ntmps20
    go_wp2_with fail
    refine (ValidMask_any _ a xs p (by first | exact HA.out | exact HA.out.alloc_ _) b ys q (by first | exact HB.out | exact HB.out.alloc_ _)).mono ?_
    rintro e w1 ⟨he, hb⟩
    rw [HE.out] at he
    subst he
    have H1 := Lib.hid (show Below w.heap.size w w1 by repeat (first | (with_reducible exact Below.refl _ _) | (with_reducible assumption) | ((with_reducible refine bl_alloc ?_ _ ?_); (focus ((first | omega | (simp <;> omega)); done))) | ((with_reducible refine bl_set ?_ _ ?_); (focus ((first | omega | (simp <;> omega)); done))) | (with_reducible refine below_drewN ?_ _) | (with_reducible refine Below.drew ?_) | ((with_reducible refine bl_trans ?_ hb ?_); (focus ((first | omega | (simp <;> omega)); done)))))
    clear hb
    go_wp2_with (first | (go_at_call 74; go_in) | (go_at_call 67; go_in))
    all_goals go_ret2
    all_goals exact ⟨rfl, by repeat (first | (with_reducible exact Below.refl _ _) | (with_reducible assumption) | ((with_reducible refine bl_alloc ?_ _ ?_); (focus ((first | omega | (simp <;> omega)); done))) | ((with_reducible refine bl_set ?_ _ ?_); (focus ((first | omega | (simp <;> omega)); done))) | (with_reducible refine below_drewN ?_ _) | (with_reducible refine Below.drew ?_) | ((with_reducible refine bl_trans ?_ H1.out ?_); (focus ((first | omega | (simp <;> omega)); done))))⟩
  · rw [lossM_out h (fun q => dec_no u0 q.2)]
    have HE := Lib.hid h
    clear h
    go_enter Try.func20, Try.ntmps20
    go_wp2_with fail
    refine (ValidMask_any _ a xs p (by first | exact HA.out | exact HA.out.alloc_ _) b ys q (by first | exact HB.out | exact HB.out.alloc_ _)).mono ?_
    rintro e w1 ⟨he, hb⟩
    rw [HE.out] at he
    subst he
    have H1 := Lib.hid (show Below w.heap.size w w1 by repeat (first | (with_reducible exact Below.refl _ _) | (with_reducible assumption) | ((with_reducible refine bl_alloc ?_ _ ?_); (focus ((first | omega | (simp <;> omega)); done))) | ((with_reducible refine bl_set ?_ _ ?_); (focus ((first | omega | (simp <;> omega)); done))) | (with_reducible refine below_drewN ?_ _) | (with_reducible refine Below.drew ?_) | ((with_reducible refine bl_trans ?_ hb ?_); (focus ((first | omega | (simp <;> omega)); done)))))
    clear hb
    go_wp2_with (first | (go_at_call 74; go_in) | (go_at_call 67; go_in))
    all_goals go_ret2
    all_goals exact ⟨rfl, by repeat (first | (with_reducible exact Below.refl _ _) | (with_reducible assumption) | ((with_reducible refine bl_alloc ?_ _ ?_); (focus ((first | omega | (simp <;> omega)); done))) | ((with_reducible refine bl_set ?_ _ ?_); (focus ((first | omega | (simp <;> omega)); done))) | (with_reducible refine below_drewN ?_ _) | (with_reducible refine Below.drew ?_) | ((with_reducible refine bl_trans ?_ H1.out ?_); (focus ((first | omega | (simp <;> omega)); done))))⟩
set_option maxRecDepth 20000 in
set_option maxHeartbeats 4000000 in
theorem walk (w : World) (v0_0 : Value) (x0_0 : List Int) (r0_0 : Rd w w.heap.size v0_0 x0_0) (ix0_0 : ∀ n ∈ x0_0, In64 n) (v0_1 : Value) (x0_1 : List Int) (r0_1 : Rd w w.heap.size v0_1 x0_1) (ix0_1 : ∀ n ∈ x0_1, In64 n) (a1 : Int) (ia1 : In64 a1) :
    Calls Try.prog 4 #[.agg #[v0_0, v0_1], .int .i64 a1] w fun e w' => e = .returned (.bool true) ∧ Below w.heap.size w w' := by
  by_cases hs0 : ¬ (x0_0.length : Int) + (x0_1.length : Int) ≤ 1048576
  · go_enter Try.func4, Try.ntmps4
    go_wp2_with fail
    refine (szMask_not  _ x0_0 _ x0_1 _ w.heap.size (by first | omega | (simp <;> omega)) (Rd.below r0_0 (by repeat (first | (with_reducible exact Below.refl _ _) | (with_reducible assumption) | ((with_reducible refine bl_alloc ?_ _ ?_); (focus ((first | omega | (simp <;> omega)); done))) | ((with_reducible refine bl_set ?_ _ ?_); (focus ((first | omega | (simp <;> omega)); done))) | (with_reducible refine below_drewN ?_ _) | (with_reducible refine Below.drew ?_)))) (Rd.below r0_1 (by repeat (first | (with_reducible exact Below.refl _ _) | (with_reducible assumption) | ((with_reducible refine bl_alloc ?_ _ ?_); (focus ((first | omega | (simp <;> omega)); done))) | ((with_reducible refine bl_set ?_ _ ?_); (focus ((first | omega | (simp <;> omega)); done))) | (with_reducible refine below_drewN ?_ _) | (with_reducible refine Below.drew ?_))))  _ (by omega) (by omega) (by omega)).mono ?_
    rintro e w1 ⟨rfl, hb⟩
    have zz1 : w.heap.size + 1 ≤ w1.heap.size := (by have := hb.size; ((try simp at this) <;> omega))
    have H1 := Lib.hid (show Below w.heap.size w w1 by repeat (first | (with_reducible exact Below.refl _ _) | (with_reducible assumption) | ((with_reducible refine bl_alloc ?_ _ ?_); (focus ((first | omega | (simp <;> omega)); done))) | ((with_reducible refine bl_set ?_ _ ?_); (focus ((first | omega | (simp <;> omega)); done))) | (with_reducible refine below_drewN ?_ _) | (with_reducible refine Below.drew ?_) | ((with_reducible refine bl_trans ?_ hb ?_); (focus ((first | omega | (simp <;> omega)); done)))))
    have f0_0_1 := keeps hb (p := ⟨w.heap.size, 0, none⟩) (v := v0_0) (by simp [go_sem])
    have f0_1_1 := keeps hb (p := ⟨w.heap.size, 1, none⟩) (v := v0_1) (by simp [go_sem])
    have g0_1 : w.heap.size < w1.heap.size := block_of_cell f0_0_1
    clear hb
    go_wp2_with fail
    go_ret
    exact ⟨rfl, (by repeat (first | (with_reducible exact Below.refl _ _) | (with_reducible assumption) | ((with_reducible refine bl_alloc ?_ _ ?_); (focus ((first | omega | (simp <;> omega)); done))) | ((with_reducible refine bl_set ?_ _ ?_); (focus ((first | omega | (simp <;> omega)); done))) | (with_reducible refine below_drewN ?_ _) | (with_reducible refine Below.drew ?_) | ((with_reducible refine bl_trans ?_ H1.out ?_); (focus ((first | omega | (simp <;> omega)); done)))))⟩
  have hs0' : (x0_0.length : Int) + (x0_1.length : Int) ≤ 1048576 := by omega
  clear hs0
  go_enter Try.func4, Try.ntmps4
  go_wp2_with fail
  refine (szMask_fits  _ x0_0 _ x0_1 _ w.heap.size (by first | omega | (simp <;> omega)) (Rd.below r0_0 (by repeat (first | (with_reducible exact Below.refl _ _) | (with_reducible assumption) | ((with_reducible refine bl_alloc ?_ _ ?_); (focus ((first | omega | (simp <;> omega)); done))) | ((with_reducible refine bl_set ?_ _ ?_); (focus ((first | omega | (simp <;> omega)); done))) | (with_reducible refine below_drewN ?_ _) | (with_reducible refine Below.drew ?_)))) (Rd.below r0_1 (by repeat (first | (with_reducible exact Below.refl _ _) | (with_reducible assumption) | ((with_reducible refine bl_alloc ?_ _ ?_); (focus ((first | omega | (simp <;> omega)); done))) | ((with_reducible refine bl_set ?_ _ ?_); (focus ((first | omega | (simp <;> omega)); done))) | (with_reducible refine below_drewN ?_ _) | (with_reducible refine Below.drew ?_))))  _ (by omega) (by omega)).mono ?_
  rintro e w1 ⟨rfl, hb⟩
  have zz1 : w.heap.size + 1 ≤ w1.heap.size := (by have := hb.size; ((try simp at this) <;> omega))
  have H1 := Lib.hid (show Below w.heap.size w w1 by repeat (first | (with_reducible exact Below.refl _ _) | (with_reducible assumption) | ((with_reducible refine bl_alloc ?_ _ ?_); (focus ((first | omega | (simp <;> omega)); done))) | ((with_reducible refine bl_set ?_ _ ?_); (focus ((first | omega | (simp <;> omega)); done))) | (with_reducible refine below_drewN ?_ _) | (with_reducible refine Below.drew ?_) | ((with_reducible refine bl_trans ?_ hb ?_); (focus ((first | omega | (simp <;> omega)); done)))))
  have f0_0_1 := keeps hb (p := ⟨w.heap.size, 0, none⟩) (v := v0_0) (by simp [go_sem])
  have f0_1_1 := keeps hb (p := ⟨w.heap.size, 1, none⟩) (v := v0_1) (by simp [go_sem])
  have g0_1 : w.heap.size < w1.heap.size := block_of_cell f0_0_1
  clear hb
  go_wp2_with fail
  refine (toMask_any  v0_0 x0_0 v0_1 x0_1 _ w.heap.size (by first | omega | (simp <;> omega)) (Rd.below r0_0 (by repeat (first | (with_reducible exact Below.refl _ _) | (with_reducible assumption) | ((with_reducible refine bl_alloc ?_ _ ?_); (focus ((first | omega | (simp <;> omega)); done))) | ((with_reducible refine bl_set ?_ _ ?_); (focus ((first | omega | (simp <;> omega)); done))) | (with_reducible refine below_drewN ?_ _) | (with_reducible refine Below.drew ?_) | ((with_reducible refine bl_trans ?_ H1.out ?_); (focus ((first | omega | (simp <;> omega)); done)))))) (by omega) (Rd.below r0_1 (by repeat (first | (with_reducible exact Below.refl _ _) | (with_reducible assumption) | ((with_reducible refine bl_alloc ?_ _ ?_); (focus ((first | omega | (simp <;> omega)); done))) | ((with_reducible refine bl_set ?_ _ ?_); (focus ((first | omega | (simp <;> omega)); done))) | (with_reducible refine below_drewN ?_ _) | (with_reducible refine Below.drew ?_) | ((with_reducible refine bl_trans ?_ H1.out ?_); (focus ((first | omega | (simp <;> omega)); done)))))) (by omega)).mono ?_
  rintro e w2 ⟨A0, n0, c0, A1, n1, c1, rfl, hr0, hr1, ha0_1, hb⟩
  have zz2 : w1.heap.size ≤ w2.heap.size := (by have := hb.size; ((try simp at this) <;> omega))
  have H2 := Lib.hid (show Below w.heap.size w w2 by repeat (first | (with_reducible exact Below.refl _ _) | (with_reducible assumption) | ((with_reducible refine bl_alloc ?_ _ ?_); (focus ((first | omega | (simp <;> omega)); done))) | ((with_reducible refine bl_set ?_ _ ?_); (focus ((first | omega | (simp <;> omega)); done))) | (with_reducible refine below_drewN ?_ _) | (with_reducible refine Below.drew ?_) | ((with_reducible refine bl_trans ?_ hb ?_); (focus ((first | omega | (simp <;> omega)); done))) | ((with_reducible refine bl_trans ?_ H1.out ?_); (focus ((first | omega | (simp <;> omega)); done)))))
  have f0_0_2 := keeps hb f0_0_1
  have f0_1_2 := keeps hb f0_1_1
  have g0_2 : w.heap.size < w2.heap.size := block_of_cell f0_0_2
  have R0_2 := Lib.hid hr0
  have RL0 := Lib.hid (show ∀ g, Value.ownBlock (.slice A0 n0 c0) = some g → w1.heap.size ≤ g ∧ g < w2.heap.size from fun g h => by have l1 := hr0.lt g h; ((try simp at l1) <;> omega))
  have RA0_1 := Lib.hid ha0_1
  have R1_2 := Lib.hid hr1
  have RL1 := Lib.hid (show ∀ g, Value.ownBlock (.slice A1 n1 c1) = some g → w1.heap.size ≤ g ∧ g < w2.heap.size from fun g h => by have l1 := hr1.lt g h; ((try simp at l1) <;> omega))
  clear hb f0_0_1 f0_1_1 g0_1 hr0 ha0_1 hr1 H1
  go_wp2_with fail
  refine (spec_any _ _ x0_0 _ R0_2.out ix0_0 _ x0_1 _ R1_2.out ix0_1 a1 ia1).mono ?_
  rintro e w3 ⟨rfl, hb⟩
  have zz3 : w2.heap.size ≤ w3.heap.size := (by have := hb.size; ((try simp at this) <;> omega))
  have H3 := Lib.hid (show Below w.heap.size w w3 by repeat (first | (with_reducible exact Below.refl _ _) | (with_reducible assumption) | ((with_reducible refine bl_alloc ?_ _ ?_); (focus ((first | omega | (simp <;> omega)); done))) | ((with_reducible refine bl_set ?_ _ ?_); (focus ((first | omega | (simp <;> omega)); done))) | (with_reducible refine below_drewN ?_ _) | (with_reducible refine Below.drew ?_) | ((with_reducible refine bl_trans ?_ hb ?_); (focus ((first | omega | (simp <;> omega)); done))) | ((with_reducible refine bl_trans ?_ H2.out ?_); (focus ((first | omega | (simp <;> omega)); done)))))
  have f0_0_3 := keeps hb f0_0_2
  have f0_1_3 := keeps hb f0_1_2
  have g0_3 : w.heap.size < w3.heap.size := block_of_cell f0_0_3
  clear hb f0_0_2 f0_1_2 g0_2 R0_2 R1_2 H2
  go_wp2_with fail
  refine (toMask_any  v0_0 x0_0 v0_1 x0_1 _ w.heap.size (by first | omega | (simp <;> omega)) (Rd.below r0_0 (by repeat (first | (with_reducible exact Below.refl _ _) | (with_reducible assumption) | ((with_reducible refine bl_alloc ?_ _ ?_); (focus ((first | omega | (simp <;> omega)); done))) | ((with_reducible refine bl_set ?_ _ ?_); (focus ((first | omega | (simp <;> omega)); done))) | (with_reducible refine below_drewN ?_ _) | (with_reducible refine Below.drew ?_) | ((with_reducible refine bl_trans ?_ H3.out ?_); (focus ((first | omega | (simp <;> omega)); done)))))) (by omega) (Rd.below r0_1 (by repeat (first | (with_reducible exact Below.refl _ _) | (with_reducible assumption) | ((with_reducible refine bl_alloc ?_ _ ?_); (focus ((first | omega | (simp <;> omega)); done))) | ((with_reducible refine bl_set ?_ _ ?_); (focus ((first | omega | (simp <;> omega)); done))) | (with_reducible refine below_drewN ?_ _) | (with_reducible refine Below.drew ?_) | ((with_reducible refine bl_trans ?_ H3.out ?_); (focus ((first | omega | (simp <;> omega)); done)))))) (by omega)).mono ?_
  rintro e w4 ⟨A2, n2, c2, A3, n3, c3, rfl, hr2, hr3, ha2_3, hb⟩
  have zz4 : w3.heap.size ≤ w4.heap.size := (by have := hb.size; ((try simp at this) <;> omega))
  have H4 := Lib.hid (show Below w.heap.size w w4 by repeat (first | (with_reducible exact Below.refl _ _) | (with_reducible assumption) | ((with_reducible refine bl_alloc ?_ _ ?_); (focus ((first | omega | (simp <;> omega)); done))) | ((with_reducible refine bl_set ?_ _ ?_); (focus ((first | omega | (simp <;> omega)); done))) | (with_reducible refine below_drewN ?_ _) | (with_reducible refine Below.drew ?_) | ((with_reducible refine bl_trans ?_ hb ?_); (focus ((first | omega | (simp <;> omega)); done))) | ((with_reducible refine bl_trans ?_ H3.out ?_); (focus ((first | omega | (simp <;> omega)); done)))))
  have f0_0_4 := keeps hb f0_0_3
  have f0_1_4 := keeps hb f0_1_3
  have g0_4 : w.heap.size < w4.heap.size := block_of_cell f0_0_4
  have R2_4 := Lib.hid hr2
  have RL2 := Lib.hid (show ∀ g, Value.ownBlock (.slice A2 n2 c2) = some g → w3.heap.size ≤ g ∧ g < w4.heap.size from fun g h => by have l1 := hr2.lt g h; ((try simp at l1) <;> omega))
  have RA2_3 := Lib.hid ha2_3
  have R3_4 := Lib.hid hr3
  have RL3 := Lib.hid (show ∀ g, Value.ownBlock (.slice A3 n3 c3) = some g → w3.heap.size ≤ g ∧ g < w4.heap.size from fun g h => by have l1 := hr3.lt g h; ((try simp at l1) <;> omega))
  clear hb f0_0_3 f0_1_3 g0_3 hr2 ha2_3 hr3 H3
  go_wp2_with fail
  refine (impl_any _ _ x0_0 _ (R2_4.out.alloc_ _) ix0_0 _ x0_1 _ (R3_4.out.alloc_ _) ix0_1 a1 ia1).mono ?_
  rintro e w5 ⟨rfl, hb⟩
  have zz5 : w4.heap.size + 1 ≤ w5.heap.size := (by have := hb.size; ((try simp at this) <;> omega))
  have H5 := Lib.hid (show Below w.heap.size w w5 by repeat (first | (with_reducible exact Below.refl _ _) | (with_reducible assumption) | ((with_reducible refine bl_alloc ?_ _ ?_); (focus ((first | omega | (simp <;> omega)); done))) | ((with_reducible refine bl_set ?_ _ ?_); (focus ((first | omega | (simp <;> omega)); done))) | (with_reducible refine below_drewN ?_ _) | (with_reducible refine Below.drew ?_) | ((with_reducible refine bl_trans ?_ hb ?_); (focus ((first | omega | (simp <;> omega)); done))) | ((with_reducible refine bl_trans ?_ H4.out ?_); (focus ((first | omega | (simp <;> omega)); done)))))
  have f0_0_5 := keeps hb (cell_alloc f0_0_4 _)
  have f0_1_5 := keeps hb (cell_alloc f0_1_4 _)
  have g0_5 : w.heap.size < w5.heap.size := block_of_cell f0_0_5
  have f1_0_5 := keeps hb (p := ⟨w4.heap.size, 0, none⟩) (v := (.slice A2 n2 c2)) (by simp [go_sem])
  have f1_1_5 := keeps hb (p := ⟨w4.heap.size, 1, none⟩) (v := (.slice A3 n3 c3)) (by simp [go_sem])
  have g1_5 : w4.heap.size < w5.heap.size := block_of_cell f1_0_5
  have R2_5 := Lib.hid (Row.later (R2_4.out.alloc_ _) hb)
  have R3_5 := Lib.hid (Row.later (R3_4.out.alloc_ _) hb)
  clear hb f0_0_4 f0_1_4 g0_4 R2_4 R3_4 H4
  go_wp2_with fail
  go_region_held3 (fun w' => w'.cell? ⟨w4.heap.size, 0, none⟩ = some ((.slice A2 n2 c2)) ∧ w'.cell? ⟨w4.heap.size, 1, none⟩ = some ((.slice A3 n3 c3)) ∧ w'.cell? ⟨w.heap.size, 0, none⟩ = some (v0_0) ∧ w'.cell? ⟨w.heap.size, 1, none⟩ = some (v0_1))
    (first | (refine ⟨?_, ?_, ?_, ?_⟩ <;> assumption) | (go_split_ands; (refine ⟨?_, ?_, ?_, ?_⟩ <;> first | assumption | (refine keeps hb ?_; assumption))))
    (first
      | (go_at_call 19; ((with_reducible refine (toMask_any  v0_0 x0_0 v0_1 x0_1 _ w.heap.size (by first | omega | (simp <;> omega)) (Rd.below r0_0 (by repeat (first | (with_reducible exact Below.refl _ _) | (with_reducible assumption) | ((with_reducible refine bl_alloc ?_ _ ?_); (focus ((first | omega | (simp <;> omega)); done))) | ((with_reducible refine bl_set ?_ _ ?_); (focus ((first | omega | (simp <;> omega)); done))) | (with_reducible refine below_drewN ?_ _) | (with_reducible refine Below.drew ?_) | ((with_reducible refine bl_trans ?_ H5.out ?_); (focus ((first | omega | (simp <;> omega)); done)))))) (by omega) (Rd.below r0_1 (by repeat (first | (with_reducible exact Below.refl _ _) | (with_reducible assumption) | ((with_reducible refine bl_alloc ?_ _ ?_); (focus ((first | omega | (simp <;> omega)); done))) | ((with_reducible refine bl_set ?_ _ ?_); (focus ((first | omega | (simp <;> omega)); done))) | (with_reducible refine below_drewN ?_ _) | (with_reducible refine Below.drew ?_) | ((with_reducible refine bl_trans ?_ H5.out ?_); (focus ((first | omega | (simp <;> omega)); done)))))) (by omega)).mono ?_); rintro e w6 ⟨A4, n4, c4, A5, n5, c5, rfl, hr4, hr5, ha4_5, hb⟩; have zz6 : w5.heap.size ≤ w6.heap.size := (by have := hb.size; ((try simp at this) <;> omega)); have H6 := Lib.hid (show Below w.heap.size w w6 by repeat (first | (with_reducible exact Below.refl _ _) | (with_reducible assumption) | ((with_reducible refine bl_alloc ?_ _ ?_); (focus ((first | omega | (simp <;> omega)); done))) | ((with_reducible refine bl_set ?_ _ ?_); (focus ((first | omega | (simp <;> omega)); done))) | (with_reducible refine below_drewN ?_ _) | (with_reducible refine Below.drew ?_) | ((with_reducible refine bl_trans ?_ hb ?_); (focus ((first | omega | (simp <;> omega)); done))) | ((with_reducible refine bl_trans ?_ H5.out ?_); (focus ((first | omega | (simp <;> omega)); done))))); have R2_6 := Lib.hid (Row.later1 R2_5.out hb); have R3_6 := Lib.hid (Row.later1 R3_5.out hb); have R4_6 := Lib.hid hr4; have RL4 := Lib.hid (show ∀ g, Value.ownBlock (.slice A4 n4 c4) = some g → w5.heap.size ≤ g ∧ g < w6.heap.size from fun g h => by have l1 := hr4.lt g h; ((try simp at l1) <;> omega)); have RA4_5 := Lib.hid ha4_5; have R5_6 := Lib.hid hr5; have RL5 := Lib.hid (show ∀ g, Value.ownBlock (.slice A5 n5 c5) = some g → w5.heap.size ≤ g ∧ g < w6.heap.size from fun g h => by have l1 := hr5.lt g h; ((try simp at l1) <;> omega)); clear f0_0_5 f0_1_5 g0_5 f1_0_5 f1_1_5 g1_5 R2_5 R3_5 hr4 ha4_5 hr5 H5))
      | (go_at_call 21; ((with_reducible refine (eqMask_any  _ _ _ (x0_0) _ _ R2_6.out R4_6.out _ _ (x0_1) _ _ R3_6.out R5_6.out).mono ?_); rintro e w7 ⟨rfl, hb⟩; have zz7 : w6.heap.size ≤ w7.heap.size := (by have := hb.size; ((try simp at this) <;> omega)); have H7 := Lib.hid (show Below w.heap.size w w7 by repeat (first | (with_reducible exact Below.refl _ _) | (with_reducible assumption) | ((with_reducible refine bl_alloc ?_ _ ?_); (focus ((first | omega | (simp <;> omega)); done))) | ((with_reducible refine bl_set ?_ _ ?_); (focus ((first | omega | (simp <;> omega)); done))) | (with_reducible refine below_drewN ?_ _) | (with_reducible refine Below.drew ?_) | ((with_reducible refine bl_trans ?_ hb ?_); (focus ((first | omega | (simp <;> omega)); done))) | ((with_reducible refine bl_trans ?_ H6.out ?_); (focus ((first | omega | (simp <;> omega)); done))))); clear R2_6 R3_6 R4_6 R5_6 H6)))
  go_wp2_with fail
  go_ret
  exact ⟨rfl, (by repeat (first | (with_reducible exact Below.refl _ _) | (with_reducible assumption) | ((with_reducible refine bl_alloc ?_ _ ?_); (focus ((first | omega | (simp <;> omega)); done))) | ((with_reducible refine bl_set ?_ _ ?_); (focus ((first | omega | (simp <;> omega)); done))) | (with_reducible refine below_drewN ?_ _) | (with_reducible refine Below.drew ?_) | ((with_reducible refine bl_trans ?_ H7.out ?_); (focus ((first | omega | (simp <;> omega)); done)))))⟩
end Go.Proofs.Ytdafkebnmmkeeaa.fnExactLossAtOffset
