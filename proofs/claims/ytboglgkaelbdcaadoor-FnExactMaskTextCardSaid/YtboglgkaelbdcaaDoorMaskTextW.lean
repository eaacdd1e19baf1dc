/-
  The walk of FnExactMaskText: it returns true, and of what was there nothing has turned. The conditions are what its arguments' readings give.
-/
import Derived.Test.YtboglgkaelbdcaaDoorRows
import Derived.Test.YtboglgkaelbdcaaDoorLib
import Derived.Test.YtboglgkaelbdcaaDoorShelf
import Derived.Test.YtboglgkaelbdcaaDoorDec
import Derived.Test.YtboglgkaelbdcaaDoorPow
import Derived.Test.YtboglgkaelbdcaaDoorInt
import Derived.Test.YtboglgkaelbdcaaDoorInts
import Derived.Test.YtboglgkaelbdcaaDoorOwn
import Derived.Test.YtboglgkaelbdcaaDoorField
import Derived.Test.YtboglgkaelbdcaaDoorMask
import Derived.Test.YtboglgkaelbdcaaDoorWithin
import Derived.Test.YtboglgkaelbdcaaDoorMaskB
import Derived.Test.YtboglgkaelbdcaaDoorRises
import Derived.Test.YtboglgkaelbdcaaDoorMaskI
import Derived.Test.YtboglgkaelbdcaaDoorMaskS
import Derived.Test.YtboglgkaelbdcaaDoorGRow
import Derived.Test.YtboglgkaelbdcaaDoorDecS
import Derived.Test.YtboglgkaelbdcaaDoorListT
import Derived.Outline
import Derived.Deep.RegionHeld3
import Derived.Deep.DrawnRows
import Derived.Laws.Concat
namespace Go.Proofs.YtboglgkaelbdcaaDoor.fnExactMaskText
open Go.RowKit Go.ChangeShapes Go.WideShapes Go.ChangeAt
set_option linter.unusedVariables false
set_option linter.unusedSimpArgs false

attribute [local go_sem ↓] Go.wp_at_zero Go.wp_at_succ
def maskT (xs ys : List Int) : List UInt8 := if maskB xs ys = true then listT xs ++ [32] ++ listT ys else []
theorem maskT_no {xs ys : List Int} (h : maskB xs ys = false) : maskT xs ys = [] := if_neg (by rw [h]; simp)
theorem maskT_yes {xs ys : List Int} (h : maskB xs ys = true) : maskT xs ys = listT xs ++ [32] ++ listT ys := if_pos h
theorem listT_len {xs : List Int} (hb : lst12 xs) (hl : xs.length ≤ 64) : (listT xs).length ≤ 1408 := by
  unfold listT
  split
  · simp
  · have := txtK_len hb xs.length (Nat.le_refl _)
    omega
theorem mask_lst {xs ys : List Int} (h : maskB xs ys = true) : lst12 xs ∧ xs.length ≤ 64 ∧ lst12 ys ∧ ys.length ≤ 64 := by
  obtain ⟨h1, h2, h3, _, _, h6, h7⟩ := mask_parts h
  refine ⟨fun k hk => ?_, by omega, fun k hk => ?_, by omega⟩
  · have := (h6 k hk).1
    omega
  · have := (h7 k hk).1
    omega
set_option maxRecDepth 20000 in
set_option maxHeartbeats 4000000 in
theorem l08Text_any (w : World) (o : Nat) (a : Value) (xs : List Int) (p : Nat) (ha : Row 2 w p a xs) (b : Value) (ys : List Int) (q : Nat) (hb : Row 2 w q b ys) (c0 : w.cell? ⟨o, 0, none⟩ = some a) (c1 : w.cell? ⟨o, 1, none⟩ = some b) (hm : maskB xs ys = true) :
    Calls Tryd.prog 44 #[.pointer (some ⟨o, 0, none⟩)] w fun e w' => e = .returned (.string ⟨(maskT xs ys).toArray⟩) ∧ Below w.heap.size w w' := by
  have HA := Lib.hid ha
  have HB := Lib.hid hb
  clear ha hb
  rw [maskT_yes hm]
  obtain ⟨hx, lx, hy, ly⟩ := mask_lst hm
  have u1 := listT_len hx lx
  have u2 := listT_len hy ly
  have HC1 : Hid (∀ W : World, Below w.heap.size w W → Calls Tryd.prog 74 #[a] W fun e w' => e = .returned (.string ⟨(listT xs).toArray⟩) ∧ Below W.heap.size W w') := fun W hW => l01List_any W a xs p (HA.out.later hW) hx lx
  have HC2 : Hid (∀ W : World, Below w.heap.size w W → Calls Tryd.prog 74 #[b] W fun e w' => e = .returned (.string ⟨(listT ys).toArray⟩) ∧ Below W.heap.size W w') := fun W hW => l01List_any W b ys q (HB.out.later hW) hy ly
  obtain ⟨U, hU⟩ : ∃ U, U = listT xs := ⟨_, rfl⟩
  obtain ⟨V, hV⟩ : ∃ V, V = listT ys := ⟨_, rfl⟩
  rw [← hU] at u1 HC1 ⊢
  rw [← hV] at u2 HC2 ⊢
  clear hU hV
  have hadd1 : ∀ W : World, (Op.stringOp .add ⟨U.toArray⟩ ⟨#[32]⟩).run Tryd.prog W = .ok (.string ⟨(U ++ [32]).toArray⟩) W := fun W => str_add U [32] (by simp; omega) W
  have hadd2 : ∀ W : World, (Op.stringOp .add ⟨(U ++ [32]).toArray⟩ ⟨V.toArray⟩).run Tryd.prog W = .ok (.string ⟨(U ++ [32] ++ V).toArray⟩) W := fun W => str_add (U ++ [32]) V (by simp; omega) W
  obtain ⟨U1, hU1⟩ : ∃ U1, U1 = U ++ [32] := ⟨_, rfl⟩
  rw [← hU1] at hadd1 hadd2 ⊢
  obtain ⟨Z, hZ⟩ : ∃ Z, Z = U1 ++ V := ⟨_, rfl⟩
  rw [← hZ] at hadd2 ⊢
  clear hU1 hZ u1 u2 hx lx hy ly
  clear hm
  go_enter Tryd.func44, Tryd.ntmps44
  go_wp2_with fail
  go_region_held3 (fun w' => w'.cell? ⟨o, 0, none⟩ = some a ∧ w'.cell? ⟨o, 1, none⟩ = some b)
    (((try go_split_ands); (refine ⟨?_, ?_⟩ <;> (repeat (first | (with_reducible assumption) | (with_reducible refine cell_drew ?_) | (with_reducible refine cell_drewN ?_) | (with_reducible refine keeps hb ?_) | (with_reducible refine keeps hb3 ?_) | fail)))))
    (first
      | (go_at_call 74; ((with_reducible refine (HC1.out _ (by repeat (first | (with_reducible exact Below.refl _ _) | (with_reducible assumption) | ((with_reducible refine bl_alloc ?_ _ ?_); (focus ((first | omega | (simp <;> omega)); done))) | ((with_reducible refine bl_set ?_ _ ?_); (focus ((first | omega | (simp <;> omega)); done))) | (with_reducible refine below_drewN ?_ _) | (with_reducible refine Below.drew ?_)))).mono ?_); rintro e w3 ⟨rfl, hb⟩; have hb3 := hb; have H3 := Lib.hid (show Below w.heap.size w w3 by repeat (first | (with_reducible exact Below.refl _ _) | (with_reducible assumption) | ((with_reducible refine bl_alloc ?_ _ ?_); (focus ((first | omega | (simp <;> omega)); done))) | ((with_reducible refine bl_set ?_ _ ?_); (focus ((first | omega | (simp <;> omega)); done))) | (with_reducible refine below_drewN ?_ _) | (with_reducible refine Below.drew ?_) | ((with_reducible refine bl_trans ?_ hb ?_); (focus ((first | omega | (simp <;> omega)); done)))))))
      | (go_at_call 74; ((with_reducible refine (HC2.out w3 H3.out).mono ?_); rintro e w4 ⟨rfl, hb⟩; have z3 := H3.out.size; have H4 := Lib.hid (show Below w.heap.size w w4 by repeat (first | (with_reducible exact Below.refl _ _) | (with_reducible assumption) | ((with_reducible refine bl_alloc ?_ _ ?_); (focus ((first | omega | (simp <;> omega)); done))) | ((with_reducible refine bl_set ?_ _ ?_); (focus ((first | omega | (simp <;> omega)); done))) | (with_reducible refine below_drewN ?_ _) | (with_reducible refine Below.drew ?_) | ((with_reducible refine bl_trans ?_ hb ?_); (focus ((first | omega | (simp <;> omega)); done))) | ((with_reducible refine bl_trans ?_ H3.out ?_); (focus ((first | omega | (simp <;> omega)); done))))))))
  go_wp2_with fail
  go_ret
  exact ⟨rfl, H4.out⟩
set_option maxRecDepth 20000 in
set_option maxHeartbeats 4000000 in
theorem spec_any (w : World) (a : Value) (xs : List Int) (p : Nat) (ha : Row 2 w p a xs) (ixs : ∀ n ∈ xs, In64 n) (b : Value) (ys : List Int) (q : Nat) (hb : Row 2 w q b ys) (iys : ∀ n ∈ ys, In64 n) :
    Calls Tryd.prog 14 #[.agg #[a, b]] w fun e w' => e = .returned (.string ⟨(maskT xs ys).toArray⟩) ∧ Below w.heap.size w w' := by
  have HA := Lib.hid ha
  have HB := Lib.hid hb
  clear ha hb ixs iys
  rcases bool_tf (maskB xs ys) with hm | hm
  rotate_left
  · rw [maskT_no hm]
    have HE := Lib.hid hm
    clear hm
    go_enter Tryd.func14, Tryd.ntmps14
    go_wp2_with fail
    refine (l08Ok_any _ _ a xs p (HA.out.alloc_ _) b ys q (HB.out.alloc_ _) (by simp [go_sem]) (by simp [go_sem])).mono ?_
    rintro e w1 ⟨he, kd, hw⟩
    have hb : Below (w.alloc (.cells #[a, b] 33)).heap.size (w.alloc (.cells #[a, b] 33)) w1 := by rw [hw]; exact below_drewN (Below.refl _ _) _
    clear hw
    rw [HE.out] at he
    subst he
    have H1 := Lib.hid (show Below w.heap.size w w1 by repeat (first | (with_reducible exact Below.refl _ _) | (with_reducible assumption) | ((with_reducible refine bl_alloc ?_ _ ?_); (focus ((first | omega | (simp <;> omega)); done))) | ((with_reducible refine bl_set ?_ _ ?_); (focus ((first | omega | (simp <;> omega)); done))) | (with_reducible refine below_drewN ?_ _) | (with_reducible refine Below.drew ?_) | ((with_reducible refine bl_trans ?_ hb ?_); (focus ((first | omega | (simp <;> omega)); done)))))
    clear hb
    go_wp2_with fail
    go_ret
    exact ⟨rfl, H1.out⟩
  have HM := Lib.hid hm
  have HE := Lib.hid hm
  clear hm
  go_enter Tryd.func14, Tryd.ntmps14
  go_wp2_with fail
  refine (l08Ok_any _ _ a xs p (HA.out.alloc_ _) b ys q (HB.out.alloc_ _) (by simp [go_sem]) (by simp [go_sem])).mono ?_
  rintro e w1 ⟨he, kd, hw⟩
  have hb : Below (w.alloc (.cells #[a, b] 33)).heap.size (w.alloc (.cells #[a, b] 33)) w1 := by rw [hw]; exact below_drewN (Below.refl _ _) _
  clear hw
  rw [HE.out] at he
  subst he
  have H1 := Lib.hid (show Below w.heap.size w w1 by repeat (first | (with_reducible exact Below.refl _ _) | (with_reducible assumption) | ((with_reducible refine bl_alloc ?_ _ ?_); (focus ((first | omega | (simp <;> omega)); done))) | ((with_reducible refine bl_set ?_ _ ?_); (focus ((first | omega | (simp <;> omega)); done))) | (with_reducible refine below_drewN ?_ _) | (with_reducible refine Below.drew ?_) | ((with_reducible refine bl_trans ?_ hb ?_); (focus ((first | omega | (simp <;> omega)); done)))))
  have x0 := keeps hb (p := ⟨w.heap.size, 0, none⟩) (v := a) (by simp [go_sem])
  have x1 := keeps hb (p := ⟨w.heap.size, 1, none⟩) (v := b) (by simp [go_sem])
  have z1 := H1.out.size
  have HA1 := Lib.hid (HA.out.later H1.out)
  have HB1 := Lib.hid (HB.out.later H1.out)
  clear hb
  go_wp2_with fail
  refine (l08Text_any _ _ a xs p HA1.out b ys q HB1.out x0 x1 HM.out).mono ?_
  rintro e w2 ⟨rfl, hb2⟩
  have H2 := Lib.hid (show Below w.heap.size w w2 by repeat (first | (with_reducible exact Below.refl _ _) | (with_reducible assumption) | ((with_reducible refine bl_alloc ?_ _ ?_); (focus ((first | omega | (simp <;> omega)); done))) | ((with_reducible refine bl_set ?_ _ ?_); (focus ((first | omega | (simp <;> omega)); done))) | (with_reducible refine below_drewN ?_ _) | (with_reducible refine Below.drew ?_) | ((with_reducible refine bl_trans ?_ hb2 ?_); (focus ((first | omega | (simp <;> omega)); done))) | ((with_reducible refine bl_trans ?_ H1.out ?_); (focus ((first | omega | (simp <;> omega)); done)))))
  clear hb2
  go_wp2_with fail
  go_ret
  exact ⟨rfl, H2.out⟩
set_option maxRecDepth 20000 in
set_option maxHeartbeats 4000000 in
theorem impl_any (w : World) (hT : PowTab w) (a : Value) (xs : List Int) (p : Nat) (ha : Row 2 w p a xs) (ixs : ∀ n ∈ xs, In64 n) (b : Value) (ys : List Int) (q : Nat) (hb : Row 2 w q b ys) (iys : ∀ n ∈ ys, In64 n) :
    Calls Tryd.prog 16 #[.agg #[a, b]] w fun e w' => e = .returned (.string ⟨(maskT xs ys).toArray⟩) ∧ Below w.heap.size w w' := by
  have HA := Lib.hid ha
  have HB := Lib.hid hb
  have HT := Lib.hid hT
  clear hT
  clear ha hb ixs iys
  rcases bool_tf (maskB xs ys) with hm | hm
  rotate_left
  · rw [maskT_no hm]
    have HE := Lib.hid hm
    clear hm
    go_enter Tryd.func16, Tryd.ntmps16
    go_wp2_with fail
    refine (ValidMask_any _ a xs p (HA.out.alloc_ _) b ys q (HB.out.alloc_ _)).mono ?_
    rintro e w1 ⟨he, hb⟩
    rw [HE.out] at he
    subst he
    have H1 := Lib.hid (show Below w.heap.size w w1 by repeat (first | (with_reducible exact Below.refl _ _) | (with_reducible assumption) | ((with_reducible refine bl_alloc ?_ _ ?_); (focus ((first | omega | (simp <;> omega)); done))) | ((with_reducible refine bl_set ?_ _ ?_); (focus ((first | omega | (simp <;> omega)); done))) | (with_reducible refine below_drewN ?_ _) | (with_reducible refine Below.drew ?_) | ((with_reducible refine bl_trans ?_ hb ?_); (focus ((first | omega | (simp <;> omega)); done)))))
    clear hb
    go_wp2_with fail
    go_ret
    exact ⟨rfl, H1.out⟩
  rw [maskT_yes hm]
  obtain ⟨hx, lx, hy, ly⟩ := mask_lst hm
  have u1 := listT_len hx lx
  have u2 := listT_len hy ly
  have HC1 : Hid (∀ W : World, Below w.heap.size w W → Calls Tryd.prog 47 #[a] W fun e w' => e = .returned (.string ⟨(listT xs).toArray⟩) ∧ Below W.heap.size W w') := fun W hW => ListText_any W (HT.out.below hW) a xs p (HA.out.later hW) hx lx
  have HC2 : Hid (∀ W : World, Below w.heap.size w W → Calls Tryd.prog 47 #[b] W fun e w' => e = .returned (.string ⟨(listT ys).toArray⟩) ∧ Below W.heap.size W w') := fun W hW => ListText_any W (HT.out.below hW) b ys q (HB.out.later hW) hy ly
  obtain ⟨U, hU⟩ : ∃ U, U = listT xs := ⟨_, rfl⟩
  obtain ⟨V, hV⟩ : ∃ V, V = listT ys := ⟨_, rfl⟩
  rw [← hU] at u1 HC1 ⊢
  rw [← hV] at u2 HC2 ⊢
  clear hU hV
  have hadd1 : ∀ W : World, (Op.stringOp .add ⟨U.toArray⟩ ⟨#[32]⟩).run Tryd.prog W = .ok (.string ⟨(U ++ [32]).toArray⟩) W := fun W => str_add U [32] (by simp; omega) W
  have hadd2 : ∀ W : World, (Op.stringOp .add ⟨(U ++ [32]).toArray⟩ ⟨V.toArray⟩).run Tryd.prog W = .ok (.string ⟨(U ++ [32] ++ V).toArray⟩) W := fun W => str_add (U ++ [32]) V (by simp; omega) W
  obtain ⟨U1, hU1⟩ : ∃ U1, U1 = U ++ [32] := ⟨_, rfl⟩
  rw [← hU1] at hadd1 hadd2 ⊢
  obtain ⟨Z, hZ⟩ : ∃ Z, Z = U1 ++ V := ⟨_, rfl⟩
  rw [← hZ] at hadd2 ⊢
  clear hU1 hZ u1 u2 hx lx hy ly
  have HE := Lib.hid hm
  clear hm
  go_enter Tryd.func16, Tryd.ntmps16
  go_wp2_with fail
  refine (ValidMask_any _ a xs p (HA.out.alloc_ _) b ys q (HB.out.alloc_ _)).mono ?_
  rintro e w1 ⟨he, hb⟩
  rw [HE.out] at he
  subst he
  have H1 := Lib.hid (show Below w.heap.size w w1 by repeat (first | (with_reducible exact Below.refl _ _) | (with_reducible assumption) | ((with_reducible refine bl_alloc ?_ _ ?_); (focus ((first | omega | (simp <;> omega)); done))) | ((with_reducible refine bl_set ?_ _ ?_); (focus ((first | omega | (simp <;> omega)); done))) | (with_reducible refine below_drewN ?_ _) | (with_reducible refine Below.drew ?_) | ((with_reducible refine bl_trans ?_ hb ?_); (focus ((first | omega | (simp <;> omega)); done)))))
  have x0 := keeps hb (p := ⟨w.heap.size, 0, none⟩) (v := a) (by simp [go_sem])
  have x1 := keeps hb (p := ⟨w.heap.size, 1, none⟩) (v := b) (by simp [go_sem])
  have z1 := H1.out.size
  clear hb
  go_wp2_with fail
  go_region_held3 (fun w' => w'.cell? ⟨w.heap.size, 0, none⟩ = some a ∧ w'.cell? ⟨w.heap.size, 1, none⟩ = some b)
    (((try go_split_ands); (refine ⟨?_, ?_⟩ <;> (repeat (first | (with_reducible assumption) | (with_reducible refine cell_drew ?_) | (with_reducible refine cell_drewN ?_) | (with_reducible refine keeps hb ?_) | (with_reducible refine keeps hb3 ?_) | fail)))))
    (first
      | (go_at_call 47; ((with_reducible refine (HC1.out _ (by repeat (first | (with_reducible exact Below.refl _ _) | (with_reducible assumption) | ((with_reducible refine bl_alloc ?_ _ ?_); (focus ((first | omega | (simp <;> omega)); done))) | ((with_reducible refine bl_set ?_ _ ?_); (focus ((first | omega | (simp <;> omega)); done))) | (with_reducible refine below_drewN ?_ _) | (with_reducible refine Below.drew ?_) | ((with_reducible refine bl_trans ?_ H1.out ?_); (focus ((first | omega | (simp <;> omega)); done)))))).mono ?_); rintro e w3 ⟨rfl, hb⟩; have hb3 := hb; have H3 := Lib.hid (show Below w.heap.size w w3 by repeat (first | (with_reducible exact Below.refl _ _) | (with_reducible assumption) | ((with_reducible refine bl_alloc ?_ _ ?_); (focus ((first | omega | (simp <;> omega)); done))) | ((with_reducible refine bl_set ?_ _ ?_); (focus ((first | omega | (simp <;> omega)); done))) | (with_reducible refine below_drewN ?_ _) | (with_reducible refine Below.drew ?_) | ((with_reducible refine bl_trans ?_ hb ?_); (focus ((first | omega | (simp <;> omega)); done))) | ((with_reducible refine bl_trans ?_ H1.out ?_); (focus ((first | omega | (simp <;> omega)); done)))))))
      | (go_at_call 47; ((with_reducible refine (HC2.out w3 H3.out).mono ?_); rintro e w4 ⟨rfl, hb⟩; have z3 := H3.out.size; have H4 := Lib.hid (show Below w.heap.size w w4 by repeat (first | (with_reducible exact Below.refl _ _) | (with_reducible assumption) | ((with_reducible refine bl_alloc ?_ _ ?_); (focus ((first | omega | (simp <;> omega)); done))) | ((with_reducible refine bl_set ?_ _ ?_); (focus ((first | omega | (simp <;> omega)); done))) | (with_reducible refine below_drewN ?_ _) | (with_reducible refine Below.drew ?_) | ((with_reducible refine bl_trans ?_ hb ?_); (focus ((first | omega | (simp <;> omega)); done))) | ((with_reducible refine bl_trans ?_ H3.out ?_); (focus ((first | omega | (simp <;> omega)); done))))))))
  go_wp2_with fail
  go_ret
  exact ⟨rfl, H4.out⟩
set_option maxRecDepth 20000 in
set_option maxHeartbeats 4000000 in
theorem walk (w : World) (hT : PowTab w) (v0_0 : Value) (x0_0 : List Int) (r0_0 : Rd w w.heap.size v0_0 x0_0) (ix0_0 : ∀ n ∈ x0_0, In64 n) (v0_1 : Value) (x0_1 : List Int) (r0_1 : Rd w w.heap.size v0_1 x0_1) (ix0_1 : ∀ n ∈ x0_1, In64 n) :
    Calls Tryd.prog 4 #[.agg #[v0_0, v0_1]] w fun e w' => e = .returned (.bool true) ∧ Below w.heap.size w w' := by
  have HTab := Lib.hid hT
  clear hT
  by_cases hs0 : ¬ (x0_0.length : Int) + (x0_1.length : Int) ≤ 1048576
  · go_enter Tryd.func4, Tryd.ntmps4
    go_wp2_with fail
    refine (szMask_not  _ x0_0 _ x0_1 _ w.heap.size (by first | omega | (simp <;> omega)) (Rd.below r0_0 (by repeat (first | (with_reducible exact Below.refl _ _) | (with_reducible assumption) | ((with_reducible refine bl_alloc ?_ _ ?_); (focus ((first | omega | (simp <;> omega)); done))) | ((with_reducible refine bl_set ?_ _ ?_); (focus ((first | omega | (simp <;> omega)); done))) | (with_reducible refine below_drewN ?_ _) | (with_reducible refine Below.drew ?_)))) (Rd.below r0_1 (by repeat (first | (with_reducible exact Below.refl _ _) | (with_reducible assumption) | ((with_reducible refine bl_alloc ?_ _ ?_); (focus ((first | omega | (simp <;> omega)); done))) | ((with_reducible refine bl_set ?_ _ ?_); (focus ((first | omega | (simp <;> omega)); done))) | (with_reducible refine below_drewN ?_ _) | (with_reducible refine Below.drew ?_))))  _ (by omega) (by omega) (by omega)).mono ?_
    rintro e w1 ⟨rfl, hb⟩
    have zz1 : w.heap.size + 1 ≤ w1.heap.size := (by have := hb.size; ((try simp at this) <;> omega))
    have H1 := Lib.hid (show Below w.heap.size w w1 by repeat (first | (with_reducible exact Below.refl _ _) | (with_reducible assumption) | ((with_reducible refine bl_alloc ?_ _ ?_); (focus ((first | omega | (simp <;> omega)); done))) | ((with_reducible refine bl_set ?_ _ ?_); (focus ((first | omega | (simp <;> omega)); done))) | (with_reducible refine below_drewN ?_ _) | (with_reducible refine Below.drew ?_) | ((with_reducible refine bl_trans ?_ hb ?_); (focus ((first | omega | (simp <;> omega)); done)))))
    have f0_0_1 := keeps hb (p := ⟨w.heap.size, 0, none⟩) (v := v0_0) (by simp [go_sem])
    have f0_1_1 := keeps hb (p := ⟨w.heap.size, 1, none⟩) (v := v0_1) (by simp [go_sem])
    have g0_1 : w.heap.size < w1.heap.size := block_of_cell f0_0_1
    clear hb
    go_wp2_with fail
    go_ret
    exact ⟨rfl, (by repeat (first | (with_reducible exact Below.refl _ _) | (with_reducible assumption) | ((with_reducible refine bl_alloc ?_ _ ?_); (focus ((first | omega | (simp <;> omega)); done))) | ((with_reducible refine bl_set ?_ _ ?_); (focus ((first | omega | (simp <;> omega)); done))) | (with_reducible refine below_drewN ?_ _) | (with_reducible refine Below.drew ?_) | ((with_reducible refine bl_trans ?_ H1.out ?_); (focus ((first | omega | (simp <;> omega)); done)))))⟩
  have hs0' : (x0_0.length : Int) + (x0_1.length : Int) ≤ 1048576 := by omega
  clear hs0
  go_enter Tryd.func4, Tryd.ntmps4
  go_wp2_with fail
  refine (szMask_fits  _ x0_0 _ x0_1 _ w.heap.size (by first | omega | (simp <;> omega)) (Rd.below r0_0 (by repeat (first | (with_reducible exact Below.refl _ _) | (with_reducible assumption) | ((with_reducible refine bl_alloc ?_ _ ?_); (focus ((first | omega | (simp <;> omega)); done))) | ((with_reducible refine bl_set ?_ _ ?_); (focus ((first | omega | (simp <;> omega)); done))) | (with_reducible refine below_drewN ?_ _) | (with_reducible refine Below.drew ?_)))) (Rd.below r0_1 (by repeat (first | (with_reducible exact Below.refl _ _) | (with_reducible assumption) | ((with_reducible refine bl_alloc ?_ _ ?_); (focus ((first | omega | (simp <;> omega)); done))) | ((with_reducible refine bl_set ?_ _ ?_); (focus ((first | omega | (simp <;> omega)); done))) | (with_reducible refine below_drewN ?_ _) | (with_reducible refine Below.drew ?_))))  _ (by omega) (by omega)).mono ?_
  rintro e w1 ⟨rfl, hb⟩
  have zz1 : w.heap.size + 1 ≤ w1.heap.size := (by have := hb.size; ((try simp at this) <;> omega))
  have H1 := Lib.hid (show Below w.heap.size w w1 by repeat (first | (with_reducible exact Below.refl _ _) | (with_reducible assumption) | ((with_reducible refine bl_alloc ?_ _ ?_); (focus ((first | omega | (simp <;> omega)); done))) | ((with_reducible refine bl_set ?_ _ ?_); (focus ((first | omega | (simp <;> omega)); done))) | (with_reducible refine below_drewN ?_ _) | (with_reducible refine Below.drew ?_) | ((with_reducible refine bl_trans ?_ hb ?_); (focus ((first | omega | (simp <;> omega)); done)))))
  have f0_0_1 := keeps hb (p := ⟨w.heap.size, 0, none⟩) (v := v0_0) (by simp [go_sem])
  have f0_1_1 := keeps hb (p := ⟨w.heap.size, 1, none⟩) (v := v0_1) (by simp [go_sem])
  have g0_1 : w.heap.size < w1.heap.size := block_of_cell f0_0_1
  clear hb
  go_wp2_with fail
  refine (toMask_any  v0_0 x0_0 v0_1 x0_1 _ w.heap.size (by first | omega | (simp <;> omega)) (Rd.below r0_0 (by repeat (first | (with_reducible exact Below.refl _ _) | (with_reducible assumption) | ((with_reducible refine bl_alloc ?_ _ ?_); (focus ((first | omega | (simp <;> omega)); done))) | ((with_reducible refine bl_set ?_ _ ?_); (focus ((first | omega | (simp <;> omega)); done))) | (with_reducible refine below_drewN ?_ _) | (with_reducible refine Below.drew ?_) | ((with_reducible refine bl_trans ?_ H1.out ?_); (focus ((first | omega | (simp <;> omega)); done)))))) (by omega) (Rd.below r0_1 (by repeat (first | (with_reducible exact Below.refl _ _) | (with_reducible assumption) | ((with_reducible refine bl_alloc ?_ _ ?_); (focus ((first | omega | (simp <;> omega)); done))) | ((with_reducible refine bl_set ?_ _ ?_); (focus ((first | omega | (simp <;> omega)); done))) | (with_reducible refine below_drewN ?_ _) | (with_reducible refine Below.drew ?_) | ((with_reducible refine bl_trans ?_ H1.out ?_); (focus ((first | omega | (simp <;> omega)); done)))))) (by omega)).mono ?_
  rintro e w2 ⟨A0, n0, c0, A1, n1, c1, rfl, hr0, hr1, ha0_1, hb⟩
  have zz2 : w1.heap.size ≤ w2.heap.size := (by have := hb.size; ((try simp at this) <;> omega))
  have H2 := Lib.hid (show Below w.heap.size w w2 by repeat (first | (with_reducible exact Below.refl _ _) | (with_reducible assumption) | ((with_reducible refine bl_alloc ?_ _ ?_); (focus ((first | omega | (simp <;> omega)); done))) | ((with_reducible refine bl_set ?_ _ ?_); (focus ((first | omega | (simp <;> omega)); done))) | (with_reducible refine below_drewN ?_ _) | (with_reducible refine Below.drew ?_) | ((with_reducible refine bl_trans ?_ hb ?_); (focus ((first | omega | (simp <;> omega)); done))) | ((with_reducible refine bl_trans ?_ H1.out ?_); (focus ((first | omega | (simp <;> omega)); done)))))
  have f0_0_2 := keeps hb f0_0_1
  have f0_1_2 := keeps hb f0_1_1
  have g0_2 : w.heap.size < w2.heap.size := block_of_cell f0_0_2
  have R0_2 := Lib.hid hr0
  have RL0 := Lib.hid (show ∀ g, Value.ownBlock (.slice A0 n0 c0) = some g → w1.heap.size ≤ g ∧ g < w2.heap.size from fun g h => by have l1 := hr0.lt g h; ((try simp at l1) <;> omega))
  have RA0_1 := Lib.hid ha0_1
  have R1_2 := Lib.hid hr1
  have RL1 := Lib.hid (show ∀ g, Value.ownBlock (.slice A1 n1 c1) = some g → w1.heap.size ≤ g ∧ g < w2.heap.size from fun g h => by have l1 := hr1.lt g h; ((try simp at l1) <;> omega))
  clear hb f0_0_1 f0_1_1 g0_1 hr0 ha0_1 hr1 H1
  go_wp2_with fail
  refine (spec_any _ _ x0_0 _ R0_2.out ix0_0 _ x0_1 _ R1_2.out ix0_1).mono ?_
  rintro e w3 ⟨rfl, hb⟩
  have zz3 : w2.heap.size ≤ w3.heap.size := (by have := hb.size; ((try simp at this) <;> omega))
  have H3 := Lib.hid (show Below w.heap.size w w3 by repeat (first | (with_reducible exact Below.refl _ _) | (with_reducible assumption) | ((with_reducible refine bl_alloc ?_ _ ?_); (focus ((first | omega | (simp <;> omega)); done))) | ((with_reducible refine bl_set ?_ _ ?_); (focus ((first | omega | (simp <;> omega)); done))) | (with_reducible refine below_drewN ?_ _) | (with_reducible refine Below.drew ?_) | ((with_reducible refine bl_trans ?_ hb ?_); (focus ((first | omega | (simp <;> omega)); done))) | ((with_reducible refine bl_trans ?_ H2.out ?_); (focus ((first | omega | (simp <;> omega)); done)))))
  have f0_0_3 := keeps hb f0_0_2
  have f0_1_3 := keeps hb f0_1_2
  have g0_3 : w.heap.size < w3.heap.size := block_of_cell f0_0_3
  clear hb f0_0_2 f0_1_2 g0_2 R0_2 R1_2 H2
  go_wp2_with fail
  refine (toMask_any  v0_0 x0_0 v0_1 x0_1 _ w.heap.size (by first | omega | (simp <;> omega)) (Rd.below r0_0 (by repeat (first | (with_reducible exact Below.refl _ _) | (with_reducible assumption) | ((with_reducible refine bl_alloc ?_ _ ?_); (focus ((first | omega | (simp <;> omega)); done))) | ((with_reducible refine bl_set ?_ _ ?_); (focus ((first | omega | (simp <;> omega)); done))) | (with_reducible refine below_drewN ?_ _) | (with_reducible refine Below.drew ?_) | ((with_reducible refine bl_trans ?_ H3.out ?_); (focus ((first | omega | (simp <;> omega)); done)))))) (by omega) (Rd.below r0_1 (by repeat (first | (with_reducible exact Below.refl _ _) | (with_reducible assumption) | ((with_reducible refine bl_alloc ?_ _ ?_); (focus ((first | omega | (simp <;> omega)); done))) | ((with_reducible refine bl_set ?_ _ ?_); (focus ((first | omega | (simp <;> omega)); done))) | (with_reducible refine below_drewN ?_ _) | (with_reducible refine Below.drew ?_) | ((with_reducible refine bl_trans ?_ H3.out ?_); (focus ((first | omega | (simp <;> omega)); done)))))) (by omega)).mono ?_
  rintro e w4 ⟨A2, n2, c2, A3, n3, c3, rfl, hr2, hr3, ha2_3, hb⟩
  have zz4 : w3.heap.size ≤ w4.heap.size := (by have := hb.size; ((try simp at this) <;> omega))
  have H4 := Lib.hid (show Below w.heap.size w w4 by repeat (first | (with_reducible exact Below.refl _ _) | (with_reducible assumption) | ((with_reducible refine bl_alloc ?_ _ ?_); (focus ((first | omega | (simp <;> omega)); done))) | ((with_reducible refine bl_set ?_ _ ?_); (focus ((first | omega | (simp <;> omega)); done))) | (with_reducible refine below_drewN ?_ _) | (with_reducible refine Below.drew ?_) | ((with_reducible refine bl_trans ?_ hb ?_); (focus ((first | omega | (simp <;> omega)); done))) | ((with_reducible refine bl_trans ?_ H3.out ?_); (focus ((first | omega | (simp <;> omega)); done)))))
  have f0_0_4 := keeps hb f0_0_3
  have f0_1_4 := keeps hb f0_1_3
  have g0_4 : w.heap.size < w4.heap.size := block_of_cell f0_0_4
  have R2_4 := Lib.hid hr2
  have RL2 := Lib.hid (show ∀ g, Value.ownBlock (.slice A2 n2 c2) = some g → w3.heap.size ≤ g ∧ g < w4.heap.size from fun g h => by have l1 := hr2.lt g h; ((try simp at l1) <;> omega))
  have RA2_3 := Lib.hid ha2_3
  have R3_4 := Lib.hid hr3
  have RL3 := Lib.hid (show ∀ g, Value.ownBlock (.slice A3 n3 c3) = some g → w3.heap.size ≤ g ∧ g < w4.heap.size from fun g h => by have l1 := hr3.lt g h; ((try simp at l1) <;> omega))
  clear hb f0_0_3 f0_1_3 g0_3 hr2 ha2_3 hr3 H3
  go_wp2_with fail
  refine (impl_any _ (PowTab.below HTab.out (by repeat (first | (with_reducible exact Below.refl _ _) | (with_reducible assumption) | ((with_reducible refine bl_alloc ?_ _ ?_); (focus ((first | omega | (simp <;> omega)); done))) | ((with_reducible refine bl_set ?_ _ ?_); (focus ((first | omega | (simp <;> omega)); done))) | (with_reducible refine below_drewN ?_ _) | (with_reducible refine Below.drew ?_) | ((with_reducible refine bl_trans ?_ H4.out ?_); (focus ((first | omega | (simp <;> omega)); done)))))) _ x0_0 _ (R2_4.out.alloc_ _) ix0_0 _ x0_1 _ (R3_4.out.alloc_ _) ix0_1).mono ?_
  rintro e w5 ⟨rfl, hb⟩
  have zz5 : w4.heap.size + 1 ≤ w5.heap.size := (by have := hb.size; ((try simp at this) <;> omega))
  have H5 := Lib.hid (show Below w.heap.size w w5 by repeat (first | (with_reducible exact Below.refl _ _) | (with_reducible assumption) | ((with_reducible refine bl_alloc ?_ _ ?_); (focus ((first | omega | (simp <;> omega)); done))) | ((with_reducible refine bl_set ?_ _ ?_); (focus ((first | omega | (simp <;> omega)); done))) | (with_reducible refine below_drewN ?_ _) | (with_reducible refine Below.drew ?_) | ((with_reducible refine bl_trans ?_ hb ?_); (focus ((first | omega | (simp <;> omega)); done))) | ((with_reducible refine bl_trans ?_ H4.out ?_); (focus ((first | omega | (simp <;> omega)); done)))))
  have f0_0_5 := keeps hb (cell_alloc f0_0_4 _)
  have f0_1_5 := keeps hb (cell_alloc f0_1_4 _)
  have g0_5 : w.heap.size < w5.heap.size := block_of_cell f0_0_5
  have f1_0_5 := keeps hb (p := ⟨w4.heap.size, 0, none⟩) (v := (.slice A2 n2 c2)) (by simp [go_sem])
  have f1_1_5 := keeps hb (p := ⟨w4.heap.size, 1, none⟩) (v := (.slice A3 n3 c3)) (by simp [go_sem])
  have g1_5 : w4.heap.size < w5.heap.size := block_of_cell f1_0_5
  have R2_5 := Lib.hid (Row.later (R2_4.out.alloc_ _) hb)
  have R3_5 := Lib.hid (Row.later (R3_4.out.alloc_ _) hb)
  clear hb f0_0_4 f0_1_4 g0_4 R2_4 R3_4 H4
  go_wp2_with fail
  go_region_held3 (fun w' => w'.cell? ⟨w4.heap.size, 0, none⟩ = some ((.slice A2 n2 c2)) ∧ w'.cell? ⟨w4.heap.size, 1, none⟩ = some ((.slice A3 n3 c3)) ∧ w'.cell? ⟨w.heap.size, 0, none⟩ = some (v0_0) ∧ w'.cell? ⟨w.heap.size, 1, none⟩ = some (v0_1))
    (first | (refine ⟨?_, ?_, ?_, ?_⟩ <;> assumption) | (go_split_ands; (refine ⟨?_, ?_, ?_, ?_⟩ <;> first | assumption | (refine keeps hb ?_; assumption))))
    (first
      | (go_at_call 15; ((with_reducible refine (toMask_any  v0_0 x0_0 v0_1 x0_1 _ w.heap.size (by first | omega | (simp <;> omega)) (Rd.below r0_0 (by repeat (first | (with_reducible exact Below.refl _ _) | (with_reducible assumption) | ((with_reducible refine bl_alloc ?_ _ ?_); (focus ((first | omega | (simp <;> omega)); done))) | ((with_reducible refine bl_set ?_ _ ?_); (focus ((first | omega | (simp <;> omega)); done))) | (with_reducible refine below_drewN ?_ _) | (with_reducible refine Below.drew ?_) | ((with_reducible refine bl_trans ?_ H5.out ?_); (focus ((first | omega | (simp <;> omega)); done)))))) (by omega) (Rd.below r0_1 (by repeat (first | (with_reducible exact Below.refl _ _) | (with_reducible assumption) | ((with_reducible refine bl_alloc ?_ _ ?_); (focus ((first | omega | (simp <;> omega)); done))) | ((with_reducible refine bl_set ?_ _ ?_); (focus ((first | omega | (simp <;> omega)); done))) | (with_reducible refine below_drewN ?_ _) | (with_reducible refine Below.drew ?_) | ((with_reducible refine bl_trans ?_ H5.out ?_); (focus ((first | omega | (simp <;> omega)); done)))))) (by omega)).mono ?_); rintro e w6 ⟨A4, n4, c4, A5, n5, c5, rfl, hr4, hr5, ha4_5, hb⟩; have zz6 : w5.heap.size ≤ w6.heap.size := (by have := hb.size; ((try simp at this) <;> omega)); have H6 := Lib.hid (show Below w.heap.size w w6 by repeat (first | (with_reducible exact Below.refl _ _) | (with_reducible assumption) | ((with_reducible refine bl_alloc ?_ _ ?_); (focus ((first | omega | (simp <;> omega)); done))) | ((with_reducible refine bl_set ?_ _ ?_); (focus ((first | omega | (simp <;> omega)); done))) | (with_reducible refine below_drewN ?_ _) | (with_reducible refine Below.drew ?_) | ((with_reducible refine bl_trans ?_ hb ?_); (focus ((first | omega | (simp <;> omega)); done))) | ((with_reducible refine bl_trans ?_ H5.out ?_); (focus ((first | omega | (simp <;> omega)); done))))); have R2_6 := Lib.hid (Row.later1 R2_5.out hb); have R3_6 := Lib.hid (Row.later1 R3_5.out hb); have R4_6 := Lib.hid hr4; have RL4 := Lib.hid (show ∀ g, Value.ownBlock (.slice A4 n4 c4) = some g → w5.heap.size ≤ g ∧ g < w6.heap.size from fun g h => by have l1 := hr4.lt g h; ((try simp at l1) <;> omega)); have RA4_5 := Lib.hid ha4_5; have R5_6 := Lib.hid hr5; have RL5 := Lib.hid (show ∀ g, Value.ownBlock (.slice A5 n5 c5) = some g → w5.heap.size ≤ g ∧ g < w6.heap.size from fun g h => by have l1 := hr5.lt g h; ((try simp at l1) <;> omega)); clear f0_0_5 f0_1_5 g0_5 f1_0_5 f1_1_5 g1_5 R2_5 R3_5 hr4 ha4_5 hr5 H5))
      | (go_at_call 17; ((with_reducible refine (eqMask_any  _ _ _ (x0_0) _ _ R2_6.out R4_6.out _ _ (x0_1) _ _ R3_6.out R5_6.out).mono ?_); rintro e w7 ⟨rfl, hb⟩; have zz7 : w6.heap.size ≤ w7.heap.size := (by have := hb.size; ((try simp at this) <;> omega)); have H7 := Lib.hid (show Below w.heap.size w w7 by repeat (first | (with_reducible exact Below.refl _ _) | (with_reducible assumption) | ((with_reducible refine bl_alloc ?_ _ ?_); (focus ((first | omega | (simp <;> omega)); done))) | ((with_reducible refine bl_set ?_ _ ?_); (focus ((first | omega | (simp <;> omega)); done))) | (with_reducible refine below_drewN ?_ _) | (with_reducible refine Below.drew ?_) | ((with_reducible refine bl_trans ?_ hb ?_); (focus ((first | omega | (simp <;> omega)); done))) | ((with_reducible refine bl_trans ?_ H6.out ?_); (focus ((first | omega | (simp <;> omega)); done))))); clear R2_6 R3_6 R4_6 R5_6 H6)))
  go_wp2_with fail
  go_ret
  exact ⟨rfl, (by repeat (first | (with_reducible exact Below.refl _ _) | (with_reducible assumption) | ((with_reducible refine bl_alloc ?_ _ ?_); (focus ((first | omega | (simp <;> omega)); done))) | ((with_reducible refine bl_set ?_ _ ?_); (focus ((first | omega | (simp <;> omega)); done))) | (with_reducible refine below_drewN ?_ _) | (with_reducible refine Below.drew ?_) | ((with_reducible refine bl_trans ?_ H7.out ?_); (focus ((first | omega | (simp <;> omega)); done)))))⟩
end Go.Proofs.YtboglgkaelbdcaaDoor.fnExactMaskText
