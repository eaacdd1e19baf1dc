/-
  Contracts of MaskText: the program's and the reference's, as in the law's own text. The conditions are the hypotheses.
-/
import Derived.Test.YtampjgfddakdoaaDoorRows
import Derived.Test.YtampjgfddakdoaaDoorLib
import Derived.Test.YtampjgfddakdoaaDoorInt
import Derived.Test.YtampjgfddakdoaaDoorInts
import Derived.Test.YtampjgfddakdoaaDoorOwn
import Derived.Test.YtampjgfddakdoaaDoorField
import Derived.Test.YtampjgfddakdoaaDoorMask
import Derived.Test.YtampjgfddakdoaaDoorWithin
import Derived.Test.YtampjgfddakdoaaDoorMaskB
import Derived.Test.YtampjgfddakdoaaDoorRises
import Derived.Test.YtampjgfddakdoaaDoorMaskI
import Derived.Test.YtampjgfddakdoaaDoorMaskS
import Derived.Test.YtampjgfddakdoaaDoorGRow
import Derived.Test.YtampjgfddakdoaaDoorDecS
import Derived.Test.YtampjgfddakdoaaDoorListT
import Derived.Test.YtampjgfddakdoaaDoorDec
import Derived.Outline
import Derived.Deep.RegionHeld3
import Derived.Deep.DrawnRows
import Derived.Laws.Concat
namespace Go.Proofs.YtampjgfddakdoaaDoor.ofMaskText
open Go.RowKit
set_option linter.unusedSimpArgs false
set_option linter.unusedVariables false
attribute [local go_sem ↓] Go.wp_at_zero Go.wp_at_succ
def maskT (xs ys : List Int) : List UInt8 := if maskB xs ys = true then listT xs ++ [32] ++ listT ys else []
theorem maskT_no {xs ys : List Int} (h : maskB xs ys = false) : maskT xs ys = [] := if_neg (by rw [h]; simp)
theorem maskT_yes {xs ys : List Int} (h : maskB xs ys = true) : maskT xs ys = listT xs ++ [32] ++ listT ys := if_pos h
theorem listT_len {xs : List Int} (hb : lst12 xs) (hl : xs.length ≤ 64) : (listT xs).length ≤ 1408 := by
  unfold listT
  split
  · simp
  · have := txtK_len hb xs.length (Nat.le_refl _)
    omega
theorem mask_lst {xs ys : List Int} (h : maskB xs ys = true) : lst12 xs ∧ xs.length ≤ 64 ∧ lst12 ys ∧ ys.length ≤ 64 := by
  obtain ⟨h1, h2, h3, _, _, h6, h7⟩ := mask_parts h
  refine ⟨fun k hk => ?_, by omega, fun k hk => ?_, by omega⟩
  · have := (h6 k hk).1
    omega
  · have := (h7 k hk).1
    omega
set_option maxRecDepth 20000 in
set_option maxHeartbeats 4000000 in
theorem impl_any (w : World) (hT : PowTab w) (a : Value) (xs : List Int) (p : Nat) (ha : Row 2 w p a xs) (ixs : ∀ n ∈ xs, In64 n) (b : Value) (ys : List Int) (q : Nat) (hb : Row 2 w q b ys) (iys : ∀ n ∈ ys, In64 n) :
    Calls Tryd.prog 26 #[.agg #[a, b]] w fun e w' => e = .returned (.string ⟨(maskT xs ys).toArray⟩) ∧ Below w.heap.size w w' := by
  have HA := Lib.hid ha
  have HB := Lib.hid hb
  have HT := Lib.hid hT
  clear hT
  clear ha hb ixs iys
  rcases bool_tf (maskB xs ys) with hm | hm
  rotate_left
  · rw [maskT_no hm]
    have HE := Lib.hid hm
    clear hm
    go_enter Tryd.func26, Tryd.ntmps26
    go_wp2_with fail
    refine (ValidMask_any _ a xs p (HA.out.alloc_ _) b ys q (HB.out.alloc_ _)).mono ?_
    rintro e w1 ⟨he, hb⟩
    rw [HE.out] at he
    subst he
    have H1 := Lib.hid (show Below w.heap.size w w1 by repeat (first | (with_reducible exact Below.refl _ _) | (with_reducible assumption) | ((with_reducible refine bl_alloc ?_ _ ?_); (focus ((first | omega | (simp <;> omega)); done))) | ((with_reducible refine bl_set ?_ _ ?_); (focus ((first | omega | (simp <;> omega)); done))) | (with_reducible refine below_drewN ?_ _) | (with_reducible refine Below.drew ?_) | ((with_reducible refine bl_trans ?_ hb ?_); (focus ((first | omega | (simp <;> omega)); done)))))
    clear hb
    go_wp2_with fail
    go_ret
    exact ⟨rfl, H1.out⟩
  rw [maskT_yes hm]
  obtain ⟨hx, lx, hy, ly⟩ := mask_lst hm
  have u1 := listT_len hx lx
  have u2 := listT_len hy ly
  have HC1 : Hid (∀ W : World, Below w.heap.size w W → Calls Tryd.prog 45 #[a] W fun e w' => e = .returned (.string ⟨(listT xs).toArray⟩) ∧ Below W.heap.size W w') := fun W hW => ListText_any W (HT.out.below hW) a xs p (HA.out.later hW) hx lx
  have HC2 : Hid (∀ W : World, Below w.heap.size w W → Calls Tryd.prog 45 #[b] W fun e w' => e = .returned (.string ⟨(listT ys).toArray⟩) ∧ Below W.heap.size W w') := fun W hW => ListText_any W (HT.out.below hW) b ys q (HB.out.later hW) hy ly
  obtain ⟨U, hU⟩ : ∃ U, U = listT xs := ⟨_, rfl⟩
  obtain ⟨V, hV⟩ : ∃ V, V = listT ys := ⟨_, rfl⟩
  rw [← hU] at u1 HC1 ⊢
  rw [← hV] at u2 HC2 ⊢
  clear hU hV
  have hadd1 : ∀ W : World, (Op.stringOp .add ⟨U.toArray⟩ ⟨#[32]⟩).run Tryd.prog W = .ok (.string ⟨(U ++ [32]).toArray⟩) W := fun W => str_add U [32] (by simp; omega) W
  have hadd2 : ∀ W : World, (Op.stringOp .add ⟨(U ++ [32]).toArray⟩ ⟨V.toArray⟩).run Tryd.prog W = .ok (.string ⟨(U ++ [32] ++ V).toArray⟩) W := fun W => str_add (U ++ [32]) V (by simp; omega) W
  obtain ⟨U1, hU1⟩ : ∃ U1, U1 = U ++ [32] := ⟨_, rfl⟩
  rw [← hU1] at hadd1 hadd2 ⊢
  obtain ⟨Z, hZ⟩ : ∃ Z, Z = U1 ++ V := ⟨_, rfl⟩
  rw [← hZ] at hadd2 ⊢
  clear hU1 hZ u1 u2 hx lx hy ly
  have HE := Lib.hid hm
  clear hm
  go_enter Tryd.func26, Tryd.ntmps26
  go_wp2_with fail
  refine (ValidMask_any _ a xs p (HA.out.alloc_ _) b ys q (HB.out.alloc_ _)).mono ?_
  rintro e w1 ⟨he, hb⟩
  rw [HE.out] at he
  subst he
  have H1 := Lib.hid (show Below w.heap.size w w1 by repeat (first | (with_reducible exact Below.refl _ _) | (with_reducible assumption) | ((with_reducible refine bl_alloc ?_ _ ?_); (focus ((first | omega | (simp <;> omega)); done))) | ((with_reducible refine bl_set ?_ _ ?_); (focus ((first | omega | (simp <;> omega)); done))) | (with_reducible refine below_drewN ?_ _) | (with_reducible refine Below.drew ?_) | ((with_reducible refine bl_trans ?_ hb ?_); (focus ((first | omega | (simp <;> omega)); done)))))
  have x0 := keeps hb (p := ⟨w.heap.size, 0, none⟩) (v := a) (by simp [go_sem])
  have x1 := keeps hb (p := ⟨w.heap.size, 1, none⟩) (v := b) (by simp [go_sem])
  have z1 := H1.out.size
  clear hb
  go_wp2_with fail
  go_region_held3 (fun w' => w'.cell? ⟨w.heap.size, 0, none⟩ = some a ∧ w'.cell? ⟨w.heap.size, 1, none⟩ = some b)
    (((try go_split_ands); (refine ⟨?_, ?_⟩ <;> (repeat (first | (with_reducible assumption) | (with_reducible refine cell_drew ?_) | (with_reducible refine cell_drewN ?_) | (with_reducible refine keeps hb ?_) | (with_reducible refine keeps hb3 ?_) | fail)))))
    (first
      | (go_at_call 45; ((with_reducible refine (HC1.out _ (by repeat (first | (with_reducible exact Below.refl _ _) | (with_reducible assumption) | ((with_reducible refine bl_alloc ?_ _ ?_); (focus ((first | omega | (simp <;> omega)); done))) | ((with_reducible refine bl_set ?_ _ ?_); (focus ((first | omega | (simp <;> omega)); done))) | (with_reducible refine below_drewN ?_ _) | (with_reducible refine Below.drew ?_) | ((with_reducible refine bl_trans ?_ H1.out ?_); (focus ((first | omega | (simp <;> omega)); done)))))).mono ?_); rintro e w3 ⟨rfl, hb⟩; have hb3 := hb; have H3 := Lib.hid (show Below w.heap.size w w3 by repeat (first | (with_reducible exact Below.refl _ _) | (with_reducible assumption) | ((with_reducible refine bl_alloc ?_ _ ?_); (focus ((first | omega | (simp <;> omega)); done))) | ((with_reducible refine bl_set ?_ _ ?_); (focus ((first | omega | (simp <;> omega)); done))) | (with_reducible refine below_drewN ?_ _) | (with_reducible refine Below.drew ?_) | ((with_reducible refine bl_trans ?_ hb ?_); (focus ((first | omega | (simp <;> omega)); done))) | ((with_reducible refine bl_trans ?_ H1.out ?_); (focus ((first | omega | (simp <;> omega)); done)))))))
      | (go_at_call 45; ((with_reducible refine (HC2.out w3 H3.out).mono ?_); rintro e w4 ⟨rfl, hb⟩; have z3 := H3.out.size; have H4 := Lib.hid (show Below w.heap.size w w4 by repeat (first | (with_reducible exact Below.refl _ _) | (with_reducible assumption) | ((with_reducible refine bl_alloc ?_ _ ?_); (focus ((first | omega | (simp <;> omega)); done))) | ((with_reducible refine bl_set ?_ _ ?_); (focus ((first | omega | (simp <;> omega)); done))) | (with_reducible refine below_drewN ?_ _) | (with_reducible refine Below.drew ?_) | ((with_reducible refine bl_trans ?_ hb ?_); (focus ((first | omega | (simp <;> omega)); done))) | ((with_reducible refine bl_trans ?_ H3.out ?_); (focus ((first | omega | (simp <;> omega)); done))))))))
  go_wp2_with fail
  go_ret
  exact ⟨rfl, H4.out⟩
end Go.Proofs.YtampjgfddakdoaaDoor.ofMaskText
