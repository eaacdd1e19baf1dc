/-
  Contracts of AntennaText: the program's and the reference's, as in the law's own text. The conditions are the hypotheses.
-/
import Derived.Test.YtampjgfddakdoaaDoorRows
import Derived.Test.YtampjgfddakdoaaDoorLib
import Derived.Test.YtampjgfddakdoaaDoorInt
import Derived.Test.YtampjgfddakdoaaDoorAll
import Derived.Test.YtampjgfddakdoaaDoorNames
import Derived.Test.YtampjgfddakdoaaDoorPattern
import Derived.Test.YtampjgfddakdoaaDoorInts
import Derived.Test.YtampjgfddakdoaaDoorAntenna
import Derived.Test.YtampjgfddakdoaaDoorOwn
import Derived.Test.YtampjgfddakdoaaDoorField
import Derived.Test.YtampjgfddakdoaaDoorWithin
import Derived.Test.YtampjgfddakdoaaDoorGRow
import Derived.Test.YtampjgfddakdoaaDoorDecS
import Derived.Test.YtampjgfddakdoaaDoorListT
import Derived.Test.YtampjgfddakdoaaDoorDec
import Derived.Outline
import Derived.Deep.RegionHeld3
import Derived.Deep.DrawnRows
import Derived.Laws.Concat
namespace Go.Proofs.YtampjgfddakdoaaDoor.ofAntennaText
open Go.RowKit
set_option linter.unusedSimpArgs false
set_option linter.unusedVariables false
attribute [local go_sem ↓] Go.wp_at_zero Go.wp_at_succ
def antT (s : ByteArray) (g : Int) (xs ys : List Int) : List UInt8 := if antB s g xs ys = true then s.data.toList ++ [32] ++ Lib.itoa g ++ [32] ++ listT xs ++ [32] ++ listT ys else []
theorem antT_no {s : ByteArray} {g : Int} {xs ys : List Int} (h : antB s g xs ys = false) : antT s g xs ys = [] := if_neg (by rw [h]; simp)
theorem antT_yes {s : ByteArray} {g : Int} {xs ys : List Int} (h : antB s g xs ys = true) : antT s g xs ys = s.data.toList ++ [32] ++ Lib.itoa g ++ [32] ++ listT xs ++ [32] ++ listT ys := if_pos h
theorem listT_len {xs : List Int} (hb : lst12 xs) (hl : xs.length ≤ 64) : (listT xs).length ≤ 1408 := by
  unfold listT
  split
  · simp
  · have := txtK_len hb xs.length (Nat.le_refl _)
    omega
theorem name_len {s : ByteArray} (h : nameB s = true) : s.size ≤ 10 := by
  rcases Nat.lt_or_ge 10 s.size with h1 | h1
  · rw [name_long h1] at h
    cases h
  · exact h1
theorem all_lst {xs : List Int} (h : allIn xs 0 60000 = true) : lst12 xs := fun k hk => by
  have := (of_decide_eq_true h) k hk
  omega
theorem ant_lst {s : ByteArray} {g : Int} {xs ys : List Int} (h : antB s g xs ys = true) : s.size ≤ 10 ∧ -60000 ≤ g ∧ g ≤ 60000 ∧ lst12 xs ∧ xs.length ≤ 64 ∧ lst12 ys ∧ ys.length ≤ 64 := by
  obtain ⟨h1, h2, h3, h4, h5⟩ := ant_parts h
  obtain ⟨a1, _, a2⟩ := loss_parts h4
  obtain ⟨b1, _, b2⟩ := loss_parts h5
  exact ⟨name_len h1, h2, h3, all_lst a2, by omega, all_lst b2, by omega⟩
theorem str_add1 (s : ByteArray) (b : List UInt8) (h : s.size + b.length ≤ 100000) (W : World) : (Op.stringOp .add s ⟨b.toArray⟩).run Tryd.prog W = .ok (.string ⟨(s.data.toList ++ b).toArray⟩) W := by
  have e : s = ⟨s.data.toList.toArray⟩ := by
    apply ByteArray.ext
    simp
  have h' : s.data.toList.length + b.length ≤ 100000 := by simpa using h
  have := str_add s.data.toList b h' W
  rw [← e] at this
  exact this
set_option maxRecDepth 20000 in
set_option maxHeartbeats 4000000 in
theorem impl_any (w : World) (hT : PowTab w) (s : ByteArray) (is : s.size ≤ maxLen) (g : Int) (ig : In64 g) (a : Value) (xs : List Int) (p : Nat) (ha : Row 2 w p a xs) (ixs : ∀ n ∈ xs, In64 n) (b : Value) (ys : List Int) (q : Nat) (hb : Row 2 w q b ys) (iys : ∀ n ∈ ys, In64 n) :
    Calls Tryd.prog 41 #[.agg #[.string s, .int .i64 g, a, b]] w fun e w' => e = .returned (.string ⟨(antT s g xs ys).toArray⟩) ∧ Below w.heap.size w w' := by
  have HA := Lib.hid ha
  have HB := Lib.hid hb
  have IS := Lib.hid is
  have HT := Lib.hid hT
  clear hT
  clear ha hb ixs iys is ig
  rcases bool_two (antB s g xs ys) with hm | hm
  rotate_left
  · rw [antT_no hm]
    have HE := Lib.hid hm
    clear hm
    go_enter Tryd.func41, Tryd.ntmps41
    go_wp2_with fail
    refine (ValidAntenna_any _ s IS.out g a xs p (HA.out.alloc_ _) b ys q (HB.out.alloc_ _)).mono ?_
    rintro e w1 ⟨he, hb⟩
    rw [HE.out] at he
    subst he
    have H1 := Lib.hid (show Below w.heap.size w w1 by repeat (first | (with_reducible exact Below.refl _ _) | (with_reducible assumption) | ((with_reducible refine bl_alloc ?_ _ ?_); (focus ((first | omega | (simp <;> omega)); done))) | ((with_reducible refine bl_set ?_ _ ?_); (focus ((first | omega | (simp <;> omega)); done))) | (with_reducible refine below_drewN ?_ _) | (with_reducible refine Below.drew ?_) | ((with_reducible refine bl_trans ?_ hb ?_); (focus ((first | omega | (simp <;> omega)); done)))))
    clear hb
    go_wp2_with fail
    go_ret
    exact ⟨rfl, H1.out⟩
  rw [antT_yes hm]
  obtain ⟨hs10, hg0, hg1, hx, lx, hy, ly⟩ := ant_lst hm
  have u0 := itoa_21 (show -1000000000000 ≤ g by omega) (show g ≤ 1000000000000 by omega)
  have u1 := listT_len hx lx
  have u2 := listT_len hy ly
  have HC0 : Hid (∀ W : World, Below w.heap.size w W → Calls Tryd.prog 52 #[.int .i64 g] W fun e w' => e = .returned (.string ⟨(Lib.itoa g).toArray⟩) ∧ Below W.heap.size W w') := fun W hW => Decimal_any W (HT.out.below hW) g (by omega)
  have HC1 : Hid (∀ W : World, Below w.heap.size w W → Calls Tryd.prog 45 #[a] W fun e w' => e = .returned (.string ⟨(listT xs).toArray⟩) ∧ Below W.heap.size W w') := fun W hW => ListText_any W (HT.out.below hW) a xs p (HA.out.later hW) hx lx
  have HC2 : Hid (∀ W : World, Below w.heap.size w W → Calls Tryd.prog 45 #[b] W fun e w' => e = .returned (.string ⟨(listT ys).toArray⟩) ∧ Below W.heap.size W w') := fun W hW => ListText_any W (HT.out.below hW) b ys q (HB.out.later hW) hy ly
  obtain ⟨D, hD⟩ : ∃ D, D = Lib.itoa g := ⟨_, rfl⟩
  obtain ⟨U, hU⟩ : ∃ U, U = listT xs := ⟨_, rfl⟩
  obtain ⟨V, hV⟩ : ∃ V, V = listT ys := ⟨_, rfl⟩
  rw [← hD] at u0 HC0 ⊢
  rw [← hU] at u1 HC1 ⊢
  rw [← hV] at u2 HC2 ⊢
  clear hD hU hV
  have hadd1 : ∀ W : World, (Op.stringOp .add s ⟨#[32]⟩).run Tryd.prog W = .ok (.string ⟨(s.data.toList ++ [32]).toArray⟩) W := fun W => str_add1 s [32] (by simp; omega) W
  have y1 : (s.data.toList ++ [32]).length ≤ 11 := by simp; omega
  obtain ⟨Z1, hZ1⟩ : ∃ Z, Z = s.data.toList ++ [32] := ⟨_, rfl⟩
  rw [← hZ1] at hadd1 y1 ⊢
  clear hZ1
  have hadd2 : ∀ W : World, (Op.stringOp .add ⟨Z1.toArray⟩ ⟨D.toArray⟩).run Tryd.prog W = .ok (.string ⟨(Z1 ++ D).toArray⟩) W := fun W => str_add Z1 D (by (try simp); omega) W
  have y2 : (Z1 ++ D).length ≤ 40 := by (try simp); omega
  obtain ⟨Z2, hZ2⟩ : ∃ Z, Z = Z1 ++ D := ⟨_, rfl⟩
  rw [← hZ2] at hadd2 y2 ⊢
  clear hZ2
  have hadd3 : ∀ W : World, (Op.stringOp .add ⟨Z2.toArray⟩ ⟨#[32]⟩).run Tryd.prog W = .ok (.string ⟨(Z2 ++ [32]).toArray⟩) W := fun W => str_add Z2 [32] (by (try simp); omega) W
  have y3 : (Z2 ++ [32]).length ≤ 41 := by (try simp); omega
  obtain ⟨Z3, hZ3⟩ : ∃ Z, Z = Z2 ++ [32] := ⟨_, rfl⟩
  rw [← hZ3] at hadd3 y3 ⊢
  clear hZ3
  have hadd4 : ∀ W : World, (Op.stringOp .add ⟨Z3.toArray⟩ ⟨U.toArray⟩).run Tryd.prog W = .ok (.string ⟨(Z3 ++ U).toArray⟩) W := fun W => str_add Z3 U (by (try simp); omega) W
  have y4 : (Z3 ++ U).length ≤ 1500 := by (try simp); omega
  obtain ⟨Z4, hZ4⟩ : ∃ Z, Z = Z3 ++ U := ⟨_, rfl⟩
  rw [← hZ4] at hadd4 y4 ⊢
  clear hZ4
  have hadd5 : ∀ W : World, (Op.stringOp .add ⟨Z4.toArray⟩ ⟨#[32]⟩).run Tryd.prog W = .ok (.string ⟨(Z4 ++ [32]).toArray⟩) W := fun W => str_add Z4 [32] (by (try simp); omega) W
  have y5 : (Z4 ++ [32]).length ≤ 1501 := by (try simp); omega
  obtain ⟨Z5, hZ5⟩ : ∃ Z, Z = Z4 ++ [32] := ⟨_, rfl⟩
  rw [← hZ5] at hadd5 y5 ⊢
  clear hZ5
  have hadd6 : ∀ W : World, (Op.stringOp .add ⟨Z5.toArray⟩ ⟨V.toArray⟩).run Tryd.prog W = .ok (.string ⟨(Z5 ++ V).toArray⟩) W := fun W => str_add Z5 V (by (try simp); omega) W
  have y6 : (Z5 ++ V).length ≤ 3000 := by (try simp); omega
  obtain ⟨Z6, hZ6⟩ : ∃ Z, Z = Z5 ++ V := ⟨_, rfl⟩
  rw [← hZ6] at hadd6 y6 ⊢
  clear hZ6
  clear u0 u1 u2 hx lx hy ly y1 y2 y3 y4 y5 y6 hg0 hg1
  have HE := Lib.hid hm
  clear hm
  go_enter Tryd.func41, Tryd.ntmps41
  go_wp2_with fail
  refine (ValidAntenna_any _ s IS.out g a xs p (HA.out.alloc_ _) b ys q (HB.out.alloc_ _)).mono ?_
  rintro e w1 ⟨he, hb⟩
  rw [HE.out] at he
  subst he
  have H1 := Lib.hid (show Below w.heap.size w w1 by repeat (first | (with_reducible exact Below.refl _ _) | (with_reducible assumption) | ((with_reducible refine bl_alloc ?_ _ ?_); (focus ((first | omega | (simp <;> omega)); done))) | ((with_reducible refine bl_set ?_ _ ?_); (focus ((first | omega | (simp <;> omega)); done))) | (with_reducible refine below_drewN ?_ _) | (with_reducible refine Below.drew ?_) | ((with_reducible refine bl_trans ?_ hb ?_); (focus ((first | omega | (simp <;> omega)); done)))))
  have x0 := keeps hb (p := ⟨w.heap.size, 0, none⟩) (v := .string s) (by simp [go_sem])
  have x1 := keeps hb (p := ⟨w.heap.size, 1, none⟩) (v := .int .i64 g) (by simp [go_sem])
  have x2 := keeps hb (p := ⟨w.heap.size, 2, none⟩) (v := a) (by simp [go_sem])
  have x3 := keeps hb (p := ⟨w.heap.size, 3, none⟩) (v := b) (by simp [go_sem])
  have z1 := H1.out.size
  clear hb
  go_wp2_with fail
  go_region_held3 (fun w' => w'.cell? ⟨w.heap.size, 0, none⟩ = some (.string s) ∧ w'.cell? ⟨w.heap.size, 1, none⟩ = some (.int .i64 g) ∧ w'.cell? ⟨w.heap.size, 2, none⟩ = some (a) ∧ w'.cell? ⟨w.heap.size, 3, none⟩ = some (b))
    (((try go_split_ands); (refine ⟨?_, ?_, ?_, ?_⟩ <;> (repeat (first | (with_reducible assumption) | (with_reducible refine cell_drew ?_) | (with_reducible refine cell_drewN ?_) | (with_reducible refine keeps hb ?_) | (with_reducible refine keeps hb3 ?_) | (with_reducible refine keeps hb4 ?_) | fail)))))
    (first
      | (go_at_call 52; ((with_reducible refine (HC0.out _ (by repeat (first | (with_reducible exact Below.refl _ _) | (with_reducible assumption) | ((with_reducible refine bl_alloc ?_ _ ?_); (focus ((first | omega | (simp <;> omega)); done))) | ((with_reducible refine bl_set ?_ _ ?_); (focus ((first | omega | (simp <;> omega)); done))) | (with_reducible refine below_drewN ?_ _) | (with_reducible refine Below.drew ?_) | ((with_reducible refine bl_trans ?_ H1.out ?_); (focus ((first | omega | (simp <;> omega)); done)))))).mono ?_); rintro e w3 ⟨rfl, hb⟩; have hb3 := hb; have H3 := Lib.hid (show Below w.heap.size w w3 by repeat (first | (with_reducible exact Below.refl _ _) | (with_reducible assumption) | ((with_reducible refine bl_alloc ?_ _ ?_); (focus ((first | omega | (simp <;> omega)); done))) | ((with_reducible refine bl_set ?_ _ ?_); (focus ((first | omega | (simp <;> omega)); done))) | (with_reducible refine below_drewN ?_ _) | (with_reducible refine Below.drew ?_) | ((with_reducible refine bl_trans ?_ hb ?_); (focus ((first | omega | (simp <;> omega)); done))) | ((with_reducible refine bl_trans ?_ H1.out ?_); (focus ((first | omega | (simp <;> omega)); done)))))))
      | (go_at_call 45; ((with_reducible refine (HC1.out w3 H3.out).mono ?_); rintro e w4 ⟨rfl, hb⟩; have hb4 := hb; have z3 := H3.out.size; have H4 := Lib.hid (show Below w.heap.size w w4 by repeat (first | (with_reducible exact Below.refl _ _) | (with_reducible assumption) | ((with_reducible refine bl_alloc ?_ _ ?_); (focus ((first | omega | (simp <;> omega)); done))) | ((with_reducible refine bl_set ?_ _ ?_); (focus ((first | omega | (simp <;> omega)); done))) | (with_reducible refine below_drewN ?_ _) | (with_reducible refine Below.drew ?_) | ((with_reducible refine bl_trans ?_ hb ?_); (focus ((first | omega | (simp <;> omega)); done))) | ((with_reducible refine bl_trans ?_ H3.out ?_); (focus ((first | omega | (simp <;> omega)); done)))))))
      | (go_at_call 45; ((with_reducible refine (HC2.out w4 H4.out).mono ?_); rintro e w5 ⟨rfl, hb⟩; have z4 := H4.out.size; have H5 := Lib.hid (show Below w.heap.size w w5 by repeat (first | (with_reducible exact Below.refl _ _) | (with_reducible assumption) | ((with_reducible refine bl_alloc ?_ _ ?_); (focus ((first | omega | (simp <;> omega)); done))) | ((with_reducible refine bl_set ?_ _ ?_); (focus ((first | omega | (simp <;> omega)); done))) | (with_reducible refine below_drewN ?_ _) | (with_reducible refine Below.drew ?_) | ((with_reducible refine bl_trans ?_ hb ?_); (focus ((first | omega | (simp <;> omega)); done))) | ((with_reducible refine bl_trans ?_ H4.out ?_); (focus ((first | omega | (simp <;> omega)); done))))))))
  go_wp2_with fail
  go_ret
  exact ⟨rfl, H5.out⟩
end Go.Proofs.YtampjgfddakdoaaDoor.ofAntennaText
