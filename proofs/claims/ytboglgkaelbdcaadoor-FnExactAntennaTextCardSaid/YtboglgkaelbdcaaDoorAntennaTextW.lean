/-
  The walk of FnExactAntennaText: it returns true, and of what was there nothing has turned. The conditions are what its arguments' readings give.
-/
import Derived.Test.YtboglgkaelbdcaaDoorRows
import Derived.Test.YtboglgkaelbdcaaDoorLib
import Derived.Test.YtboglgkaelbdcaaDoorShelf
import Derived.Test.YtboglgkaelbdcaaDoorDec
import Derived.Test.YtboglgkaelbdcaaDoorPow
import Derived.Test.YtboglgkaelbdcaaDoorInt
import Derived.Test.YtboglgkaelbdcaaDoorAll
import Derived.Test.YtboglgkaelbdcaaDoorNames
import Derived.Test.YtboglgkaelbdcaaDoorPattern
import Derived.Test.YtboglgkaelbdcaaDoorInts
import Derived.Test.YtboglgkaelbdcaaDoorAntenna
import Derived.Test.YtboglgkaelbdcaaDoorOwn
import Derived.Test.YtboglgkaelbdcaaDoorField
import Derived.Test.YtboglgkaelbdcaaDoorWithin
import Derived.Test.YtboglgkaelbdcaaDoorGRow
import Derived.Test.YtboglgkaelbdcaaDoorDecS
import Derived.Test.YtboglgkaelbdcaaDoorListT
import Derived.Outline
import Derived.Deep.RegionHeld3
import Derived.Deep.DrawnRows
import Derived.Laws.Concat
namespace Go.Proofs.YtboglgkaelbdcaaDoor.fnExactAntennaText
open Go.RowKit Go.ChangeShapes Go.WideShapes Go.ChangeAt
set_option linter.unusedVariables false
set_option linter.unusedSimpArgs false

attribute [local go_sem ↓] Go.wp_at_zero Go.wp_at_succ
def antT (s : ByteArray) (g : Int) (xs ys : List Int) : List UInt8 := if antB s g xs ys = true then s.data.toList ++ [32] ++ Lib.itoa g ++ [32] ++ listT xs ++ [32] ++ listT ys else []
theorem antT_no {s : ByteArray} {g : Int} {xs ys : List Int} (h : antB s g xs ys = false) : antT s g xs ys = [] := if_neg (by rw [h]; simp)
theorem antT_yes {s : ByteArray} {g : Int} {xs ys : List Int} (h : antB s g xs ys = true) : antT s g xs ys = s.data.toList ++ [32] ++ Lib.itoa g ++ [32] ++ listT xs ++ [32] ++ listT ys := if_pos h
theorem listT_len {xs : List Int} (hb : lst12 xs) (hl : xs.length ≤ 64) : (listT xs).length ≤ 1408 := by
  unfold listT
  split
  · simp
  · have := txtK_len hb xs.length (Nat.le_refl _)
    omega
theorem name_len {s : ByteArray} (h : nameB s = true) : s.size ≤ 10 := by
  rcases Nat.lt_or_ge 10 s.size with h1 | h1
  · rw [name_long h1] at h
    cases h
  · exact h1
theorem all_lst {xs : List Int} (h : allIn xs 0 60000 = true) : lst12 xs := fun k hk => by
  have := (of_decide_eq_true h) k hk
  omega
theorem ant_lst {s : ByteArray} {g : Int} {xs ys : List Int} (h : antB s g xs ys = true) : s.size ≤ 10 ∧ -60000 ≤ g ∧ g ≤ 60000 ∧ lst12 xs ∧ xs.length ≤ 64 ∧ lst12 ys ∧ ys.length ≤ 64 := by
  obtain ⟨h1, h2, h3, h4, h5⟩ := ant_parts h
  obtain ⟨a1, _, a2⟩ := loss_parts h4
  obtain ⟨b1, _, b2⟩ := loss_parts h5
  exact ⟨name_len h1, h2, h3, all_lst a2, by omega, all_lst b2, by omega⟩
theorem str_add1 (s : ByteArray) (b : List UInt8) (h : s.size + b.length ≤ 100000) (W : World) : (Op.stringOp .add s ⟨b.toArray⟩).run Tryd.prog W = .ok (.string ⟨(s.data.toList ++ b).toArray⟩) W := by
  have e : s = ⟨s.data.toList.toArray⟩ := by
    apply ByteArray.ext
    simp
  have h' : s.data.toList.length + b.length ≤ 100000 := by simpa using h
  have := str_add s.data.toList b h' W
  rw [← e] at this
  exact this
set_option maxRecDepth 20000 in
set_option maxHeartbeats 4000000 in
theorem l06Text_any (w : World) (o : Nat) (s : ByteArray) (g : Int) (a : Value) (xs : List Int) (p : Nat) (ha : Row 2 w p a xs) (b : Value) (ys : List Int) (q : Nat) (hb : Row 2 w q b ys) (c0 : w.cell? ⟨o, 0, none⟩ = some (.string s)) (c1 : w.cell? ⟨o, 1, none⟩ = some (.int .i64 g)) (c2 : w.cell? ⟨o, 2, none⟩ = some a) (c3 : w.cell? ⟨o, 3, none⟩ = some b) (hm : antB s g xs ys = true) :
    Calls Tryd.prog 57 #[.pointer (some ⟨o, 0, none⟩)] w fun e w' => e = .returned (.string ⟨(antT s g xs ys).toArray⟩) ∧ Below w.heap.size w w' := by
  have HA := Lib.hid ha
  have HB := Lib.hid hb
  clear ha hb
  rw [antT_yes hm]
  obtain ⟨hs10, hg0, hg1, hx, lx, hy, ly⟩ := ant_lst hm
  have u0 := itoa_21 (show -1000000000000 ≤ g by omega) (show g ≤ 1000000000000 by omega)
  have u1 := listT_len hx lx
  have u2 := listT_len hy ly
  have HC0 : Hid (∀ W : World, Below w.heap.size w W → Calls Tryd.prog 40 #[.int .i64 g] W fun e w' => e = .returned (.string ⟨(Lib.itoa g).toArray⟩) ∧ Below W.heap.size W w') := fun W hW => l01Dec_any W g (by omega) (by omega)
  have HC1 : Hid (∀ W : World, Below w.heap.size w W → Calls Tryd.prog 74 #[a] W fun e w' => e = .returned (.string ⟨(listT xs).toArray⟩) ∧ Below W.heap.size W w') := fun W hW => l01List_any W a xs p (HA.out.later hW) hx lx
  have HC2 : Hid (∀ W : World, Below w.heap.size w W → Calls Tryd.prog 74 #[b] W fun e w' => e = .returned (.string ⟨(listT ys).toArray⟩) ∧ Below W.heap.size W w') := fun W hW => l01List_any W b ys q (HB.out.later hW) hy ly
  obtain ⟨D, hD⟩ : ∃ D, D = Lib.itoa g := ⟨_, rfl⟩
  obtain ⟨U, hU⟩ : ∃ U, U = listT xs := ⟨_, rfl⟩
  obtain ⟨V, hV⟩ : ∃ V, V = listT ys := ⟨_, rfl⟩
  rw [← hD] at u0 HC0 ⊢
  rw [← hU] at u1 HC1 ⊢
  rw [← hV] at u2 HC2 ⊢
  clear hD hU hV
  have hadd1 : ∀ W : World, (Op.stringOp .add s ⟨#[32]⟩).run Tryd.prog W = .ok (.string ⟨(s.data.toList ++ [32]).toArray⟩) W := fun W => str_add1 s [32] (by simp; omega) W
  have y1 : (s.data.toList ++ [32]).length ≤ 11 := by simp; omega
  obtain ⟨Z1, hZ1⟩ : ∃ Z, Z = s.data.toList ++ [32] := ⟨_, rfl⟩
  rw [← hZ1] at hadd1 y1 ⊢
  clear hZ1
  have hadd2 : ∀ W : World, (Op.stringOp .add ⟨Z1.toArray⟩ ⟨D.toArray⟩).run Tryd.prog W = .ok (.string ⟨(Z1 ++ D).toArray⟩) W := fun W => str_add Z1 D (by (try simp); omega) W
  have y2 : (Z1 ++ D).length ≤ 40 := by (try simp); omega
  obtain ⟨Z2, hZ2⟩ : ∃ Z, Z = Z1 ++ D := ⟨_, rfl⟩
  rw [← hZ2] at hadd2 y2 ⊢
  clear hZ2
  have hadd3 : ∀ W : World, (Op.stringOp .add ⟨Z2.toArray⟩ ⟨#[32]⟩).run Tryd.prog W = .ok (.string ⟨(Z2 ++ [32]).toArray⟩) W := fun W => str_add Z2 [32] (by (try simp); omega) W
  have y3 : (Z2 ++ [32]).length ≤ 41 := by (try simp); omega
  obtain ⟨Z3, hZ3⟩ : ∃ Z, Z = Z2 ++ [32] := ⟨_, rfl⟩
  rw [← hZ3] at hadd3 y3 ⊢
  clear hZ3
  have hadd4 : ∀ W : World, (Op.stringOp .add ⟨Z3.toArray⟩ ⟨U.toArray⟩).run Tryd.prog W = .ok (.string ⟨(Z3 ++ U).toArray⟩) W := fun W => str_add Z3 U (by (try simp); omega) W
  have y4 : (Z3 ++ U).length ≤ 1500 := by (try simp); omega
  obtain ⟨Z4, hZ4⟩ : ∃ Z, Z = Z3 ++ U := ⟨_, rfl⟩
  rw [← hZ4] at hadd4 y4 ⊢
  clear hZ4
  have hadd5 : ∀ W : World, (Op.stringOp .add ⟨Z4.toArray⟩ ⟨#[32]⟩).run Tryd.prog W = .ok (.string ⟨(Z4 ++ [32]).toArray⟩) W := fun W => str_add Z4 [32] (by (try simp); omega) W
  have y5 : (Z4 ++ [32]).length ≤ 1501 := by (try simp); omega
  obtain ⟨Z5, hZ5⟩ : ∃ Z, Z = Z4 ++ [32] := ⟨_, rfl⟩
  rw [← hZ5] at hadd5 y5 ⊢
  clear hZ5
  have hadd6 : ∀ W : World, (Op.stringOp .add ⟨Z5.toArray⟩ ⟨V.toArray⟩).run Tryd.prog W = .ok (.string ⟨(Z5 ++ V).toArray⟩) W := fun W => str_add Z5 V (by (try simp); omega) W
  have y6 : (Z5 ++ V).length ≤ 3000 := by (try simp); omega
  obtain ⟨Z6, hZ6⟩ : ∃ Z, Z = Z5 ++ V := ⟨_, rfl⟩
  rw [← hZ6] at hadd6 y6 ⊢
  clear hZ6
  clear u0 u1 u2 hx lx hy ly y1 y2 y3 y4 y5 y6 hg0 hg1
  clear hm
  go_enter Tryd.func57, Tryd.ntmps57
  go_wp2_with fail
  go_region_held3 (fun w' => w'.cell? ⟨o, 0, none⟩ = some (.string s) ∧ w'.cell? ⟨o, 1, none⟩ = some (.int .i64 g) ∧ w'.cell? ⟨o, 2, none⟩ = some (a) ∧ w'.cell? ⟨o, 3, none⟩ = some (b))
    (((try go_split_ands); (refine ⟨?_, ?_, ?_, ?_⟩ <;> (repeat (first | (with_reducible assumption) | (with_reducible refine cell_drew ?_) | (with_reducible refine cell_drewN ?_) | (with_reducible refine keeps hb ?_) | (with_reducible refine keeps hb3 ?_) | (with_reducible refine keeps hb4 ?_) | fail)))))
    (first
      | (go_at_call 40; ((with_reducible refine (HC0.out _ (by repeat (first | (with_reducible exact Below.refl _ _) | (with_reducible assumption) | ((with_reducible refine bl_alloc ?_ _ ?_); (focus ((first | omega | (simp <;> omega)); done))) | ((with_reducible refine bl_set ?_ _ ?_); (focus ((first | omega | (simp <;> omega)); done))) | (with_reducible refine below_drewN ?_ _) | (with_reducible refine Below.drew ?_)))).mono ?_); rintro e w3 ⟨rfl, hb⟩; have hb3 := hb; have H3 := Lib.hid (show Below w.heap.size w w3 by repeat (first | (with_reducible exact Below.refl _ _) | (with_reducible assumption) | ((with_reducible refine bl_alloc ?_ _ ?_); (focus ((first | omega | (simp <;> omega)); done))) | ((with_reducible refine bl_set ?_ _ ?_); (focus ((first | omega | (simp <;> omega)); done))) | (with_reducible refine below_drewN ?_ _) | (with_reducible refine Below.drew ?_) | ((with_reducible refine bl_trans ?_ hb ?_); (focus ((first | omega | (simp <;> omega)); done)))))))
      | (go_at_call 74; ((with_reducible refine (HC1.out w3 H3.out).mono ?_); rintro e w4 ⟨rfl, hb⟩; have hb4 := hb; have z3 := H3.out.size; have H4 := Lib.hid (show Below w.heap.size w w4 by repeat (first | (with_reducible exact Below.refl _ _) | (with_reducible assumption) | ((with_reducible refine bl_alloc ?_ _ ?_); (focus ((first | omega | (simp <;> omega)); done))) | ((with_reducible refine bl_set ?_ _ ?_); (focus ((first | omega | (simp <;> omega)); done))) | (with_reducible refine below_drewN ?_ _) | (with_reducible refine Below.drew ?_) | ((with_reducible refine bl_trans ?_ hb ?_); (focus ((first | omega | (simp <;> omega)); done))) | ((with_reducible refine bl_trans ?_ H3.out ?_); (focus ((first | omega | (simp <;> omega)); done)))))))
      | (go_at_call 74; ((with_reducible refine (HC2.out w4 H4.out).mono ?_); rintro e w5 ⟨rfl, hb⟩; have z4 := H4.out.size; have H5 := Lib.hid (show Below w.heap.size w w5 by repeat (first | (with_reducible exact Below.refl _ _) | (with_reducible assumption) | ((with_reducible refine bl_alloc ?_ _ ?_); (focus ((first | omega | (simp <;> omega)); done))) | ((with_reducible refine bl_set ?_ _ ?_); (focus ((first | omega | (simp <;> omega)); done))) | (with_reducible refine below_drewN ?_ _) | (with_reducible refine Below.drew ?_) | ((with_reducible refine bl_trans ?_ hb ?_); (focus ((first | omega | (simp <;> omega)); done))) | ((with_reducible refine bl_trans ?_ H4.out ?_); (focus ((first | omega | (simp <;> omega)); done))))))))
  go_wp2_with fail
  go_ret
  exact ⟨rfl, H5.out⟩
set_option maxRecDepth 20000 in
set_option maxHeartbeats 4000000 in
theorem spec_any (w : World) (s : ByteArray) (is : s.size ≤ maxLen) (g : Int) (ig : In64 g) (a : Value) (xs : List Int) (p : Nat) (ha : Row 2 w p a xs) (ixs : ∀ n ∈ xs, In64 n) (b : Value) (ys : List Int) (q : Nat) (hb : Row 2 w q b ys) (iys : ∀ n ∈ ys, In64 n) :
    Calls Tryd.prog 24 #[.agg #[.string s, .int .i64 g, a, b]] w fun e w' => e = .returned (.string ⟨(antT s g xs ys).toArray⟩) ∧ Below w.heap.size w w' := by
  have HA := Lib.hid ha
  have HB := Lib.hid hb
  have IS := Lib.hid is
  clear ha hb ixs iys is ig
  rcases bool_two (antB s g xs ys) with hm | hm
  rotate_left
  · rw [antT_no hm]
    have HE := Lib.hid hm
    clear hm
    go_enter Tryd.func24, Tryd.ntmps24
    go_wp2_with fail
    refine (l06Ok_any _ _ s IS.out g a xs p (HA.out.alloc_ _) b ys q (HB.out.alloc_ _) (by simp [go_sem]) (by simp [go_sem]) (by simp [go_sem]) (by simp [go_sem])).mono ?_
    rintro e w1 ⟨he, kd, hw⟩
    have hb : Below (w.alloc (.cells #[.string s, .int .i64 g, a, b] 52)).heap.size (w.alloc (.cells #[.string s, .int .i64 g, a, b] 52)) w1 := by rw [hw]; exact below_drewN (Below.refl _ _) _
    clear hw
    rw [HE.out] at he
    subst he
    have H1 := Lib.hid (show Below w.heap.size w w1 by repeat (first | (with_reducible exact Below.refl _ _) | (with_reducible assumption) | ((with_reducible refine bl_alloc ?_ _ ?_); (focus ((first | omega | (simp <;> omega)); done))) | ((with_reducible refine bl_set ?_ _ ?_); (focus ((first | omega | (simp <;> omega)); done))) | (with_reducible refine below_drewN ?_ _) | (with_reducible refine Below.drew ?_) | ((with_reducible refine bl_trans ?_ hb ?_); (focus ((first | omega | (simp <;> omega)); done)))))
    clear hb
    go_wp2_with fail
    go_ret
    exact ⟨rfl, H1.out⟩
  have HM := Lib.hid hm
  have HE := Lib.hid hm
  clear hm
  go_enter Tryd.func24, Tryd.ntmps24
  go_wp2_with fail
  refine (l06Ok_any _ _ s IS.out g a xs p (HA.out.alloc_ _) b ys q (HB.out.alloc_ _) (by simp [go_sem]) (by simp [go_sem]) (by simp [go_sem]) (by simp [go_sem])).mono ?_
  rintro e w1 ⟨he, kd, hw⟩
  have hb : Below (w.alloc (.cells #[.string s, .int .i64 g, a, b] 52)).heap.size (w.alloc (.cells #[.string s, .int .i64 g, a, b] 52)) w1 := by rw [hw]; exact below_drewN (Below.refl _ _) _
  clear hw
  rw [HE.out] at he
  subst he
  have H1 := Lib.hid (show Below w.heap.size w w1 by repeat (first | (with_reducible exact Below.refl _ _) | (with_reducible assumption) | ((with_reducible refine bl_alloc ?_ _ ?_); (focus ((first | omega | (simp <;> omega)); done))) | ((with_reducible refine bl_set ?_ _ ?_); (focus ((first | omega | (simp <;> omega)); done))) | (with_reducible refine below_drewN ?_ _) | (with_reducible refine Below.drew ?_) | ((with_reducible refine bl_trans ?_ hb ?_); (focus ((first | omega | (simp <;> omega)); done)))))
  have x0 := keeps hb (p := ⟨w.heap.size, 0, none⟩) (v := .string s) (by simp [go_sem])
  have x1 := keeps hb (p := ⟨w.heap.size, 1, none⟩) (v := .int .i64 g) (by simp [go_sem])
  have x2 := keeps hb (p := ⟨w.heap.size, 2, none⟩) (v := a) (by simp [go_sem])
  have x3 := keeps hb (p := ⟨w.heap.size, 3, none⟩) (v := b) (by simp [go_sem])
  have z1 := H1.out.size
  have HA1 := Lib.hid (HA.out.later H1.out)
  have HB1 := Lib.hid (HB.out.later H1.out)
  clear hb
  go_wp2_with fail
  refine (l06Text_any _ _ s g a xs p HA1.out b ys q HB1.out x0 x1 x2 x3 HM.out).mono ?_
  rintro e w2 ⟨rfl, hb2⟩
  have H2 := Lib.hid (show Below w.heap.size w w2 by repeat (first | (with_reducible exact Below.refl _ _) | (with_reducible assumption) | ((with_reducible refine bl_alloc ?_ _ ?_); (focus ((first | omega | (simp <;> omega)); done))) | ((with_reducible refine bl_set ?_ _ ?_); (focus ((first | omega | (simp <;> omega)); done))) | (with_reducible refine below_drewN ?_ _) | (with_reducible refine Below.drew ?_) | ((with_reducible refine bl_trans ?_ hb2 ?_); (focus ((first | omega | (simp <;> omega)); done))) | ((with_reducible refine bl_trans ?_ H1.out ?_); (focus ((first | omega | (simp <;> omega)); done)))))
  clear hb2
  go_wp2_with fail
  go_ret
  exact ⟨rfl, H2.out⟩
set_option maxRecDepth 20000 in
set_option maxHeartbeats 4000000 in
theorem impl_any (w : World) (hT : PowTab w) (s : ByteArray) (is : s.size ≤ maxLen) (g : Int) (ig : In64 g) (a : Value) (xs : List Int) (p : Nat) (ha : Row 2 w p a xs) (ixs : ∀ n ∈ xs, In64 n) (b : Value) (ys : List Int) (q : Nat) (hb : Row 2 w q b ys) (iys : ∀ n ∈ ys, In64 n) :
    Calls Tryd.prog 26 #[.agg #[.string s, .int .i64 g, a, b]] w fun e w' => e = .returned (.string ⟨(antT s g xs ys).toArray⟩) ∧ Below w.heap.size w w' := by
  have HA := Lib.hid ha
  have HB := Lib.hid hb
  have IS := Lib.hid is
  have HT := Lib.hid hT
  clear hT
  clear ha hb ixs iys is ig
  rcases bool_two (antB s g xs ys) with hm | hm
  rotate_left
  · rw [antT_no hm]
    have HE := Lib.hid hm
    clear hm
    go_enter Tryd.func26, Tryd.ntmps26
    go_wp2_with fail
    refine (ValidAntenna_any _ s IS.out g a xs p (HA.out.alloc_ _) b ys q (HB.out.alloc_ _)).mono ?_
    rintro e w1 ⟨he, hb⟩
    rw [HE.out] at he
    subst he
    have H1 := Lib.hid (show Below w.heap.size w w1 by repeat (first | (with_reducible exact Below.refl _ _) | (with_reducible assumption) | ((with_reducible refine bl_alloc ?_ _ ?_); (focus ((first | omega | (simp <;> omega)); done))) | ((with_reducible refine bl_set ?_ _ ?_); (focus ((first | omega | (simp <;> omega)); done))) | (with_reducible refine below_drewN ?_ _) | (with_reducible refine Below.drew ?_) | ((with_reducible refine bl_trans ?_ hb ?_); (focus ((first | omega | (simp <;> omega)); done)))))
    clear hb
    go_wp2_with fail
    go_ret
    exact ⟨rfl, H1.out⟩
  rw [antT_yes hm]
  obtain ⟨hs10, hg0, hg1, hx, lx, hy, ly⟩ := ant_lst hm
  have u0 := itoa_21 (show -1000000000000 ≤ g by omega) (show g ≤ 1000000000000 by omega)
  have u1 := listT_len hx lx
  have u2 := listT_len hy ly
  have HC0 : Hid (∀ W : World, Below w.heap.size w W → Calls Tryd.prog 41 #[.int .i64 g] W fun e w' => e = .returned (.string ⟨(Lib.itoa g).toArray⟩) ∧ Below W.heap.size W w') := fun W hW => Decimal_any W (HT.out.below hW) g (by omega)
  have HC1 : Hid (∀ W : World, Below w.heap.size w W → Calls Tryd.prog 47 #[a] W fun e w' => e = .returned (.string ⟨(listT xs).toArray⟩) ∧ Below W.heap.size W w') := fun W hW => ListText_any W (HT.out.below hW) a xs p (HA.out.later hW) hx lx
  have HC2 : Hid (∀ W : World, Below w.heap.size w W → Calls Tryd.prog 47 #[b] W fun e w' => e = .returned (.string ⟨(listT ys).toArray⟩) ∧ Below W.heap.size W w') := fun W hW => ListText_any W (HT.out.below hW) b ys q (HB.out.later hW) hy ly
  obtain ⟨D, hD⟩ : ∃ D, D = Lib.itoa g := ⟨_, rfl⟩
  obtain ⟨U, hU⟩ : ∃ U, U = listT xs := ⟨_, rfl⟩
  obtain ⟨V, hV⟩ : ∃ V, V = listT ys := ⟨_, rfl⟩
  rw [← hD] at u0 HC0 ⊢
  rw [← hU] at u1 HC1 ⊢
  rw [← hV] at u2 HC2 ⊢
  clear hD hU hV
  have hadd1 : ∀ W : World, (Op.stringOp .add s ⟨#[32]⟩).run Tryd.prog W = .ok (.string ⟨(s.data.toList ++ [32]).toArray⟩) W := fun W => str_add1 s [32] (by simp; omega) W
  have y1 : (s.data.toList ++ [32]).length ≤ 11 := by simp; omega
  obtain ⟨Z1, hZ1⟩ : ∃ Z, Z = s.data.toList ++ [32] := ⟨_, rfl⟩
  rw [← hZ1] at hadd1 y1 ⊢
  clear hZ1
  have hadd2 : ∀ W : World, (Op.stringOp .add ⟨Z1.toArray⟩ ⟨D.toArray⟩).run Tryd.prog W = .ok (.string ⟨(Z1 ++ D).toArray⟩) W := fun W => str_add Z1 D (by (try simp); omega) W
  have y2 : (Z1 ++ D).length ≤ 40 := by (try simp); omega
  obtain ⟨Z2, hZ2⟩ : ∃ Z, Z = Z1 ++ D := ⟨_, rfl⟩
  rw [← hZ2] at hadd2 y2 ⊢
  clear hZ2
  have hadd3 : ∀ W : World, (Op.stringOp .add ⟨Z2.toArray⟩ ⟨#[32]⟩).run Tryd.prog W = .ok (.string ⟨(Z2 ++ [32]).toArray⟩) W := fun W => str_add Z2 [32] (by (try simp); omega) W
  have y3 : (Z2 ++ [32]).length ≤ 41 := by (try simp); omega
  obtain ⟨Z3, hZ3⟩ : ∃ Z, Z = Z2 ++ [32] := ⟨_, rfl⟩
  rw [← hZ3] at hadd3 y3 ⊢
  clear hZ3
  have hadd4 : ∀ W : World, (Op.stringOp .add ⟨Z3.toArray⟩ ⟨U.toArray⟩).run Tryd.prog W = .ok (.string ⟨(Z3 ++ U).toArray⟩) W := fun W => str_add Z3 U (by (try simp); omega) W
  have y4 : (Z3 ++ U).length ≤ 1500 := by (try simp); omega
  obtain ⟨Z4, hZ4⟩ : ∃ Z, Z = Z3 ++ U := ⟨_, rfl⟩
  rw [← hZ4] at hadd4 y4 ⊢
  clear hZ4
  have hadd5 : ∀ W : World, (Op.stringOp .add ⟨Z4.toArray⟩ ⟨#[32]⟩).run Tryd.prog W = .ok (.string ⟨(Z4 ++ [32]).toArray⟩) W := fun W => str_add Z4 [32] (by (try simp); omega) W
  have y5 : (Z4 ++ [32]).length ≤ 1501 := by (try simp); omega
  obtain ⟨Z5, hZ5⟩ : ∃ Z, Z = Z4 ++ [32] := ⟨_, rfl⟩
  rw [← hZ5] at hadd5 y5 ⊢
  clear hZ5
  have hadd6 : ∀ W : World, (Op.stringOp .add ⟨Z5.toArray⟩ ⟨V.toArray⟩).run Tryd.prog W = .ok (.string ⟨(Z5 ++ V).toArray⟩) W := fun W => str_add Z5 V (by (try simp); omega) W
  have y6 : (Z5 ++ V).length ≤ 3000 := by (try simp); omega
  obtain ⟨Z6, hZ6⟩ : ∃ Z, Z = Z5 ++ V := ⟨_, rfl⟩
  rw [← hZ6] at hadd6 y6 ⊢
  clear hZ6
  clear u0 u1 u2 hx lx hy ly y1 y2 y3 y4 y5 y6 hg0 hg1
  have HE := Lib.hid hm
  clear hm
  go_enter Tryd.func26, Tryd.ntmps26
  go_wp2_with fail
  refine (ValidAntenna_any _ s IS.out g a xs p (HA.out.alloc_ _) b ys q (HB.out.alloc_ _)).mono ?_
  rintro e w1 ⟨he, hb⟩
  rw [HE.out] at he
  subst he
  have H1 := Lib.hid (show Below w.heap.size w w1 by repeat (first | (with_reducible exact Below.refl _ _) | (with_reducible assumption) | ((with_reducible refine bl_alloc ?_ _ ?_); (focus ((first | omega | (simp <;> omega)); done))) | ((with_reducible refine bl_set ?_ _ ?_); (focus ((first | omega | (simp <;> omega)); done))) | (with_reducible refine below_drewN ?_ _) | (with_reducible refine Below.drew ?_) | ((with_reducible refine bl_trans ?_ hb ?_); (focus ((first | omega | (simp <;> omega)); done)))))
  have x0 := keeps hb (p := ⟨w.heap.size, 0, none⟩) (v := .string s) (by simp [go_sem])
  have x1 := keeps hb (p := ⟨w.heap.size, 1, none⟩) (v := .int .i64 g) (by simp [go_sem])
  have x2 := keeps hb (p := ⟨w.heap.size, 2, none⟩) (v := a) (by simp [go_sem])
  have x3 := keeps hb (p := ⟨w.heap.size, 3, none⟩) (v := b) (by simp [go_sem])
  have z1 := H1.out.size
  clear hb
  go_wp2_with fail
  go_region_held3 (fun w' => w'.cell? ⟨w.heap.size, 0, none⟩ = some (.string s) ∧ w'.cell? ⟨w.heap.size, 1, none⟩ = some (.int .i64 g) ∧ w'.cell? ⟨w.heap.size, 2, none⟩ = some (a) ∧ w'.cell? ⟨w.heap.size, 3, none⟩ = some (b))
    (((try go_split_ands); (refine ⟨?_, ?_, ?_, ?_⟩ <;> (repeat (first | (with_reducible assumption) | (with_reducible refine cell_drew ?_) | (with_reducible refine cell_drewN ?_) | (with_reducible refine keeps hb ?_) | (with_reducible refine keeps hb3 ?_) | (with_reducible refine keeps hb4 ?_) | fail)))))
    (first
      | (go_at_call 41; ((with_reducible refine (HC0.out _ (by repeat (first | (with_reducible exact Below.refl _ _) | (with_reducible assumption) | ((with_reducible refine bl_alloc ?_ _ ?_); (focus ((first | omega | (simp <;> omega)); done))) | ((with_reducible refine bl_set ?_ _ ?_); (focus ((first | omega | (simp <;> omega)); done))) | (with_reducible refine below_drewN ?_ _) | (with_reducible refine Below.drew ?_) | ((with_reducible refine bl_trans ?_ H1.out ?_); (focus ((first | omega | (simp <;> omega)); done)))))).mono ?_); rintro e w3 ⟨rfl, hb⟩; have hb3 := hb; have H3 := Lib.hid (show Below w.heap.size w w3 by repeat (first | (with_reducible exact Below.refl _ _) | (with_reducible assumption) | ((with_reducible refine bl_alloc ?_ _ ?_); (focus ((first | omega | (simp <;> omega)); done))) | ((with_reducible refine bl_set ?_ _ ?_); (focus ((first | omega | (simp <;> omega)); done))) | (with_reducible refine below_drewN ?_ _) | (with_reducible refine Below.drew ?_) | ((with_reducible refine bl_trans ?_ hb ?_); (focus ((first | omega | (simp <;> omega)); done))) | ((with_reducible refine bl_trans ?_ H1.out ?_); (focus ((first | omega | (simp <;> omega)); done)))))))
      | (go_at_call 47; ((with_reducible refine (HC1.out w3 H3.out).mono ?_); rintro e w4 ⟨rfl, hb⟩; have hb4 := hb; have z3 := H3.out.size; have H4 := Lib.hid (show Below w.heap.size w w4 by repeat (first | (with_reducible exact Below.refl _ _) | (with_reducible assumption) | ((with_reducible refine bl_alloc ?_ _ ?_); (focus ((first | omega | (simp <;> omega)); done))) | ((with_reducible refine bl_set ?_ _ ?_); (focus ((first | omega | (simp <;> omega)); done))) | (with_reducible refine below_drewN ?_ _) | (with_reducible refine Below.drew ?_) | ((with_reducible refine bl_trans ?_ hb ?_); (focus ((first | omega | (simp <;> omega)); done))) | ((with_reducible refine bl_trans ?_ H3.out ?_); (focus ((first | omega | (simp <;> omega)); done)))))))
      | (go_at_call 47; ((with_reducible refine (HC2.out w4 H4.out).mono ?_); rintro e w5 ⟨rfl, hb⟩; have z4 := H4.out.size; have H5 := Lib.hid (show Below w.heap.size w w5 by repeat (first | (with_reducible exact Below.refl _ _) | (with_reducible assumption) | ((with_reducible refine bl_alloc ?_ _ ?_); (focus ((first | omega | (simp <;> omega)); done))) | ((with_reducible refine bl_set ?_ _ ?_); (focus ((first | omega | (simp <;> omega)); done))) | (with_reducible refine below_drewN ?_ _) | (with_reducible refine Below.drew ?_) | ((with_reducible refine bl_trans ?_ hb ?_); (focus ((first | omega | (simp <;> omega)); done))) | ((with_reducible refine bl_trans ?_ H4.out ?_); (focus ((first | omega | (simp <;> omega)); done))))))))
  go_wp2_with fail
  go_ret
  exact ⟨rfl, H5.out⟩
set_option maxRecDepth 20000 in
set_option maxHeartbeats 4000000 in
theorem walk (w : World) (hT : PowTab w) (s0_0 : ByteArray) (is0_0 : s0_0.size ≤ maxLen) (a0_1 : Int) (ia0_1 : In64 a0_1) (v0_2 : Value) (x0_2 : List Int) (r0_2 : Rd w w.heap.size v0_2 x0_2) (ix0_2 : ∀ n ∈ x0_2, In64 n) (v0_3 : Value) (x0_3 : List Int) (r0_3 : Rd w w.heap.size v0_3 x0_3) (ix0_3 : ∀ n ∈ x0_3, In64 n) :
    Calls Tryd.prog 6 #[.agg #[.string s0_0, .int .i64 a0_1, v0_2, v0_3]] w fun e w' => e = .returned (.bool true) ∧ Below w.heap.size w w' := by
  have HTab := Lib.hid hT
  clear hT
  by_cases hs0 : ¬ (s0_0.size : Int) + (x0_2.length : Int) + (x0_3.length : Int) ≤ 1048576
  · go_enter Tryd.func6, Tryd.ntmps6
    go_wp2_with fail
    refine (szAntenna_not s0_0 a0_1 _ x0_2 _ x0_3 _ w.heap.size (by first | omega | (simp <;> omega)) (Rd.below r0_2 (by repeat (first | (with_reducible exact Below.refl _ _) | (with_reducible assumption) | ((with_reducible refine bl_alloc ?_ _ ?_); (focus ((first | omega | (simp <;> omega)); done))) | ((with_reducible refine bl_set ?_ _ ?_); (focus ((first | omega | (simp <;> omega)); done))) | (with_reducible refine below_drewN ?_ _) | (with_reducible refine Below.drew ?_)))) (Rd.below r0_3 (by repeat (first | (with_reducible exact Below.refl _ _) | (with_reducible assumption) | ((with_reducible refine bl_alloc ?_ _ ?_); (focus ((first | omega | (simp <;> omega)); done))) | ((with_reducible refine bl_set ?_ _ ?_); (focus ((first | omega | (simp <;> omega)); done))) | (with_reducible refine below_drewN ?_ _) | (with_reducible refine Below.drew ?_)))) is0_0 _ (by omega) (by omega) (by omega)).mono ?_
    rintro e w1 ⟨rfl, hb⟩
    have zz1 : w.heap.size + 1 ≤ w1.heap.size := (by have := hb.size; ((try simp at this) <;> omega))
    have H1 := Lib.hid (show Below w.heap.size w w1 by repeat (first | (with_reducible exact Below.refl _ _) | (with_reducible assumption) | ((with_reducible refine bl_alloc ?_ _ ?_); (focus ((first | omega | (simp <;> omega)); done))) | ((with_reducible refine bl_set ?_ _ ?_); (focus ((first | omega | (simp <;> omega)); done))) | (with_reducible refine below_drewN ?_ _) | (with_reducible refine Below.drew ?_) | ((with_reducible refine bl_trans ?_ hb ?_); (focus ((first | omega | (simp <;> omega)); done)))))
    have f0_0_1 := keeps hb (p := ⟨w.heap.size, 0, none⟩) (v := .string s0_0) (by simp [go_sem])
    have f0_1_1 := keeps hb (p := ⟨w.heap.size, 1, none⟩) (v := .int .i64 a0_1) (by simp [go_sem])
    have f0_2_1 := keeps hb (p := ⟨w.heap.size, 2, none⟩) (v := v0_2) (by simp [go_sem])
    have f0_3_1 := keeps hb (p := ⟨w.heap.size, 3, none⟩) (v := v0_3) (by simp [go_sem])
    have g0_1 : w.heap.size < w1.heap.size := block_of_cell f0_0_1
    clear hb
    go_wp2_with fail
    go_ret
    exact ⟨rfl, (by repeat (first | (with_reducible exact Below.refl _ _) | (with_reducible assumption) | ((with_reducible refine bl_alloc ?_ _ ?_); (focus ((first | omega | (simp <;> omega)); done))) | ((with_reducible refine bl_set ?_ _ ?_); (focus ((first | omega | (simp <;> omega)); done))) | (with_reducible refine below_drewN ?_ _) | (with_reducible refine Below.drew ?_) | ((with_reducible refine bl_trans ?_ H1.out ?_); (focus ((first | omega | (simp <;> omega)); done)))))⟩
  have hs0' : (s0_0.size : Int) + (x0_2.length : Int) + (x0_3.length : Int) ≤ 1048576 := by omega
  clear hs0
  go_enter Tryd.func6, Tryd.ntmps6
  go_wp2_with fail
  refine (szAntenna_fits s0_0 a0_1 _ x0_2 _ x0_3 _ w.heap.size (by first | omega | (simp <;> omega)) (Rd.below r0_2 (by repeat (first | (with_reducible exact Below.refl _ _) | (with_reducible assumption) | ((with_reducible refine bl_alloc ?_ _ ?_); (focus ((first | omega | (simp <;> omega)); done))) | ((with_reducible refine bl_set ?_ _ ?_); (focus ((first | omega | (simp <;> omega)); done))) | (with_reducible refine below_drewN ?_ _) | (with_reducible refine Below.drew ?_)))) (Rd.below r0_3 (by repeat (first | (with_reducible exact Below.refl _ _) | (with_reducible assumption) | ((with_reducible refine bl_alloc ?_ _ ?_); (focus ((first | omega | (simp <;> omega)); done))) | ((with_reducible refine bl_set ?_ _ ?_); (focus ((first | omega | (simp <;> omega)); done))) | (with_reducible refine below_drewN ?_ _) | (with_reducible refine Below.drew ?_)))) is0_0 _ (by omega) (by omega)).mono ?_
  rintro e w1 ⟨rfl, hb⟩
  have zz1 : w.heap.size + 1 ≤ w1.heap.size := (by have := hb.size; ((try simp at this) <;> omega))
  have H1 := Lib.hid (show Below w.heap.size w w1 by repeat (first | (with_reducible exact Below.refl _ _) | (with_reducible assumption) | ((with_reducible refine bl_alloc ?_ _ ?_); (focus ((first | omega | (simp <;> omega)); done))) | ((with_reducible refine bl_set ?_ _ ?_); (focus ((first | omega | (simp <;> omega)); done))) | (with_reducible refine below_drewN ?_ _) | (with_reducible refine Below.drew ?_) | ((with_reducible refine bl_trans ?_ hb ?_); (focus ((first | omega | (simp <;> omega)); done)))))
  have f0_0_1 := keeps hb (p := ⟨w.heap.size, 0, none⟩) (v := .string s0_0) (by simp [go_sem])
  have f0_1_1 := keeps hb (p := ⟨w.heap.size, 1, none⟩) (v := .int .i64 a0_1) (by simp [go_sem])
  have f0_2_1 := keeps hb (p := ⟨w.heap.size, 2, none⟩) (v := v0_2) (by simp [go_sem])
  have f0_3_1 := keeps hb (p := ⟨w.heap.size, 3, none⟩) (v := v0_3) (by simp [go_sem])
  have g0_1 : w.heap.size < w1.heap.size := block_of_cell f0_0_1
  clear hb
  go_wp2_with fail
  refine (toAntenna_any s0_0 a0_1 v0_2 x0_2 v0_3 x0_3 _ w.heap.size (by first | omega | (simp <;> omega)) (Rd.below r0_2 (by repeat (first | (with_reducible exact Below.refl _ _) | (with_reducible assumption) | ((with_reducible refine bl_alloc ?_ _ ?_); (focus ((first | omega | (simp <;> omega)); done))) | ((with_reducible refine bl_set ?_ _ ?_); (focus ((first | omega | (simp <;> omega)); done))) | (with_reducible refine below_drewN ?_ _) | (with_reducible refine Below.drew ?_) | ((with_reducible refine bl_trans ?_ H1.out ?_); (focus ((first | omega | (simp <;> omega)); done)))))) (by omega) (Rd.below r0_3 (by repeat (first | (with_reducible exact Below.refl _ _) | (with_reducible assumption) | ((with_reducible refine bl_alloc ?_ _ ?_); (focus ((first | omega | (simp <;> omega)); done))) | ((with_reducible refine bl_set ?_ _ ?_); (focus ((first | omega | (simp <;> omega)); done))) | (with_reducible refine below_drewN ?_ _) | (with_reducible refine Below.drew ?_) | ((with_reducible refine bl_trans ?_ H1.out ?_); (focus ((first | omega | (simp <;> omega)); done)))))) (by omega)).mono ?_
  rintro e w2 ⟨A0, n0, c0, A1, n1, c1, rfl, hr0, hr1, ha0_1, hb⟩
  have zz2 : w1.heap.size ≤ w2.heap.size := (by have := hb.size; ((try simp at this) <;> omega))
  have H2 := Lib.hid (show Below w.heap.size w w2 by repeat (first | (with_reducible exact Below.refl _ _) | (with_reducible assumption) | ((with_reducible refine bl_alloc ?_ _ ?_); (focus ((first | omega | (simp <;> omega)); done))) | ((with_reducible refine bl_set ?_ _ ?_); (focus ((first | omega | (simp <;> omega)); done))) | (with_reducible refine below_drewN ?_ _) | (with_reducible refine Below.drew ?_) | ((with_reducible refine bl_trans ?_ hb ?_); (focus ((first | omega | (simp <;> omega)); done))) | ((with_reducible refine bl_trans ?_ H1.out ?_); (focus ((first | omega | (simp <;> omega)); done)))))
  have f0_0_2 := keeps hb f0_0_1
  have f0_1_2 := keeps hb f0_1_1
  have f0_2_2 := keeps hb f0_2_1
  have f0_3_2 := keeps hb f0_3_1
  have g0_2 : w.heap.size < w2.heap.size := block_of_cell f0_0_2
  have R0_2 := Lib.hid hr0
  have RL0 := Lib.hid (show ∀ g, Value.ownBlock (.slice A0 n0 c0) = some g → w1.heap.size ≤ g ∧ g < w2.heap.size from fun g h => by have l1 := hr0.lt g h; ((try simp at l1) <;> omega))
  have RA0_1 := Lib.hid ha0_1
  have R1_2 := Lib.hid hr1
  have RL1 := Lib.hid (show ∀ g, Value.ownBlock (.slice A1 n1 c1) = some g → w1.heap.size ≤ g ∧ g < w2.heap.size from fun g h => by have l1 := hr1.lt g h; ((try simp at l1) <;> omega))
  clear hb f0_0_1 f0_1_1 f0_2_1 f0_3_1 g0_1 hr0 ha0_1 hr1 H1
  go_wp2_with fail
  refine (spec_any _ s0_0 is0_0 a0_1 ia0_1 _ x0_2 _ R0_2.out ix0_2 _ x0_3 _ R1_2.out ix0_3).mono ?_
  rintro e w3 ⟨rfl, hb⟩
  have zz3 : w2.heap.size ≤ w3.heap.size := (by have := hb.size; ((try simp at this) <;> omega))
  have H3 := Lib.hid (show Below w.heap.size w w3 by repeat (first | (with_reducible exact Below.refl _ _) | (with_reducible assumption) | ((with_reducible refine bl_alloc ?_ _ ?_); (focus ((first | omega | (simp <;> omega)); done))) | ((with_reducible refine bl_set ?_ _ ?_); (focus ((first | omega | (simp <;> omega)); done))) | (with_reducible refine below_drewN ?_ _) | (with_reducible refine Below.drew ?_) | ((with_reducible refine bl_trans ?_ hb ?_); (focus ((first | omega | (simp <;> omega)); done))) | ((with_reducible refine bl_trans ?_ H2.out ?_); (focus ((first | omega | (simp <;> omega)); done)))))
  have f0_0_3 := keeps hb f0_0_2
  have f0_1_3 := keeps hb f0_1_2
  have f0_2_3 := keeps hb f0_2_2
  have f0_3_3 := keeps hb f0_3_2
  have g0_3 : w.heap.size < w3.heap.size := block_of_cell f0_0_3
  clear hb f0_0_2 f0_1_2 f0_2_2 f0_3_2 g0_2 R0_2 R1_2 H2
  go_wp2_with fail
  refine (toAntenna_any s0_0 a0_1 v0_2 x0_2 v0_3 x0_3 _ w.heap.size (by first | omega | (simp <;> omega)) (Rd.below r0_2 (by repeat (first | (with_reducible exact Below.refl _ _) | (with_reducible assumption) | ((with_reducible refine bl_alloc ?_ _ ?_); (focus ((first | omega | (simp <;> omega)); done))) | ((with_reducible refine bl_set ?_ _ ?_); (focus ((first | omega | (simp <;> omega)); done))) | (with_reducible refine below_drewN ?_ _) | (with_reducible refine Below.drew ?_) | ((with_reducible refine bl_trans ?_ H3.out ?_); (focus ((first | omega | (simp <;> omega)); done)))))) (by omega) (Rd.below r0_3 (by repeat (first | (with_reducible exact Below.refl _ _) | (with_reducible assumption) | ((with_reducible refine bl_alloc ?_ _ ?_); (focus ((first | omega | (simp <;> omega)); done))) | ((with_reducible refine bl_set ?_ _ ?_); (focus ((first | omega | (simp <;> omega)); done))) | (with_reducible refine below_drewN ?_ _) | (with_reducible refine Below.drew ?_) | ((with_reducible refine bl_trans ?_ H3.out ?_); (focus ((first | omega | (simp <;> omega)); done)))))) (by omega)).mono ?_
  rintro e w4 ⟨A2, n2, c2, A3, n3, c3, rfl, hr2, hr3, ha2_3, hb⟩
  have zz4 : w3.heap.size ≤ w4.heap.size := (by have := hb.size; ((try simp at this) <;> omega))
  have H4 := Lib.hid (show Below w.heap.size w w4 by repeat (first | (with_reducible exact Below.refl _ _) | (with_reducible assumption) | ((with_reducible refine bl_alloc ?_ _ ?_); (focus ((first | omega | (simp <;> omega)); done))) | ((with_reducible refine bl_set ?_ _ ?_); (focus ((first | omega | (simp <;> omega)); done))) | (with_reducible refine below_drewN ?_ _) | (with_reducible refine Below.drew ?_) | ((with_reducible refine bl_trans ?_ hb ?_); (focus ((first | omega | (simp <;> omega)); done))) | ((with_reducible refine bl_trans ?_ H3.out ?_); (focus ((first | omega | (simp <;> omega)); done)))))
  have f0_0_4 := keeps hb f0_0_3
  have f0_1_4 := keeps hb f0_1_3
  have f0_2_4 := keeps hb f0_2_3
  have f0_3_4 := keeps hb f0_3_3
  have g0_4 : w.heap.size < w4.heap.size := block_of_cell f0_0_4
  have R2_4 := Lib.hid hr2
  have RL2 := Lib.hid (show ∀ g, Value.ownBlock (.slice A2 n2 c2) = some g → w3.heap.size ≤ g ∧ g < w4.heap.size from fun g h => by have l1 := hr2.lt g h; ((try simp at l1) <;> omega))
  have RA2_3 := Lib.hid ha2_3
  have R3_4 := Lib.hid hr3
  have RL3 := Lib.hid (show ∀ g, Value.ownBlock (.slice A3 n3 c3) = some g → w3.heap.size ≤ g ∧ g < w4.heap.size from fun g h => by have l1 := hr3.lt g h; ((try simp at l1) <;> omega))
  clear hb f0_0_3 f0_1_3 f0_2_3 f0_3_3 g0_3 hr2 ha2_3 hr3 H3
  go_wp2_with fail
  refine (impl_any _ (PowTab.below HTab.out (by repeat (first | (with_reducible exact Below.refl _ _) | (with_reducible assumption) | ((with_reducible refine bl_alloc ?_ _ ?_); (focus ((first | omega | (simp <;> omega)); done))) | ((with_reducible refine bl_set ?_ _ ?_); (focus ((first | omega | (simp <;> omega)); done))) | (with_reducible refine below_drewN ?_ _) | (with_reducible refine Below.drew ?_) | ((with_reducible refine bl_trans ?_ H4.out ?_); (focus ((first | omega | (simp <;> omega)); done)))))) s0_0 is0_0 a0_1 ia0_1 _ x0_2 _ (R2_4.out.alloc_ _) ix0_2 _ x0_3 _ (R3_4.out.alloc_ _) ix0_3).mono ?_
  rintro e w5 ⟨rfl, hb⟩
  have zz5 : w4.heap.size + 1 ≤ w5.heap.size := (by have := hb.size; ((try simp at this) <;> omega))
  have H5 := Lib.hid (show Below w.heap.size w w5 by repeat (first | (with_reducible exact Below.refl _ _) | (with_reducible assumption) | ((with_reducible refine bl_alloc ?_ _ ?_); (focus ((first | omega | (simp <;> omega)); done))) | ((with_reducible refine bl_set ?_ _ ?_); (focus ((first | omega | (simp <;> omega)); done))) | (with_reducible refine below_drewN ?_ _) | (with_reducible refine Below.drew ?_) | ((with_reducible refine bl_trans ?_ hb ?_); (focus ((first | omega | (simp <;> omega)); done))) | ((with_reducible refine bl_trans ?_ H4.out ?_); (focus ((first | omega | (simp <;> omega)); done)))))
  have f0_0_5 := keeps hb (cell_alloc f0_0_4 _)
  have f0_1_5 := keeps hb (cell_alloc f0_1_4 _)
  have f0_2_5 := keeps hb (cell_alloc f0_2_4 _)
  have f0_3_5 := keeps hb (cell_alloc f0_3_4 _)
  have g0_5 : w.heap.size < w5.heap.size := block_of_cell f0_0_5
  have f1_0_5 := keeps hb (p := ⟨w4.heap.size, 0, none⟩) (v := .string s0_0) (by simp [go_sem])
  have f1_1_5 := keeps hb (p := ⟨w4.heap.size, 1, none⟩) (v := .int .i64 a0_1) (by simp [go_sem])
  have f1_2_5 := keeps hb (p := ⟨w4.heap.size, 2, none⟩) (v := (.slice A2 n2 c2)) (by simp [go_sem])
  have f1_3_5 := keeps hb (p := ⟨w4.heap.size, 3, none⟩) (v := (.slice A3 n3 c3)) (by simp [go_sem])
  have g1_5 : w4.heap.size < w5.heap.size := block_of_cell f1_0_5
  have R2_5 := Lib.hid (Row.later (R2_4.out.alloc_ _) hb)
  have R3_5 := Lib.hid (Row.later (R3_4.out.alloc_ _) hb)
  clear hb f0_0_4 f0_1_4 f0_2_4 f0_3_4 g0_4 R2_4 R3_4 H4
  go_wp2_with fail
  go_region_held3 (fun w' => w'.cell? ⟨w4.heap.size, 0, none⟩ = some (.string s0_0) ∧ w'.cell? ⟨w4.heap.size, 1, none⟩ = some (.int .i64 a0_1) ∧ w'.cell? ⟨w4.heap.size, 2, none⟩ = some ((.slice A2 n2 c2)) ∧ w'.cell? ⟨w4.heap.size, 3, none⟩ = some ((.slice A3 n3 c3)) ∧ w'.cell? ⟨w.heap.size, 0, none⟩ = some (.string s0_0) ∧ w'.cell? ⟨w.heap.size, 1, none⟩ = some (.int .i64 a0_1) ∧ w'.cell? ⟨w.heap.size, 2, none⟩ = some (v0_2) ∧ w'.cell? ⟨w.heap.size, 3, none⟩ = some (v0_3))
    (first | (refine ⟨?_, ?_, ?_, ?_, ?_, ?_, ?_, ?_⟩ <;> assumption) | (go_split_ands; (refine ⟨?_, ?_, ?_, ?_, ?_, ?_, ?_, ?_⟩ <;> first | assumption | (refine keeps hb ?_; assumption))))
    (first
      | (go_at_call 25; ((with_reducible refine (toAntenna_any s0_0 a0_1 v0_2 x0_2 v0_3 x0_3 _ w.heap.size (by first | omega | (simp <;> omega)) (Rd.below r0_2 (by repeat (first | (with_reducible exact Below.refl _ _) | (with_reducible assumption) | ((with_reducible refine bl_alloc ?_ _ ?_); (focus ((first | omega | (simp <;> omega)); done))) | ((with_reducible refine bl_set ?_ _ ?_); (focus ((first | omega | (simp <;> omega)); done))) | (with_reducible refine below_drewN ?_ _) | (with_reducible refine Below.drew ?_) | ((with_reducible refine bl_trans ?_ H5.out ?_); (focus ((first | omega | (simp <;> omega)); done)))))) (by omega) (Rd.below r0_3 (by repeat (first | (with_reducible exact Below.refl _ _) | (with_reducible assumption) | ((with_reducible refine bl_alloc ?_ _ ?_); (focus ((first | omega | (simp <;> omega)); done))) | ((with_reducible refine bl_set ?_ _ ?_); (focus ((first | omega | (simp <;> omega)); done))) | (with_reducible refine below_drewN ?_ _) | (with_reducible refine Below.drew ?_) | ((with_reducible refine bl_trans ?_ H5.out ?_); (focus ((first | omega | (simp <;> omega)); done)))))) (by omega)).mono ?_); rintro e w6 ⟨A4, n4, c4, A5, n5, c5, rfl, hr4, hr5, ha4_5, hb⟩; have zz6 : w5.heap.size ≤ w6.heap.size := (by have := hb.size; ((try simp at this) <;> omega)); have H6 := Lib.hid (show Below w.heap.size w w6 by repeat (first | (with_reducible exact Below.refl _ _) | (with_reducible assumption) | ((with_reducible refine bl_alloc ?_ _ ?_); (focus ((first | omega | (simp <;> omega)); done))) | ((with_reducible refine bl_set ?_ _ ?_); (focus ((first | omega | (simp <;> omega)); done))) | (with_reducible refine below_drewN ?_ _) | (with_reducible refine Below.drew ?_) | ((with_reducible refine bl_trans ?_ hb ?_); (focus ((first | omega | (simp <;> omega)); done))) | ((with_reducible refine bl_trans ?_ H5.out ?_); (focus ((first | omega | (simp <;> omega)); done))))); have R2_6 := Lib.hid (Row.later1 R2_5.out hb); have R3_6 := Lib.hid (Row.later1 R3_5.out hb); have R4_6 := Lib.hid hr4; have RL4 := Lib.hid (show ∀ g, Value.ownBlock (.slice A4 n4 c4) = some g → w5.heap.size ≤ g ∧ g < w6.heap.size from fun g h => by have l1 := hr4.lt g h; ((try simp at l1) <;> omega)); have RA4_5 := Lib.hid ha4_5; have R5_6 := Lib.hid hr5; have RL5 := Lib.hid (show ∀ g, Value.ownBlock (.slice A5 n5 c5) = some g → w5.heap.size ≤ g ∧ g < w6.heap.size from fun g h => by have l1 := hr5.lt g h; ((try simp at l1) <;> omega)); clear f0_0_5 f0_1_5 f0_2_5 f0_3_5 g0_5 f1_0_5 f1_1_5 f1_2_5 f1_3_5 g1_5 R2_5 R3_5 hr4 ha4_5 hr5 H5))
      | (go_at_call 27; ((with_reducible refine (eqAntenna_any s0_0 a0_1 _ _ _ (x0_2) _ _ R2_6.out R4_6.out _ _ (x0_3) _ _ R3_6.out R5_6.out).mono ?_); rintro e w7 ⟨rfl, hb⟩; have zz7 : w6.heap.size ≤ w7.heap.size := (by have := hb.size; ((try simp at this) <;> omega)); have H7 := Lib.hid (show Below w.heap.size w w7 by repeat (first | (with_reducible exact Below.refl _ _) | (with_reducible assumption) | ((with_reducible refine bl_alloc ?_ _ ?_); (focus ((first | omega | (simp <;> omega)); done))) | ((with_reducible refine bl_set ?_ _ ?_); (focus ((first | omega | (simp <;> omega)); done))) | (with_reducible refine below_drewN ?_ _) | (with_reducible refine Below.drew ?_) | ((with_reducible refine bl_trans ?_ hb ?_); (focus ((first | omega | (simp <;> omega)); done))) | ((with_reducible refine bl_trans ?_ H6.out ?_); (focus ((first | omega | (simp <;> omega)); done))))); clear R2_6 R3_6 R4_6 R5_6 H6)))
  go_wp2_with fail
  go_ret
  exact ⟨rfl, (by repeat (first | (with_reducible exact Below.refl _ _) | (with_reducible assumption) | ((with_reducible refine bl_alloc ?_ _ ?_); (focus ((first | omega | (simp <;> omega)); done))) | ((with_reducible refine bl_set ?_ _ ?_); (focus ((first | omega | (simp <;> omega)); done))) | (with_reducible refine below_drewN ?_ _) | (with_reducible refine Below.drew ?_) | ((with_reducible refine bl_trans ?_ H7.out ?_); (focus ((first | omega | (simp <;> omega)); done)))))⟩
end Go.Proofs.YtboglgkaelbdcaaDoor.fnExactAntennaText
