/-
  The height of an end of a path: the reference's and the program's. The conditions are the hypotheses.
-/
import Derived.Test.YtedpdcdmemenhaaRows
import Derived.Test.YtedpdcdmemenhaaLib
import Derived.Test.YtedpdcdmemenhaaInt
import Derived.Test.YtedpdcdmemenhaaWithin
import Derived.Test.YtedpdcdmemenhaaAll
import Derived.Test.YtedpdcdmemenhaaOwn
import Derived.Test.YtedpdcdmemenhaaField
import Derived.Test.YtedpdcdmemenhaaTer
import Derived.Test.YtedpdcdmemenhaaMinMax
import Derived.Test.YtedpdcdmemenhaaHgtP
import Derived.Test.YtedpdcdmemenhaaHgtS
import Derived.Test.YtedpdcdmemenhaaHgtI
import Derived.Shelf.Abstract
import Derived.Outline
import Derived.Deep.DeepCutAuto
import Derived.Deep.QuietTactic
import Derived.BigQuiet
import Derived.Deep.RegionHeld3
import Derived.Deep.DrawnRows
namespace Go.Proofs.Ytedpdcdmemenhaa
open Go.RowKit
set_option linter.unusedSimpArgs false
set_option linter.unusedVariables false
attribute [local go_sem ↓] Go.wp_at_zero Go.wp_at_succ
set_option maxRecDepth 20000 in
set_option maxHeartbeats 4000000 in
theorem l12High_any (w : World) (o : Nat) (st wd ht x y a : Int) (v : Value) (hs : List Int) (p : Nat) (hr : Row 2 w p v hs) (hz : sizeB st wd ht = true) (hl : (hs.length : Int) = wd * ht) (hb : ∀ k, k < hs.length → 0 ≤ hs.getD k 0 ∧ hs.getD k 0 ≤ 90000) (x0 : 0 ≤ x) (x1 : x ≤ (wd - 1) * st) (y0 : 0 ≤ y) (y1 : y ≤ (ht - 1) * st) (a0 : 1 ≤ a) (a1 : a ≤ 3000) (c0 : w.cell? ⟨o, 0, none⟩ = some (.int .i64 st)) (c1 : w.cell? ⟨o, 1, none⟩ = some (.int .i64 wd)) (c2 : w.cell? ⟨o, 2, none⟩ = some (.int .i64 ht)) (c3 : w.cell? ⟨o, 3, none⟩ = some (v)) :
    Calls Try.prog 69 #[.pointer (some ⟨o, 0, none⟩), .agg #[.int .i64 x, .int .i64 y, .int .i64 a]] w fun e w' => e = .returned (.int .i64 (heightB st wd ht hs x y + a)) ∧ Below w.heap.size w w' := by
  obtain ⟨s0, w0, t0, q1, q2⟩ := size_parts hz
  have hbd := height_bd s0.1 w0.1 t0.1 x0 x1 y0 y1 hl hb
  have HC : Hid (∀ W : World, Below w.heap.size w W → Calls Try.prog 98 #[.pointer (some ⟨o, 0, none⟩), .agg #[.int .i64 x, .int .i64 y]] W fun e w' => e = .returned (.int .i64 (heightB st wd ht hs x y)) ∧ Below W.heap.size W w') := fun W hW => l04HeightAt_any W o st wd ht x y v hs p (hr.later hW) hz hl hb x0 x1 y0 y1 (keeps hW c0) (keeps hW c1) (keeps hW c2) (keeps hW c3)
  obtain ⟨K, hK⟩ : ∃ K, K = heightB st wd ht hs x y := ⟨_, rfl⟩
  rw [← hK] at hbd HC ⊢
  have wk : IntKind.i64.wrap (K + a) = K + a := by rw [IntKind.wrap_i64]; omega
  clear hK hr hz hl hb x1 y1 q1 q2 c0 c1 c2 c3
  obtain ⟨W0, hW0⟩ : ∃ W, W = w.alloc (.cells #[.int .i64 x, .int .i64 y, .int .i64 a] 66) := ⟨_, rfl⟩
  have HW0 := Lib.hid (show Below w.heap.size w W0 by rw [hW0]; repeat (first | (with_reducible exact Below.refl _ _) | (with_reducible assumption) | ((with_reducible refine bl_alloc ?_ _ ?_); (focus ((first | omega | (simp <;> omega)); done))) | ((with_reducible refine bl_set ?_ _ ?_); (focus ((first | omega | (simp <;> omega)); done))) | (with_reducible refine below_drewN ?_ _) | (with_reducible refine Below.drew ?_)))
  have z0 := HW0.out.size
  have e0 : W0.cell? ⟨w.heap.size, 0, none⟩ = some (.int .i64 x) := by rw [hW0]; simp [go_sem]
  have e1 : W0.cell? ⟨w.heap.size, 1, none⟩ = some (.int .i64 y) := by rw [hW0]; simp [go_sem]
  have e2 : W0.cell? ⟨w.heap.size, 2, none⟩ = some (.int .i64 a) := by rw [hW0]; simp [go_sem]
  go_enter Try.func69, Try.ntmps69
  (go_upto_region 1 with fail; rw [← hW0]; clear hW0)
  go_region_held3 (fun w' => w'.cell? ⟨w.heap.size, 0, none⟩ = some (.int .i64 x) ∧ w'.cell? ⟨w.heap.size, 1, none⟩ = some (.int .i64 y) ∧ w'.cell? ⟨w.heap.size, 2, none⟩ = some (.int .i64 a))
      (((try go_split_ands); (refine ⟨?_, ?_, ?_⟩ <;> (repeat (first | (with_reducible assumption) | (with_reducible refine cell_drew ?_) | (with_reducible refine cell_drewN ?_) | (with_reducible refine keeps hb ?_) | fail)))))
      ((go_at_call 98; ((with_reducible refine (HC.out _ (by repeat (first | (with_reducible exact Below.refl _ _) | (with_reducible assumption) | ((with_reducible refine bl_alloc ?_ _ ?_); (focus ((first | omega | (simp <;> omega)); done))) | ((with_reducible refine bl_set ?_ _ ?_); (focus ((first | omega | (simp <;> omega)); done))) | (with_reducible refine below_drewN ?_ _) | (with_reducible refine Below.drew ?_) | ((with_reducible refine bl_trans ?_ HW0.out ?_); (focus ((first | omega | (simp <;> omega)); done)))))).mono ?_); rintro e w3 ⟨rfl, hb⟩; have H3 := Lib.hid (show Below w.heap.size w w3 by repeat (first | (with_reducible exact Below.refl _ _) | (with_reducible assumption) | ((with_reducible refine bl_alloc ?_ _ ?_); (focus ((first | omega | (simp <;> omega)); done))) | ((with_reducible refine bl_set ?_ _ ?_); (focus ((first | omega | (simp <;> omega)); done))) | (with_reducible refine below_drewN ?_ _) | (with_reducible refine Below.drew ?_) | ((with_reducible refine bl_trans ?_ hb ?_); (focus ((first | omega | (simp <;> omega)); done))) | ((with_reducible refine bl_trans ?_ HW0.out ?_); (focus ((first | omega | (simp <;> omega)); done))))))))
  go_wp2_with fail
  go_ret
  exact ⟨rfl, H3.out⟩
set_option maxRecDepth 20000 in
set_option maxHeartbeats 4000000 in
theorem endHeight_any (w : World) (st wd ht x y a : Int) (v u : Value) (hs : List Int) (p : Nat) (hr : Row 2 w p v hs) (hz : sizeB st wd ht = true) (hl : (hs.length : Int) = wd * ht) (hb : ∀ k, k < hs.length → 0 ≤ hs.getD k 0 ∧ hs.getD k 0 ≤ 90000) (x0 : 0 ≤ x) (x1 : x ≤ (wd - 1) * st) (y0 : 0 ≤ y) (y1 : y ≤ (ht - 1) * st) (a0 : 1 ≤ a) (a1 : a ≤ 3000) :
    Calls Try.prog 72 #[.agg #[.int .i64 st, .int .i64 wd, .int .i64 ht, v, u], .agg #[.int .i64 x, .int .i64 y, .int .i64 a]] w fun e w' => e = .returned (.int .i64 (heightB st wd ht hs x y + a)) ∧ Below w.heap.size w w' := by
  obtain ⟨s0, w0, t0, q1, q2⟩ := size_parts hz
  have hbd := height_bd s0.1 w0.1 t0.1 x0 x1 y0 y1 hl hb
  have HC : Hid (∀ W : World, Below w.heap.size w W → Calls Try.prog 106 #[.agg #[.int .i64 st, .int .i64 wd, .int .i64 ht, v, u], .agg #[.int .i64 x, .int .i64 y]] W fun e w' => e = .returned (.int .i64 (heightB st wd ht hs x y)) ∧ Below W.heap.size W w') := fun W hW => heightAt_any W st wd ht x y v u hs p (hr.later hW) hz hl hb x0 x1 y0 y1
  obtain ⟨K, hK⟩ : ∃ K, K = heightB st wd ht hs x y := ⟨_, rfl⟩
  rw [← hK] at hbd HC ⊢
  have wk : IntKind.i64.wrap (K + a) = K + a := by rw [IntKind.wrap_i64]; omega
  clear hK hr hz hl hb x1 y1 q1 q2
  obtain ⟨W0, hW0⟩ : ∃ W, W = (w.alloc (.cells #[.int .i64 st, .int .i64 wd, .int .i64 ht, v, u] 62)).alloc (.cells #[.int .i64 x, .int .i64 y, .int .i64 a] 66) := ⟨_, rfl⟩
  have HW0 := Lib.hid (show Below w.heap.size w W0 by rw [hW0]; repeat (first | (with_reducible exact Below.refl _ _) | (with_reducible assumption) | ((with_reducible refine bl_alloc ?_ _ ?_); (focus ((first | omega | (simp <;> omega)); done))) | ((with_reducible refine bl_set ?_ _ ?_); (focus ((first | omega | (simp <;> omega)); done))) | (with_reducible refine below_drewN ?_ _) | (with_reducible refine Below.drew ?_)))
  have z0 := HW0.out.size
  have e0 : W0.cell? ⟨w.heap.size, 0, none⟩ = some (.int .i64 st) := by rw [hW0]; simp [go_sem]
  have e1 : W0.cell? ⟨w.heap.size, 1, none⟩ = some (.int .i64 wd) := by rw [hW0]; simp [go_sem]
  have e2 : W0.cell? ⟨w.heap.size, 2, none⟩ = some (.int .i64 ht) := by rw [hW0]; simp [go_sem]
  have e3 : W0.cell? ⟨w.heap.size, 3, none⟩ = some (v) := by rw [hW0]; simp [go_sem]
  have e4 : W0.cell? ⟨w.heap.size, 4, none⟩ = some (u) := by rw [hW0]; simp [go_sem]
  have e5 : W0.cell? ⟨w.heap.size + 1, 0, none⟩ = some (.int .i64 x) := by rw [hW0]; simp [go_sem]
  have e6 : W0.cell? ⟨w.heap.size + 1, 1, none⟩ = some (.int .i64 y) := by rw [hW0]; simp [go_sem]
  have e7 : W0.cell? ⟨w.heap.size + 1, 2, none⟩ = some (.int .i64 a) := by rw [hW0]; simp [go_sem]
  go_enter Try.func72, Try.ntmps72
  (go_upto_region 1 with fail; rw [← hW0]; clear hW0)
  go_region_held3 (fun w' => w'.cell? ⟨w.heap.size, 0, none⟩ = some (.int .i64 st) ∧ w'.cell? ⟨w.heap.size, 1, none⟩ = some (.int .i64 wd) ∧ w'.cell? ⟨w.heap.size, 2, none⟩ = some (.int .i64 ht) ∧ w'.cell? ⟨w.heap.size, 3, none⟩ = some (v) ∧ w'.cell? ⟨w.heap.size, 4, none⟩ = some (u) ∧ w'.cell? ⟨w.heap.size + 1, 0, none⟩ = some (.int .i64 x) ∧ w'.cell? ⟨w.heap.size + 1, 1, none⟩ = some (.int .i64 y) ∧ w'.cell? ⟨w.heap.size + 1, 2, none⟩ = some (.int .i64 a))
      (((try go_split_ands); (refine ⟨?_, ?_, ?_, ?_, ?_, ?_, ?_, ?_⟩ <;> (repeat (first | (with_reducible assumption) | (with_reducible refine cell_drew ?_) | (with_reducible refine cell_drewN ?_) | (with_reducible refine keeps hb ?_) | fail)))))
      ((go_at_call 106; ((with_reducible refine (HC.out _ (by repeat (first | (with_reducible exact Below.refl _ _) | (with_reducible assumption) | ((with_reducible refine bl_alloc ?_ _ ?_); (focus ((first | omega | (simp <;> omega)); done))) | ((with_reducible refine bl_set ?_ _ ?_); (focus ((first | omega | (simp <;> omega)); done))) | (with_reducible refine below_drewN ?_ _) | (with_reducible refine Below.drew ?_) | ((with_reducible refine bl_trans ?_ HW0.out ?_); (focus ((first | omega | (simp <;> omega)); done)))))).mono ?_); rintro e w3 ⟨rfl, hb⟩; have H3 := Lib.hid (show Below w.heap.size w w3 by repeat (first | (with_reducible exact Below.refl _ _) | (with_reducible assumption) | ((with_reducible refine bl_alloc ?_ _ ?_); (focus ((first | omega | (simp <;> omega)); done))) | ((with_reducible refine bl_set ?_ _ ?_); (focus ((first | omega | (simp <;> omega)); done))) | (with_reducible refine below_drewN ?_ _) | (with_reducible refine Below.drew ?_) | ((with_reducible refine bl_trans ?_ hb ?_); (focus ((first | omega | (simp <;> omega)); done))) | ((with_reducible refine bl_trans ?_ HW0.out ?_); (focus ((first | omega | (simp <;> omega)); done))))))))
  go_wp2_with fail
  go_ret
  exact ⟨rfl, H3.out⟩
end Go.Proofs.Ytedpdcdmemenhaa
