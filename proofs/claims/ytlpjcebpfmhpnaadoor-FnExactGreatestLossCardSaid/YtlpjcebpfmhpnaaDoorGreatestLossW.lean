/-
  The walk of FnExactGreatestLoss: it returns true, and of what was there nothing has turned. The conditions are what its arguments' readings give.
-/
import Derived.Test.YtlpjcebpfmhpnaaDoorRows
import Derived.Test.YtlpjcebpfmhpnaaDoorLib
import Derived.Test.YtlpjcebpfmhpnaaDoorShelf
import Derived.Test.YtlpjcebpfmhpnaaDoorDec
import Derived.Test.YtlpjcebpfmhpnaaDoorPow
import Derived.Test.YtlpjcebpfmhpnaaDoorInt
import Derived.Test.YtlpjcebpfmhpnaaDoorWithin
import Derived.Test.YtlpjcebpfmhpnaaDoorNames
import Derived.Test.YtlpjcebpfmhpnaaDoorRadioB
import Derived.Test.YtlpjcebpfmhpnaaDoorModes
import Derived.Test.YtlpjcebpfmhpnaaDoorRadios
import Derived.Test.YtlpjcebpfmhpnaaDoorRadioS
import Derived.Test.YtlpjcebpfmhpnaaDoorRadio
import Derived.Test.YtlpjcebpfmhpnaaDoorLogS
import Derived.Test.YtlpjcebpfmhpnaaDoorLogI
import Derived.Test.YtlpjcebpfmhpnaaDoorFloor
import Derived.Test.YtlpjcebpfmhpnaaDoorLeast
import Derived.Test.YtlpjcebpfmhpnaaDoorGreatB
import Derived.Test.YtlpjcebpfmhpnaaDoorGreatS
import Derived.Test.YtlpjcebpfmhpnaaDoorGreatI
import Derived.Outline
import Derived.Deep.RegionHeld3
import Derived.Deep.DrawnRows
namespace Go.Proofs.YtlpjcebpfmhpnaaDoor.fnExactGreatestLoss
open Go.RowKit Go.ChangeShapes Go.WideShapes Go.ChangeAt
set_option linter.unusedVariables false
set_option linter.unusedSimpArgs false

open Go.Proofs.YtlpjcebpfmhpnaaDoor.ofGreatestLoss
attribute [local go_sem ↓] Go.wp_at_zero Go.wp_at_succ
set_option maxRecDepth 20000 in
set_option maxHeartbeats 4000000 in
theorem walk (w : World) (hT : PowTab w) (s0_0 : ByteArray) (is0_0 : s0_0.size ≤ maxLen) (a0_1 : Int) (ia0_1 : In64 a0_1) (a0_2 : Int) (ia0_2 : In64 a0_2) (a0_3 : Int) (ia0_3 : In64 a0_3) (a0_4 : Int) (ia0_4 : In64 a0_4) (v0_5 : Value) (x0_5 : List (Int × Int)) (r0_5 : RdM w w.heap.size v0_5 x0_5) (ix0_5 : ∀ n ∈ x0_5, In64 n.1 ∧ In64 n.2) (a1 : Int) (ia1 : In64 a1) (s2_0 : ByteArray) (is2_0 : s2_0.size ≤ maxLen) (a2_1 : Int) (ia2_1 : In64 a2_1) (a2_2 : Int) (ia2_2 : In64 a2_2) (a2_3 : Int) (ia2_3 : In64 a2_3) (a2_4 : Int) (ia2_4 : In64 a2_4) (v2_5 : Value) (x2_5 : List (Int × Int)) (r2_5 : RdM w w.heap.size v2_5 x2_5) (ix2_5 : ∀ n ∈ x2_5, In64 n.1 ∧ In64 n.2) (a3 : Int) (ia3 : In64 a3) (a4 : Int) (ia4 : In64 a4) :
    Calls Tryd.prog 4 #[.agg #[.string s0_0, .int .i64 a0_1, .int .i64 a0_2, .int .i64 a0_3, .int .i64 a0_4, v0_5], .int .i64 a1, .agg #[.string s2_0, .int .i64 a2_1, .int .i64 a2_2, .int .i64 a2_3, .int .i64 a2_4, v2_5], .int .i64 a3, .int .i64 a4] w fun e w' => e = .returned (.bool true) ∧ Below w.heap.size w w' := by
  have HTab := Lib.hid hT
  clear hT
  by_cases hs0 : ¬ (s0_0.size : Int) + (x0_5.length : Int) ≤ 1048576
  · go_enter Tryd.func4, Tryd.ntmps4
    go_wp2_with fail
    refine (szRadio_not s0_0 a0_1 a0_2 a0_3 a0_4 _ x0_5 _ w.heap.size (by first | omega | (simp <;> omega)) (RdM.below r0_5 (by repeat (first | (with_reducible exact Below.refl _ _) | (with_reducible assumption) | ((with_reducible refine bl_alloc ?_ _ ?_); (focus ((first | omega | (simp <;> omega)); done))) | ((with_reducible refine bl_set ?_ _ ?_); (focus ((first | omega | (simp <;> omega)); done))) | (with_reducible refine below_drewN ?_ _) | (with_reducible refine Below.drew ?_)))) is0_0 _ (by omega) (by omega) (by omega)).mono ?_
    rintro e w1 ⟨rfl, hb⟩
    have zz1 : w.heap.size + 1 + 1 ≤ w1.heap.size := (by have := hb.size; ((try simp at this) <;> omega))
    have H1 := Lib.hid (show Below w.heap.size w w1 by repeat (first | (with_reducible exact Below.refl _ _) | (with_reducible assumption) | ((with_reducible refine bl_alloc ?_ _ ?_); (focus ((first | omega | (simp <;> omega)); done))) | ((with_reducible refine bl_set ?_ _ ?_); (focus ((first | omega | (simp <;> omega)); done))) | (with_reducible refine below_drewN ?_ _) | (with_reducible refine Below.drew ?_) | ((with_reducible refine bl_trans ?_ hb ?_); (focus ((first | omega | (simp <;> omega)); done)))))
    have f0_0_1 := keeps hb (p := ⟨w.heap.size, 0, none⟩) (v := .string s0_0) (by simp [go_sem])
    have f0_1_1 := keeps hb (p := ⟨w.heap.size, 1, none⟩) (v := .int .i64 a0_1) (by simp [go_sem])
    have f0_2_1 := keeps hb (p := ⟨w.heap.size, 2, none⟩) (v := .int .i64 a0_2) (by simp [go_sem])
    have f0_3_1 := keeps hb (p := ⟨w.heap.size, 3, none⟩) (v := .int .i64 a0_3) (by simp [go_sem])
    have f0_4_1 := keeps hb (p := ⟨w.heap.size, 4, none⟩) (v := .int .i64 a0_4) (by simp [go_sem])
    have f0_5_1 := keeps hb (p := ⟨w.heap.size, 5, none⟩) (v := v0_5) (by simp [go_sem])
    have g0_1 : w.heap.size < w1.heap.size := block_of_cell f0_0_1
    have f1_0_1 := keeps hb (p := ⟨w.heap.size + 1, 0, none⟩) (v := .string s2_0) (by simp [go_sem])
    have f1_1_1 := keeps hb (p := ⟨w.heap.size + 1, 1, none⟩) (v := .int .i64 a2_1) (by simp [go_sem])
    have f1_2_1 := keeps hb (p := ⟨w.heap.size + 1, 2, none⟩) (v := .int .i64 a2_2) (by simp [go_sem])
    have f1_3_1 := keeps hb (p := ⟨w.heap.size + 1, 3, none⟩) (v := .int .i64 a2_3) (by simp [go_sem])
    have f1_4_1 := keeps hb (p := ⟨w.heap.size + 1, 4, none⟩) (v := .int .i64 a2_4) (by simp [go_sem])
    have f1_5_1 := keeps hb (p := ⟨w.heap.size + 1, 5, none⟩) (v := v2_5) (by simp [go_sem])
    have g1_1 : w.heap.size + 1 < w1.heap.size := block_of_cell f1_0_1
    clear hb
    go_wp2_with fail
    go_ret
    exact ⟨rfl, (by repeat (first | (with_reducible exact Below.refl _ _) | (with_reducible assumption) | ((with_reducible refine bl_alloc ?_ _ ?_); (focus ((first | omega | (simp <;> omega)); done))) | ((with_reducible refine bl_set ?_ _ ?_); (focus ((first | omega | (simp <;> omega)); done))) | (with_reducible refine below_drewN ?_ _) | (with_reducible refine Below.drew ?_) | ((with_reducible refine bl_trans ?_ H1.out ?_); (focus ((first | omega | (simp <;> omega)); done)))))⟩
  have hs0' : (s0_0.size : Int) + (x0_5.length : Int) ≤ 1048576 := by omega
  clear hs0
  by_cases hs1 : ¬ (s2_0.size : Int) + (x2_5.length : Int) ≤ 1048576 - (s0_0.size : Int) - (x0_5.length : Int)
  · go_enter Tryd.func4, Tryd.ntmps4
    go_wp2_with fail
    refine (szRadio_fits s0_0 a0_1 a0_2 a0_3 a0_4 _ x0_5 _ w.heap.size (by first | omega | (simp <;> omega)) (RdM.below r0_5 (by repeat (first | (with_reducible exact Below.refl _ _) | (with_reducible assumption) | ((with_reducible refine bl_alloc ?_ _ ?_); (focus ((first | omega | (simp <;> omega)); done))) | ((with_reducible refine bl_set ?_ _ ?_); (focus ((first | omega | (simp <;> omega)); done))) | (with_reducible refine below_drewN ?_ _) | (with_reducible refine Below.drew ?_)))) is0_0 _ (by omega) (by omega)).mono ?_
    rintro e w1 ⟨rfl, hb⟩
    have zz1 : w.heap.size + 1 + 1 ≤ w1.heap.size := (by have := hb.size; ((try simp at this) <;> omega))
    have H1 := Lib.hid (show Below w.heap.size w w1 by repeat (first | (with_reducible exact Below.refl _ _) | (with_reducible assumption) | ((with_reducible refine bl_alloc ?_ _ ?_); (focus ((first | omega | (simp <;> omega)); done))) | ((with_reducible refine bl_set ?_ _ ?_); (focus ((first | omega | (simp <;> omega)); done))) | (with_reducible refine below_drewN ?_ _) | (with_reducible refine Below.drew ?_) | ((with_reducible refine bl_trans ?_ hb ?_); (focus ((first | omega | (simp <;> omega)); done)))))
    have f0_0_1 := keeps hb (p := ⟨w.heap.size, 0, none⟩) (v := .string s0_0) (by simp [go_sem])
    have f0_1_1 := keeps hb (p := ⟨w.heap.size, 1, none⟩) (v := .int .i64 a0_1) (by simp [go_sem])
    have f0_2_1 := keeps hb (p := ⟨w.heap.size, 2, none⟩) (v := .int .i64 a0_2) (by simp [go_sem])
    have f0_3_1 := keeps hb (p := ⟨w.heap.size, 3, none⟩) (v := .int .i64 a0_3) (by simp [go_sem])
    have f0_4_1 := keeps hb (p := ⟨w.heap.size, 4, none⟩) (v := .int .i64 a0_4) (by simp [go_sem])
    have f0_5_1 := keeps hb (p := ⟨w.heap.size, 5, none⟩) (v := v0_5) (by simp [go_sem])
    have g0_1 : w.heap.size < w1.heap.size := block_of_cell f0_0_1
    have f1_0_1 := keeps hb (p := ⟨w.heap.size + 1, 0, none⟩) (v := .string s2_0) (by simp [go_sem])
    have f1_1_1 := keeps hb (p := ⟨w.heap.size + 1, 1, none⟩) (v := .int .i64 a2_1) (by simp [go_sem])
    have f1_2_1 := keeps hb (p := ⟨w.heap.size + 1, 2, none⟩) (v := .int .i64 a2_2) (by simp [go_sem])
    have f1_3_1 := keeps hb (p := ⟨w.heap.size + 1, 3, none⟩) (v := .int .i64 a2_3) (by simp [go_sem])
    have f1_4_1 := keeps hb (p := ⟨w.heap.size + 1, 4, none⟩) (v := .int .i64 a2_4) (by simp [go_sem])
    have f1_5_1 := keeps hb (p := ⟨w.heap.size + 1, 5, none⟩) (v := v2_5) (by simp [go_sem])
    have g1_1 : w.heap.size + 1 < w1.heap.size := block_of_cell f1_0_1
    clear hb
    go_wp2_with fail
    refine (szRadio_not s2_0 a2_1 a2_2 a2_3 a2_4 _ x2_5 _ w.heap.size (by first | omega | (simp <;> omega)) (RdM.below r2_5 (by repeat (first | (with_reducible exact Below.refl _ _) | (with_reducible assumption) | ((with_reducible refine bl_alloc ?_ _ ?_); (focus ((first | omega | (simp <;> omega)); done))) | ((with_reducible refine bl_set ?_ _ ?_); (focus ((first | omega | (simp <;> omega)); done))) | (with_reducible refine below_drewN ?_ _) | (with_reducible refine Below.drew ?_) | ((with_reducible refine bl_trans ?_ H1.out ?_); (focus ((first | omega | (simp <;> omega)); done)))))) is2_0 _ (by omega) (by omega) (by omega)).mono ?_
    rintro e w2 ⟨rfl, hb⟩
    have zz2 : w1.heap.size ≤ w2.heap.size := (by have := hb.size; ((try simp at this) <;> omega))
    have H2 := Lib.hid (show Below w.heap.size w w2 by repeat (first | (with_reducible exact Below.refl _ _) | (with_reducible assumption) | ((with_reducible refine bl_alloc ?_ _ ?_); (focus ((first | omega | (simp <;> omega)); done))) | ((with_reducible refine bl_set ?_ _ ?_); (focus ((first | omega | (simp <;> omega)); done))) | (with_reducible refine below_drewN ?_ _) | (with_reducible refine Below.drew ?_) | ((with_reducible refine bl_trans ?_ hb ?_); (focus ((first | omega | (simp <;> omega)); done))) | ((with_reducible refine bl_trans ?_ H1.out ?_); (focus ((first | omega | (simp <;> omega)); done)))))
    have f0_0_2 := keeps hb f0_0_1
    have f0_1_2 := keeps hb f0_1_1
    have f0_2_2 := keeps hb f0_2_1
    have f0_3_2 := keeps hb f0_3_1
    have f0_4_2 := keeps hb f0_4_1
    have f0_5_2 := keeps hb f0_5_1
    have g0_2 : w.heap.size < w2.heap.size := block_of_cell f0_0_2
    have f1_0_2 := keeps hb f1_0_1
    have f1_1_2 := keeps hb f1_1_1
    have f1_2_2 := keeps hb f1_2_1
    have f1_3_2 := keeps hb f1_3_1
    have f1_4_2 := keeps hb f1_4_1
    have f1_5_2 := keeps hb f1_5_1
    have g1_2 : w.heap.size + 1 < w2.heap.size := block_of_cell f1_0_2
    clear hb f0_0_1 f0_1_1 f0_2_1 f0_3_1 f0_4_1 f0_5_1 g0_1 f1_0_1 f1_1_1 f1_2_1 f1_3_1 f1_4_1 f1_5_1 g1_1 H1
    go_wp2_with fail
    go_ret
    exact ⟨rfl, (by repeat (first | (with_reducible exact Below.refl _ _) | (with_reducible assumption) | ((with_reducible refine bl_alloc ?_ _ ?_); (focus ((first | omega | (simp <;> omega)); done))) | ((with_reducible refine bl_set ?_ _ ?_); (focus ((first | omega | (simp <;> omega)); done))) | (with_reducible refine below_drewN ?_ _) | (with_reducible refine Below.drew ?_) | ((with_reducible refine bl_trans ?_ H2.out ?_); (focus ((first | omega | (simp <;> omega)); done)))))⟩
  have hs1' : (s2_0.size : Int) + (x2_5.length : Int) ≤ 1048576 - (s0_0.size : Int) - (x0_5.length : Int) := by omega
  clear hs1
  go_enter Tryd.func4, Tryd.ntmps4
  go_wp2_with fail
  refine (szRadio_fits s0_0 a0_1 a0_2 a0_3 a0_4 _ x0_5 _ w.heap.size (by first | omega | (simp <;> omega)) (RdM.below r0_5 (by repeat (first | (with_reducible exact Below.refl _ _) | (with_reducible assumption) | ((with_reducible refine bl_alloc ?_ _ ?_); (focus ((first | omega | (simp <;> omega)); done))) | ((with_reducible refine bl_set ?_ _ ?_); (focus ((first | omega | (simp <;> omega)); done))) | (with_reducible refine below_drewN ?_ _) | (with_reducible refine Below.drew ?_)))) is0_0 _ (by omega) (by omega)).mono ?_
  rintro e w1 ⟨rfl, hb⟩
  have zz1 : w.heap.size + 1 + 1 ≤ w1.heap.size := (by have := hb.size; ((try simp at this) <;> omega))
  have H1 := Lib.hid (show Below w.heap.size w w1 by repeat (first | (with_reducible exact Below.refl _ _) | (with_reducible assumption) | ((with_reducible refine bl_alloc ?_ _ ?_); (focus ((first | omega | (simp <;> omega)); done))) | ((with_reducible refine bl_set ?_ _ ?_); (focus ((first | omega | (simp <;> omega)); done))) | (with_reducible refine below_drewN ?_ _) | (with_reducible refine Below.drew ?_) | ((with_reducible refine bl_trans ?_ hb ?_); (focus ((first | omega | (simp <;> omega)); done)))))
  have f0_0_1 := keeps hb (p := ⟨w.heap.size, 0, none⟩) (v := .string s0_0) (by simp [go_sem])
  have f0_1_1 := keeps hb (p := ⟨w.heap.size, 1, none⟩) (v := .int .i64 a0_1) (by simp [go_sem])
  have f0_2_1 := keeps hb (p := ⟨w.heap.size, 2, none⟩) (v := .int .i64 a0_2) (by simp [go_sem])
  have f0_3_1 := keeps hb (p := ⟨w.heap.size, 3, none⟩) (v := .int .i64 a0_3) (by simp [go_sem])
  have f0_4_1 := keeps hb (p := ⟨w.heap.size, 4, none⟩) (v := .int .i64 a0_4) (by simp [go_sem])
  have f0_5_1 := keeps hb (p := ⟨w.heap.size, 5, none⟩) (v := v0_5) (by simp [go_sem])
  have g0_1 : w.heap.size < w1.heap.size := block_of_cell f0_0_1
  have f1_0_1 := keeps hb (p := ⟨w.heap.size + 1, 0, none⟩) (v := .string s2_0) (by simp [go_sem])
  have f1_1_1 := keeps hb (p := ⟨w.heap.size + 1, 1, none⟩) (v := .int .i64 a2_1) (by simp [go_sem])
  have f1_2_1 := keeps hb (p := ⟨w.heap.size + 1, 2, none⟩) (v := .int .i64 a2_2) (by simp [go_sem])
  have f1_3_1 := keeps hb (p := ⟨w.heap.size + 1, 3, none⟩) (v := .int .i64 a2_3) (by simp [go_sem])
  have f1_4_1 := keeps hb (p := ⟨w.heap.size + 1, 4, none⟩) (v := .int .i64 a2_4) (by simp [go_sem])
  have f1_5_1 := keeps hb (p := ⟨w.heap.size + 1, 5, none⟩) (v := v2_5) (by simp [go_sem])
  have g1_1 : w.heap.size + 1 < w1.heap.size := block_of_cell f1_0_1
  clear hb
  go_wp2_with fail
  refine (szRadio_fits s2_0 a2_1 a2_2 a2_3 a2_4 _ x2_5 _ w.heap.size (by first | omega | (simp <;> omega)) (RdM.below r2_5 (by repeat (first | (with_reducible exact Below.refl _ _) | (with_reducible assumption) | ((with_reducible refine bl_alloc ?_ _ ?_); (focus ((first | omega | (simp <;> omega)); done))) | ((with_reducible refine bl_set ?_ _ ?_); (focus ((first | omega | (simp <;> omega)); done))) | (with_reducible refine below_drewN ?_ _) | (with_reducible refine Below.drew ?_) | ((with_reducible refine bl_trans ?_ H1.out ?_); (focus ((first | omega | (simp <;> omega)); done)))))) is2_0 _ (by omega) (by omega)).mono ?_
  rintro e w2 ⟨rfl, hb⟩
  have zz2 : w1.heap.size ≤ w2.heap.size := (by have := hb.size; ((try simp at this) <;> omega))
  have H2 := Lib.hid (show Below w.heap.size w w2 by repeat (first | (with_reducible exact Below.refl _ _) | (with_reducible assumption) | ((with_reducible refine bl_alloc ?_ _ ?_); (focus ((first | omega | (simp <;> omega)); done))) | ((with_reducible refine bl_set ?_ _ ?_); (focus ((first | omega | (simp <;> omega)); done))) | (with_reducible refine below_drewN ?_ _) | (with_reducible refine Below.drew ?_) | ((with_reducible refine bl_trans ?_ hb ?_); (focus ((first | omega | (simp <;> omega)); done))) | ((with_reducible refine bl_trans ?_ H1.out ?_); (focus ((first | omega | (simp <;> omega)); done)))))
  have f0_0_2 := keeps hb f0_0_1
  have f0_1_2 := keeps hb f0_1_1
  have f0_2_2 := keeps hb f0_2_1
  have f0_3_2 := keeps hb f0_3_1
  have f0_4_2 := keeps hb f0_4_1
  have f0_5_2 := keeps hb f0_5_1
  have g0_2 : w.heap.size < w2.heap.size := block_of_cell f0_0_2
  have f1_0_2 := keeps hb f1_0_1
  have f1_1_2 := keeps hb f1_1_1
  have f1_2_2 := keeps hb f1_2_1
  have f1_3_2 := keeps hb f1_3_1
  have f1_4_2 := keeps hb f1_4_1
  have f1_5_2 := keeps hb f1_5_1
  have g1_2 : w.heap.size + 1 < w2.heap.size := block_of_cell f1_0_2
  clear hb f0_0_1 f0_1_1 f0_2_1 f0_3_1 f0_4_1 f0_5_1 g0_1 f1_0_1 f1_1_1 f1_2_1 f1_3_1 f1_4_1 f1_5_1 g1_1 H1
  go_wp2_with fail
  go_region_held3 (fun w' => w'.cell? ⟨w.heap.size, 0, none⟩ = some (.string s0_0) ∧ w'.cell? ⟨w.heap.size, 1, none⟩ = some (.int .i64 a0_1) ∧ w'.cell? ⟨w.heap.size, 2, none⟩ = some (.int .i64 a0_2) ∧ w'.cell? ⟨w.heap.size, 3, none⟩ = some (.int .i64 a0_3) ∧ w'.cell? ⟨w.heap.size, 4, none⟩ = some (.int .i64 a0_4) ∧ w'.cell? ⟨w.heap.size, 5, none⟩ = some (v0_5) ∧ w'.cell? ⟨w.heap.size + 1, 0, none⟩ = some (.string s2_0) ∧ w'.cell? ⟨w.heap.size + 1, 1, none⟩ = some (.int .i64 a2_1) ∧ w'.cell? ⟨w.heap.size + 1, 2, none⟩ = some (.int .i64 a2_2) ∧ w'.cell? ⟨w.heap.size + 1, 3, none⟩ = some (.int .i64 a2_3) ∧ w'.cell? ⟨w.heap.size + 1, 4, none⟩ = some (.int .i64 a2_4) ∧ w'.cell? ⟨w.heap.size + 1, 5, none⟩ = some (v2_5))
    (first | (refine ⟨?_, ?_, ?_, ?_, ?_, ?_, ?_, ?_, ?_, ?_, ?_, ?_⟩ <;> assumption) | (go_split_ands; (refine ⟨?_, ?_, ?_, ?_, ?_, ?_, ?_, ?_, ?_, ?_, ?_, ?_⟩ <;> first | assumption | (refine keeps hb ?_; assumption))))
    (first
      | (go_at_call 10; ((with_reducible refine (toRadio_any s0_0 a0_1 a0_2 a0_3 a0_4 v0_5 x0_5 _ w.heap.size (by first | omega | (simp <;> omega)) (RdM.below r0_5 (by repeat (first | (with_reducible exact Below.refl _ _) | (with_reducible assumption) | ((with_reducible refine bl_alloc ?_ _ ?_); (focus ((first | omega | (simp <;> omega)); done))) | ((with_reducible refine bl_set ?_ _ ?_); (focus ((first | omega | (simp <;> omega)); done))) | (with_reducible refine below_drewN ?_ _) | (with_reducible refine Below.drew ?_) | ((with_reducible refine bl_trans ?_ H2.out ?_); (focus ((first | omega | (simp <;> omega)); done)))))) (by omega)).mono ?_); rintro e w3 ⟨A0, n0, c0, rfl, hr0, hb⟩; have zz3 : w2.heap.size ≤ w3.heap.size := (by have := hb.size; ((try simp at this) <;> omega)); have H3 := Lib.hid (show Below w.heap.size w w3 by repeat (first | (with_reducible exact Below.refl _ _) | (with_reducible assumption) | ((with_reducible refine bl_alloc ?_ _ ?_); (focus ((first | omega | (simp <;> omega)); done))) | ((with_reducible refine bl_set ?_ _ ?_); (focus ((first | omega | (simp <;> omega)); done))) | (with_reducible refine below_drewN ?_ _) | (with_reducible refine Below.drew ?_) | ((with_reducible refine bl_trans ?_ hb ?_); (focus ((first | omega | (simp <;> omega)); done))) | ((with_reducible refine bl_trans ?_ H2.out ?_); (focus ((first | omega | (simp <;> omega)); done))))); have f0_0_3 := keeps1 hb f0_0_2; have f0_1_3 := keeps1 hb f0_1_2; have f0_2_3 := keeps1 hb f0_2_2; have f0_3_3 := keeps1 hb f0_3_2; have f0_4_3 := keeps1 hb f0_4_2; have f0_5_3 := keeps1 hb f0_5_2; have g0_3 : w.heap.size < w3.heap.size := block_of_cell f0_0_3; have f1_0_3 := keeps1 hb f1_0_2; have f1_1_3 := keeps1 hb f1_1_2; have f1_2_3 := keeps1 hb f1_2_2; have f1_3_3 := keeps1 hb f1_3_2; have f1_4_3 := keeps1 hb f1_4_2; have f1_5_3 := keeps1 hb f1_5_2; have g1_3 : w.heap.size + 1 < w3.heap.size := block_of_cell f1_0_3; have R0_3 := Lib.hid hr0; have RL0 := Lib.hid (show ∀ g, Value.ownBlock (.slice A0 n0 c0) = some g → w2.heap.size ≤ g ∧ g < w3.heap.size from fun g h => by have l1 := hr0.lt g h; ((try simp at l1) <;> omega)); clear f0_0_2 f0_1_2 f0_2_2 f0_3_2 f0_4_2 f0_5_2 g0_2 f1_0_2 f1_1_2 f1_2_2 f1_3_2 f1_4_2 f1_5_2 g1_2 hr0 H2))
      | (go_at_call 10; ((with_reducible refine (toRadio_any s2_0 a2_1 a2_2 a2_3 a2_4 v2_5 x2_5 _ w.heap.size (by first | omega | (simp <;> omega)) (RdM.below r2_5 (by repeat (first | (with_reducible exact Below.refl _ _) | (with_reducible assumption) | ((with_reducible refine bl_alloc ?_ _ ?_); (focus ((first | omega | (simp <;> omega)); done))) | ((with_reducible refine bl_set ?_ _ ?_); (focus ((first | omega | (simp <;> omega)); done))) | (with_reducible refine below_drewN ?_ _) | (with_reducible refine Below.drew ?_) | ((with_reducible refine bl_trans ?_ H3.out ?_); (focus ((first | omega | (simp <;> omega)); done)))))) (by omega)).mono ?_); rintro e w4 ⟨A1, n1, c1, rfl, hr1, hb⟩; have zz4 : w3.heap.size ≤ w4.heap.size := (by have := hb.size; ((try simp at this) <;> omega)); have H4 := Lib.hid (show Below w.heap.size w w4 by repeat (first | (with_reducible exact Below.refl _ _) | (with_reducible assumption) | ((with_reducible refine bl_alloc ?_ _ ?_); (focus ((first | omega | (simp <;> omega)); done))) | ((with_reducible refine bl_set ?_ _ ?_); (focus ((first | omega | (simp <;> omega)); done))) | (with_reducible refine below_drewN ?_ _) | (with_reducible refine Below.drew ?_) | ((with_reducible refine bl_trans ?_ hb ?_); (focus ((first | omega | (simp <;> omega)); done))) | ((with_reducible refine bl_trans ?_ H3.out ?_); (focus ((first | omega | (simp <;> omega)); done))))); have f0_0_4 := keeps hb f0_0_3; have f0_1_4 := keeps hb f0_1_3; have f0_2_4 := keeps hb f0_2_3; have f0_3_4 := keeps hb f0_3_3; have f0_4_4 := keeps hb f0_4_3; have f0_5_4 := keeps hb f0_5_3; have g0_4 : w.heap.size < w4.heap.size := block_of_cell f0_0_4; have f1_0_4 := keeps hb f1_0_3; have f1_1_4 := keeps hb f1_1_3; have f1_2_4 := keeps hb f1_2_3; have f1_3_4 := keeps hb f1_3_3; have f1_4_4 := keeps hb f1_4_3; have f1_5_4 := keeps hb f1_5_3; have g1_4 : w.heap.size + 1 < w4.heap.size := block_of_cell f1_0_4; have R0_4 := Lib.hid (RowM.later R0_3.out hb); have R1_4 := Lib.hid hr1; have RL1 := Lib.hid (show ∀ g, Value.ownBlock (.slice A1 n1 c1) = some g → w3.heap.size ≤ g ∧ g < w4.heap.size from fun g h => by have l1 := hr1.lt g h; ((try simp at l1) <;> omega)); clear f0_0_3 f0_1_3 f0_2_3 f0_3_3 f0_4_3 f0_5_3 g0_3 f1_0_3 f1_1_3 f1_2_3 f1_3_3 f1_4_3 f1_5_3 g1_3 R0_3 hr1 H3))
      | (go_at_call 13; ((with_reducible refine (spec_any _ s0_0 is0_0 a0_1 ia0_1 a0_2 ia0_2 a0_3 ia0_3 a0_4 ia0_4 _ x0_5 _ R0_4.out ix0_5 a1 ia1 s2_0 is2_0 a2_1 ia2_1 a2_2 ia2_2 a2_3 ia2_3 a2_4 ia2_4 _ x2_5 _ R1_4.out ix2_5 a3 ia3 a4 ia4).mono ?_); rintro e w5 ⟨rfl, hb⟩; have zz5 : w4.heap.size ≤ w5.heap.size := (by have := hb.size; ((try simp at this) <;> omega)); have H5 := Lib.hid (show Below w.heap.size w w5 by repeat (first | (with_reducible exact Below.refl _ _) | (with_reducible assumption) | ((with_reducible refine bl_alloc ?_ _ ?_); (focus ((first | omega | (simp <;> omega)); done))) | ((with_reducible refine bl_set ?_ _ ?_); (focus ((first | omega | (simp <;> omega)); done))) | (with_reducible refine below_drewN ?_ _) | (with_reducible refine Below.drew ?_) | ((with_reducible refine bl_trans ?_ hb ?_); (focus ((first | omega | (simp <;> omega)); done))) | ((with_reducible refine bl_trans ?_ H4.out ?_); (focus ((first | omega | (simp <;> omega)); done))))); have f0_0_5 := keeps hb f0_0_4; have f0_1_5 := keeps hb f0_1_4; have f0_2_5 := keeps hb f0_2_4; have f0_3_5 := keeps hb f0_3_4; have f0_4_5 := keeps hb f0_4_4; have f0_5_5 := keeps hb f0_5_4; have g0_5 : w.heap.size < w5.heap.size := block_of_cell f0_0_5; have f1_0_5 := keeps hb f1_0_4; have f1_1_5 := keeps hb f1_1_4; have f1_2_5 := keeps hb f1_2_4; have f1_3_5 := keeps hb f1_3_4; have f1_4_5 := keeps hb f1_4_4; have f1_5_5 := keeps hb f1_5_4; have g1_5 : w.heap.size + 1 < w5.heap.size := block_of_cell f1_0_5; clear f0_0_4 f0_1_4 f0_2_4 f0_3_4 f0_4_4 f0_5_4 g0_4 f1_0_4 f1_1_4 f1_2_4 f1_3_4 f1_4_4 f1_5_4 g1_4 R0_4 R1_4 H4)))
  go_wp2_with fail
  refine (toRadio_any s0_0 a0_1 a0_2 a0_3 a0_4 v0_5 x0_5 _ w.heap.size (by first | omega | (simp <;> omega)) (RdM.below r0_5 (by repeat (first | (with_reducible exact Below.refl _ _) | (with_reducible assumption) | ((with_reducible refine bl_alloc ?_ _ ?_); (focus ((first | omega | (simp <;> omega)); done))) | ((with_reducible refine bl_set ?_ _ ?_); (focus ((first | omega | (simp <;> omega)); done))) | (with_reducible refine below_drewN ?_ _) | (with_reducible refine Below.drew ?_) | ((with_reducible refine bl_trans ?_ H5.out ?_); (focus ((first | omega | (simp <;> omega)); done)))))) (by omega)).mono ?_
  rintro e w6 ⟨A2, n2, c2, rfl, hr2, hb⟩
  have zz6 : w5.heap.size ≤ w6.heap.size := (by have := hb.size; ((try simp at this) <;> omega))
  have H6 := Lib.hid (show Below w.heap.size w w6 by repeat (first | (with_reducible exact Below.refl _ _) | (with_reducible assumption) | ((with_reducible refine bl_alloc ?_ _ ?_); (focus ((first | omega | (simp <;> omega)); done))) | ((with_reducible refine bl_set ?_ _ ?_); (focus ((first | omega | (simp <;> omega)); done))) | (with_reducible refine below_drewN ?_ _) | (with_reducible refine Below.drew ?_) | ((with_reducible refine bl_trans ?_ hb ?_); (focus ((first | omega | (simp <;> omega)); done))) | ((with_reducible refine bl_trans ?_ H5.out ?_); (focus ((first | omega | (simp <;> omega)); done)))))
  have f0_0_6 := keeps hb f0_0_5
  have f0_1_6 := keeps hb f0_1_5
  have f0_2_6 := keeps hb f0_2_5
  have f0_3_6 := keeps hb f0_3_5
  have f0_4_6 := keeps hb f0_4_5
  have f0_5_6 := keeps hb f0_5_5
  have g0_6 : w.heap.size < w6.heap.size := block_of_cell f0_0_6
  have f1_0_6 := keeps hb f1_0_5
  have f1_1_6 := keeps hb f1_1_5
  have f1_2_6 := keeps hb f1_2_5
  have f1_3_6 := keeps hb f1_3_5
  have f1_4_6 := keeps hb f1_4_5
  have f1_5_6 := keeps hb f1_5_5
  have g1_6 : w.heap.size + 1 < w6.heap.size := block_of_cell f1_0_6
  have R2_6 := Lib.hid hr2
  have RL2 := Lib.hid (show ∀ g, Value.ownBlock (.slice A2 n2 c2) = some g → w5.heap.size ≤ g ∧ g < w6.heap.size from fun g h => by have l1 := hr2.lt g h; ((try simp at l1) <;> omega))
  clear hb f0_0_5 f0_1_5 f0_2_5 f0_3_5 f0_4_5 f0_5_5 g0_5 f1_0_5 f1_1_5 f1_2_5 f1_3_5 f1_4_5 f1_5_5 g1_5 hr2 H5
  go_wp2_with fail
  refine (toRadio_any s2_0 a2_1 a2_2 a2_3 a2_4 v2_5 x2_5 _ w.heap.size (by first | omega | (simp <;> omega)) (RdM.below r2_5 (by repeat (first | (with_reducible exact Below.refl _ _) | (with_reducible assumption) | ((with_reducible refine bl_alloc ?_ _ ?_); (focus ((first | omega | (simp <;> omega)); done))) | ((with_reducible refine bl_set ?_ _ ?_); (focus ((first | omega | (simp <;> omega)); done))) | (with_reducible refine below_drewN ?_ _) | (with_reducible refine Below.drew ?_) | ((with_reducible refine bl_trans ?_ H6.out ?_); (focus ((first | omega | (simp <;> omega)); done)))))) (by omega)).mono ?_
  rintro e w7 ⟨A3, n3, c3, rfl, hr3, hb⟩
  have zz7 : w6.heap.size + 1 ≤ w7.heap.size := (by have := hb.size; ((try simp at this) <;> omega))
  have H7 := Lib.hid (show Below w.heap.size w w7 by repeat (first | (with_reducible exact Below.refl _ _) | (with_reducible assumption) | ((with_reducible refine bl_alloc ?_ _ ?_); (focus ((first | omega | (simp <;> omega)); done))) | ((with_reducible refine bl_set ?_ _ ?_); (focus ((first | omega | (simp <;> omega)); done))) | (with_reducible refine below_drewN ?_ _) | (with_reducible refine Below.drew ?_) | ((with_reducible refine bl_trans ?_ hb ?_); (focus ((first | omega | (simp <;> omega)); done))) | ((with_reducible refine bl_trans ?_ H6.out ?_); (focus ((first | omega | (simp <;> omega)); done)))))
  have f0_0_7 := keeps hb (cell_alloc f0_0_6 _)
  have f0_1_7 := keeps hb (cell_alloc f0_1_6 _)
  have f0_2_7 := keeps hb (cell_alloc f0_2_6 _)
  have f0_3_7 := keeps hb (cell_alloc f0_3_6 _)
  have f0_4_7 := keeps hb (cell_alloc f0_4_6 _)
  have f0_5_7 := keeps hb (cell_alloc f0_5_6 _)
  have g0_7 : w.heap.size < w7.heap.size := block_of_cell f0_0_7
  have f1_0_7 := keeps hb (cell_alloc f1_0_6 _)
  have f1_1_7 := keeps hb (cell_alloc f1_1_6 _)
  have f1_2_7 := keeps hb (cell_alloc f1_2_6 _)
  have f1_3_7 := keeps hb (cell_alloc f1_3_6 _)
  have f1_4_7 := keeps hb (cell_alloc f1_4_6 _)
  have f1_5_7 := keeps hb (cell_alloc f1_5_6 _)
  have g1_7 : w.heap.size + 1 < w7.heap.size := block_of_cell f1_0_7
  have f2_0_7 := keeps hb (p := ⟨w6.heap.size, 0, none⟩) (v := .string s0_0) (by simp [go_sem])
  have f2_1_7 := keeps hb (p := ⟨w6.heap.size, 1, none⟩) (v := .int .i64 a0_1) (by simp [go_sem])
  have f2_2_7 := keeps hb (p := ⟨w6.heap.size, 2, none⟩) (v := .int .i64 a0_2) (by simp [go_sem])
  have f2_3_7 := keeps hb (p := ⟨w6.heap.size, 3, none⟩) (v := .int .i64 a0_3) (by simp [go_sem])
  have f2_4_7 := keeps hb (p := ⟨w6.heap.size, 4, none⟩) (v := .int .i64 a0_4) (by simp [go_sem])
  have f2_5_7 := keeps hb (p := ⟨w6.heap.size, 5, none⟩) (v := (.slice A2 n2 c2)) (by simp [go_sem])
  have g2_7 : w6.heap.size < w7.heap.size := block_of_cell f2_0_7
  have R2_7 := Lib.hid (RowM.later (R2_6.out.alloc_ _) hb)
  have R3_7 := Lib.hid hr3
  have RL3 := Lib.hid (show ∀ g, Value.ownBlock (.slice A3 n3 c3) = some g → w6.heap.size + 1 ≤ g ∧ g < w7.heap.size from fun g h => by have l1 := hr3.lt g h; ((try simp at l1) <;> omega))
  clear hb f0_0_6 f0_1_6 f0_2_6 f0_3_6 f0_4_6 f0_5_6 g0_6 f1_0_6 f1_1_6 f1_2_6 f1_3_6 f1_4_6 f1_5_6 g1_6 R2_6 hr3 H6
  go_wp2_with fail
  refine (impl_any _ (PowTab.below HTab.out (by repeat (first | (with_reducible exact Below.refl _ _) | (with_reducible assumption) | ((with_reducible refine bl_alloc ?_ _ ?_); (focus ((first | omega | (simp <;> omega)); done))) | ((with_reducible refine bl_set ?_ _ ?_); (focus ((first | omega | (simp <;> omega)); done))) | (with_reducible refine below_drewN ?_ _) | (with_reducible refine Below.drew ?_) | ((with_reducible refine bl_trans ?_ H7.out ?_); (focus ((first | omega | (simp <;> omega)); done)))))) s0_0 is0_0 a0_1 ia0_1 a0_2 ia0_2 a0_3 ia0_3 a0_4 ia0_4 _ x0_5 _ (R2_7.out.alloc_ _) ix0_5 a1 ia1 s2_0 is2_0 a2_1 ia2_1 a2_2 ia2_2 a2_3 ia2_3 a2_4 ia2_4 _ x2_5 _ (R3_7.out.alloc_ _) ix2_5 a3 ia3 a4 ia4).mono ?_
  rintro e w8 ⟨rfl, hb⟩
  have zz8 : w7.heap.size + 1 ≤ w8.heap.size := (by have := hb.size; ((try simp at this) <;> omega))
  have H8 := Lib.hid (show Below w.heap.size w w8 by repeat (first | (with_reducible exact Below.refl _ _) | (with_reducible assumption) | ((with_reducible refine bl_alloc ?_ _ ?_); (focus ((first | omega | (simp <;> omega)); done))) | ((with_reducible refine bl_set ?_ _ ?_); (focus ((first | omega | (simp <;> omega)); done))) | (with_reducible refine below_drewN ?_ _) | (with_reducible refine Below.drew ?_) | ((with_reducible refine bl_trans ?_ hb ?_); (focus ((first | omega | (simp <;> omega)); done))) | ((with_reducible refine bl_trans ?_ H7.out ?_); (focus ((first | omega | (simp <;> omega)); done)))))
  have f0_0_8 := keeps hb (cell_alloc f0_0_7 _)
  have f0_1_8 := keeps hb (cell_alloc f0_1_7 _)
  have f0_2_8 := keeps hb (cell_alloc f0_2_7 _)
  have f0_3_8 := keeps hb (cell_alloc f0_3_7 _)
  have f0_4_8 := keeps hb (cell_alloc f0_4_7 _)
  have f0_5_8 := keeps hb (cell_alloc f0_5_7 _)
  have g0_8 : w.heap.size < w8.heap.size := block_of_cell f0_0_8
  have f1_0_8 := keeps hb (cell_alloc f1_0_7 _)
  have f1_1_8 := keeps hb (cell_alloc f1_1_7 _)
  have f1_2_8 := keeps hb (cell_alloc f1_2_7 _)
  have f1_3_8 := keeps hb (cell_alloc f1_3_7 _)
  have f1_4_8 := keeps hb (cell_alloc f1_4_7 _)
  have f1_5_8 := keeps hb (cell_alloc f1_5_7 _)
  have g1_8 : w.heap.size + 1 < w8.heap.size := block_of_cell f1_0_8
  have f2_0_8 := keeps hb (cell_alloc f2_0_7 _)
  have f2_1_8 := keeps hb (cell_alloc f2_1_7 _)
  have f2_2_8 := keeps hb (cell_alloc f2_2_7 _)
  have f2_3_8 := keeps hb (cell_alloc f2_3_7 _)
  have f2_4_8 := keeps hb (cell_alloc f2_4_7 _)
  have f2_5_8 := keeps hb (cell_alloc f2_5_7 _)
  have g2_8 : w6.heap.size < w8.heap.size := block_of_cell f2_0_8
  have f3_0_8 := keeps hb (p := ⟨w7.heap.size, 0, none⟩) (v := .string s2_0) (by simp [go_sem])
  have f3_1_8 := keeps hb (p := ⟨w7.heap.size, 1, none⟩) (v := .int .i64 a2_1) (by simp [go_sem])
  have f3_2_8 := keeps hb (p := ⟨w7.heap.size, 2, none⟩) (v := .int .i64 a2_2) (by simp [go_sem])
  have f3_3_8 := keeps hb (p := ⟨w7.heap.size, 3, none⟩) (v := .int .i64 a2_3) (by simp [go_sem])
  have f3_4_8 := keeps hb (p := ⟨w7.heap.size, 4, none⟩) (v := .int .i64 a2_4) (by simp [go_sem])
  have f3_5_8 := keeps hb (p := ⟨w7.heap.size, 5, none⟩) (v := (.slice A3 n3 c3)) (by simp [go_sem])
  have g3_8 : w7.heap.size < w8.heap.size := block_of_cell f3_0_8
  have R2_8 := Lib.hid (RowM.later (R2_7.out.alloc_ _) hb)
  have R3_8 := Lib.hid (RowM.later (R3_7.out.alloc_ _) hb)
  clear hb f0_0_7 f0_1_7 f0_2_7 f0_3_7 f0_4_7 f0_5_7 g0_7 f1_0_7 f1_1_7 f1_2_7 f1_3_7 f1_4_7 f1_5_7 g1_7 f2_0_7 f2_1_7 f2_2_7 f2_3_7 f2_4_7 f2_5_7 g2_7 R2_7 R3_7 H7
  go_wp2_with fail
  go_region_held3 (fun w' => w'.cell? ⟨w6.heap.size, 0, none⟩ = some (.string s0_0) ∧ w'.cell? ⟨w6.heap.size, 1, none⟩ = some (.int .i64 a0_1) ∧ w'.cell? ⟨w6.heap.size, 2, none⟩ = some (.int .i64 a0_2) ∧ w'.cell? ⟨w6.heap.size, 3, none⟩ = some (.int .i64 a0_3) ∧ w'.cell? ⟨w6.heap.size, 4, none⟩ = some (.int .i64 a0_4) ∧ w'.cell? ⟨w6.heap.size, 5, none⟩ = some ((.slice A2 n2 c2)) ∧ w'.cell? ⟨w.heap.size, 0, none⟩ = some (.string s0_0) ∧ w'.cell? ⟨w.heap.size, 1, none⟩ = some (.int .i64 a0_1) ∧ w'.cell? ⟨w.heap.size, 2, none⟩ = some (.int .i64 a0_2) ∧ w'.cell? ⟨w.heap.size, 3, none⟩ = some (.int .i64 a0_3) ∧ w'.cell? ⟨w.heap.size, 4, none⟩ = some (.int .i64 a0_4) ∧ w'.cell? ⟨w.heap.size, 5, none⟩ = some (v0_5))
    (first | (refine ⟨?_, ?_, ?_, ?_, ?_, ?_, ?_, ?_, ?_, ?_, ?_, ?_⟩ <;> assumption) | (go_split_ands; (refine ⟨?_, ?_, ?_, ?_, ?_, ?_, ?_, ?_, ?_, ?_, ?_, ?_⟩ <;> first | assumption | (refine keeps hb ?_; assumption))))
    (first
      | (go_at_call 10; ((with_reducible refine (toRadio_any s0_0 a0_1 a0_2 a0_3 a0_4 v0_5 x0_5 _ w.heap.size (by first | omega | (simp <;> omega)) (RdM.below r0_5 (by repeat (first | (with_reducible exact Below.refl _ _) | (with_reducible assumption) | ((with_reducible refine bl_alloc ?_ _ ?_); (focus ((first | omega | (simp <;> omega)); done))) | ((with_reducible refine bl_set ?_ _ ?_); (focus ((first | omega | (simp <;> omega)); done))) | (with_reducible refine below_drewN ?_ _) | (with_reducible refine Below.drew ?_) | ((with_reducible refine bl_trans ?_ H8.out ?_); (focus ((first | omega | (simp <;> omega)); done)))))) (by omega)).mono ?_); rintro e w9 ⟨A4, n4, c4, rfl, hr4, hb⟩; have zz9 : w8.heap.size ≤ w9.heap.size := (by have := hb.size; ((try simp at this) <;> omega)); have H9 := Lib.hid (show Below w.heap.size w w9 by repeat (first | (with_reducible exact Below.refl _ _) | (with_reducible assumption) | ((with_reducible refine bl_alloc ?_ _ ?_); (focus ((first | omega | (simp <;> omega)); done))) | ((with_reducible refine bl_set ?_ _ ?_); (focus ((first | omega | (simp <;> omega)); done))) | (with_reducible refine below_drewN ?_ _) | (with_reducible refine Below.drew ?_) | ((with_reducible refine bl_trans ?_ hb ?_); (focus ((first | omega | (simp <;> omega)); done))) | ((with_reducible refine bl_trans ?_ H8.out ?_); (focus ((first | omega | (simp <;> omega)); done))))); have f1_0_9 := keeps1 hb f1_0_8; have f1_1_9 := keeps1 hb f1_1_8; have f1_2_9 := keeps1 hb f1_2_8; have f1_3_9 := keeps1 hb f1_3_8; have f1_4_9 := keeps1 hb f1_4_8; have f1_5_9 := keeps1 hb f1_5_8; have g1_9 : w.heap.size + 1 < w9.heap.size := block_of_cell f1_0_9; have f3_0_9 := keeps1 hb f3_0_8; have f3_1_9 := keeps1 hb f3_1_8; have f3_2_9 := keeps1 hb f3_2_8; have f3_3_9 := keeps1 hb f3_3_8; have f3_4_9 := keeps1 hb f3_4_8; have f3_5_9 := keeps1 hb f3_5_8; have g3_9 : w7.heap.size < w9.heap.size := block_of_cell f3_0_9; have R2_9 := Lib.hid (RowM.later1 R2_8.out hb); have R3_9 := Lib.hid (RowM.later1 R3_8.out hb); have R4_9 := Lib.hid hr4; have RL4 := Lib.hid (show ∀ g, Value.ownBlock (.slice A4 n4 c4) = some g → w8.heap.size ≤ g ∧ g < w9.heap.size from fun g h => by have l1 := hr4.lt g h; ((try simp at l1) <;> omega)); clear f0_0_8 f0_1_8 f0_2_8 f0_3_8 f0_4_8 f0_5_8 g0_8 f1_0_8 f1_1_8 f1_2_8 f1_3_8 f1_4_8 f1_5_8 g1_8 f2_0_8 f2_1_8 f2_2_8 f2_3_8 f2_4_8 f2_5_8 g2_8 f3_0_8 f3_1_8 f3_2_8 f3_3_8 f3_4_8 f3_5_8 g3_8 R2_8 R3_8 hr4 H8))
      | (go_at_call 12; ((with_reducible refine (eqRadio_any s0_0 a0_1 a0_2 a0_3 a0_4 _ _ _ (x0_5) _ _ R2_9.out R4_9.out).mono ?_); rintro e w10 ⟨rfl, hb⟩; have zz10 : w9.heap.size ≤ w10.heap.size := (by have := hb.size; ((try simp at this) <;> omega)); have H10 := Lib.hid (show Below w.heap.size w w10 by repeat (first | (with_reducible exact Below.refl _ _) | (with_reducible assumption) | ((with_reducible refine bl_alloc ?_ _ ?_); (focus ((first | omega | (simp <;> omega)); done))) | ((with_reducible refine bl_set ?_ _ ?_); (focus ((first | omega | (simp <;> omega)); done))) | (with_reducible refine below_drewN ?_ _) | (with_reducible refine Below.drew ?_) | ((with_reducible refine bl_trans ?_ hb ?_); (focus ((first | omega | (simp <;> omega)); done))) | ((with_reducible refine bl_trans ?_ H9.out ?_); (focus ((first | omega | (simp <;> omega)); done))))); have f1_0_10 := keeps hb f1_0_9; have f1_1_10 := keeps hb f1_1_9; have f1_2_10 := keeps hb f1_2_9; have f1_3_10 := keeps hb f1_3_9; have f1_4_10 := keeps hb f1_4_9; have f1_5_10 := keeps hb f1_5_9; have g1_10 : w.heap.size + 1 < w10.heap.size := block_of_cell f1_0_10; have f3_0_10 := keeps hb f3_0_9; have f3_1_10 := keeps hb f3_1_9; have f3_2_10 := keeps hb f3_2_9; have f3_3_10 := keeps hb f3_3_9; have f3_4_10 := keeps hb f3_4_9; have f3_5_10 := keeps hb f3_5_9; have g3_10 : w7.heap.size < w10.heap.size := block_of_cell f3_0_10; have R3_10 := Lib.hid (RowM.later R3_9.out hb); clear f1_0_9 f1_1_9 f1_2_9 f1_3_9 f1_4_9 f1_5_9 g1_9 f3_0_9 f3_1_9 f3_2_9 f3_3_9 f3_4_9 f3_5_9 g3_9 R2_9 R3_9 R4_9 H9)))
  go_wp2_with fail
  go_region_held3 (fun w' => w'.cell? ⟨w7.heap.size, 0, none⟩ = some (.string s2_0) ∧ w'.cell? ⟨w7.heap.size, 1, none⟩ = some (.int .i64 a2_1) ∧ w'.cell? ⟨w7.heap.size, 2, none⟩ = some (.int .i64 a2_2) ∧ w'.cell? ⟨w7.heap.size, 3, none⟩ = some (.int .i64 a2_3) ∧ w'.cell? ⟨w7.heap.size, 4, none⟩ = some (.int .i64 a2_4) ∧ w'.cell? ⟨w7.heap.size, 5, none⟩ = some ((.slice A3 n3 c3)) ∧ w'.cell? ⟨w.heap.size + 1, 0, none⟩ = some (.string s2_0) ∧ w'.cell? ⟨w.heap.size + 1, 1, none⟩ = some (.int .i64 a2_1) ∧ w'.cell? ⟨w.heap.size + 1, 2, none⟩ = some (.int .i64 a2_2) ∧ w'.cell? ⟨w.heap.size + 1, 3, none⟩ = some (.int .i64 a2_3) ∧ w'.cell? ⟨w.heap.size + 1, 4, none⟩ = some (.int .i64 a2_4) ∧ w'.cell? ⟨w.heap.size + 1, 5, none⟩ = some (v2_5))
    (first | (refine ⟨?_, ?_, ?_, ?_, ?_, ?_, ?_, ?_, ?_, ?_, ?_, ?_⟩ <;> assumption) | (go_split_ands; (refine ⟨?_, ?_, ?_, ?_, ?_, ?_, ?_, ?_, ?_, ?_, ?_, ?_⟩ <;> first | assumption | (refine keeps hb ?_; assumption))))
    (first
      | (go_at_call 10; ((with_reducible refine (toRadio_any s2_0 a2_1 a2_2 a2_3 a2_4 v2_5 x2_5 _ w.heap.size (by first | omega | (simp <;> omega)) (RdM.below r2_5 (by repeat (first | (with_reducible exact Below.refl _ _) | (with_reducible assumption) | ((with_reducible refine bl_alloc ?_ _ ?_); (focus ((first | omega | (simp <;> omega)); done))) | ((with_reducible refine bl_set ?_ _ ?_); (focus ((first | omega | (simp <;> omega)); done))) | (with_reducible refine below_drewN ?_ _) | (with_reducible refine Below.drew ?_) | ((with_reducible refine bl_trans ?_ H10.out ?_); (focus ((first | omega | (simp <;> omega)); done)))))) (by omega)).mono ?_); rintro e w11 ⟨A5, n5, c5, rfl, hr5, hb⟩; have zz11 : w10.heap.size ≤ w11.heap.size := (by have := hb.size; ((try simp at this) <;> omega)); have H11 := Lib.hid (show Below w.heap.size w w11 by repeat (first | (with_reducible exact Below.refl _ _) | (with_reducible assumption) | ((with_reducible refine bl_alloc ?_ _ ?_); (focus ((first | omega | (simp <;> omega)); done))) | ((with_reducible refine bl_set ?_ _ ?_); (focus ((first | omega | (simp <;> omega)); done))) | (with_reducible refine below_drewN ?_ _) | (with_reducible refine Below.drew ?_) | ((with_reducible refine bl_trans ?_ hb ?_); (focus ((first | omega | (simp <;> omega)); done))) | ((with_reducible refine bl_trans ?_ H10.out ?_); (focus ((first | omega | (simp <;> omega)); done))))); have R3_11 := Lib.hid (RowM.later1 R3_10.out hb); have R5_11 := Lib.hid hr5; have RL5 := Lib.hid (show ∀ g, Value.ownBlock (.slice A5 n5 c5) = some g → w10.heap.size ≤ g ∧ g < w11.heap.size from fun g h => by have l1 := hr5.lt g h; ((try simp at l1) <;> omega)); clear f1_0_10 f1_1_10 f1_2_10 f1_3_10 f1_4_10 f1_5_10 g1_10 f3_0_10 f3_1_10 f3_2_10 f3_3_10 f3_4_10 f3_5_10 g3_10 R3_10 hr5 H10))
      | (go_at_call 12; ((with_reducible refine (eqRadio_any s2_0 a2_1 a2_2 a2_3 a2_4 _ _ _ (x2_5) _ _ R3_11.out R5_11.out).mono ?_); rintro e w12 ⟨rfl, hb⟩; have zz12 : w11.heap.size ≤ w12.heap.size := (by have := hb.size; ((try simp at this) <;> omega)); have H12 := Lib.hid (show Below w.heap.size w w12 by repeat (first | (with_reducible exact Below.refl _ _) | (with_reducible assumption) | ((with_reducible refine bl_alloc ?_ _ ?_); (focus ((first | omega | (simp <;> omega)); done))) | ((with_reducible refine bl_set ?_ _ ?_); (focus ((first | omega | (simp <;> omega)); done))) | (with_reducible refine below_drewN ?_ _) | (with_reducible refine Below.drew ?_) | ((with_reducible refine bl_trans ?_ hb ?_); (focus ((first | omega | (simp <;> omega)); done))) | ((with_reducible refine bl_trans ?_ H11.out ?_); (focus ((first | omega | (simp <;> omega)); done))))); clear R3_11 R5_11 H11)))
  go_wp2_with fail
  go_ret
  exact ⟨rfl, (by repeat (first | (with_reducible exact Below.refl _ _) | (with_reducible assumption) | ((with_reducible refine bl_alloc ?_ _ ?_); (focus ((first | omega | (simp <;> omega)); done))) | ((with_reducible refine bl_set ?_ _ ?_); (focus ((first | omega | (simp <;> omega)); done))) | (with_reducible refine below_drewN ?_ _) | (with_reducible refine Below.drew ?_) | ((with_reducible refine bl_trans ?_ H12.out ?_); (focus ((first | omega | (simp <;> omega)); done)))))⟩
end Go.Proofs.YtlpjcebpfmhpnaaDoor.fnExactGreatestLoss
