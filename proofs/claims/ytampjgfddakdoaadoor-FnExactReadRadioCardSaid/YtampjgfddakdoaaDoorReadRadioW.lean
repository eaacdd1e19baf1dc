/-
  The walk of FnExactReadRadio: it returns true, and of what was there nothing has turned. The conditions are what its arguments' readings give.
-/
import Derived.Test.YtampjgfddakdoaaDoorRows
import Derived.Test.YtampjgfddakdoaaDoorLib
import Derived.Test.YtampjgfddakdoaaDoorShelf
import Derived.Test.YtampjgfddakdoaaDoorDec
import Derived.Test.YtampjgfddakdoaaDoorPow
import Derived.Test.YtampjgfddakdoaaDoorRdW
import Derived.Test.YtampjgfddakdoaaDoorInts
import Derived.Test.YtampjgfddakdoaaDoorIntsB
import Derived.Test.YtampjgfddakdoaaDoorOwn
import Derived.Test.YtampjgfddakdoaaDoorField
import Derived.Test.YtampjgfddakdoaaDoorNames
import Derived.Test.YtampjgfddakdoaaDoorRadioB
import Derived.Test.YtampjgfddakdoaaDoorArgs
import Derived.Test.YtampjgfddakdoaaDoorModes
import Derived.Test.YtampjgfddakdoaaDoorModesM
import Derived.Test.YtampjgfddakdoaaDoorRadio
import Derived.Test.YtampjgfddakdoaaDoorMk
import Derived.Test.YtampjgfddakdoaaDoorNumP
import Derived.Test.YtampjgfddakdoaaDoorNumS
import Derived.Test.YtampjgfddakdoaaDoorSplP
import Derived.Test.YtampjgfddakdoaaDoorSplS
import Derived.Test.YtampjgfddakdoaaDoorRdP
import Derived.Test.YtampjgfddakdoaaDoorRdS
import Derived.Test.YtampjgfddakdoaaDoorRdW
import Derived.Test.YtampjgfddakdoaaDoorRdD
import Derived.Test.YtampjgfddakdoaaDoorRdI
import Derived.Test.YtampjgfddakdoaaDoorRdC
import Derived.Test.YtampjgfddakdoaaDoorRadT
import Derived.Test.YtampjgfddakdoaaDoorRrP
import Derived.Test.YtampjgfddakdoaaDoorRrN
import Derived.Test.YtampjgfddakdoaaDoorRrS
import Derived.Test.YtampjgfddakdoaaDoorRrI
import Derived.Outline
import Derived.Deep.RegionHeld3
import Derived.Deep.DrawnRows
import Derived.Deep.DeepCutAuto
namespace Go.Proofs.YtampjgfddakdoaaDoor.fnExactReadRadio
open Go.RowKit Go.ChangeShapes Go.WideShapes Go.ChangeAt
set_option linter.unusedVariables false
set_option linter.unusedSimpArgs false

attribute [local go_sem ↓] Go.wp_at_zero Go.wp_at_succ
theorem spec_any (w : World) (s : ByteArray) (is : s.size ≤ maxLen) (hs : s.size ≤ 1048576) :
    Calls Tryd.prog 11 #[.string s] w fun e w' => ∃ A0 n0 c0, e = .returned (.tuple #[.agg #[.string (rrN s.data.toList), .int .i64 (rrV 1 s.data.toList), .int .i64 (rrV 2 s.data.toList), .int .i64 (rrV 3 s.data.toList), .int .i64 (rrV 4 s.data.toList), .slice A0 n0 c0], .bool (rrOk s.data.toList)]) ∧ RowM 57 w' w.heap.size (.slice A0 n0 c0) (rrMs s.data.toList) ∧ Below w.heap.size w w' := specReadRadio_any w s hs
theorem impl_any (w : World) (hT : RdTab w) (s : ByteArray) (is : s.size ≤ maxLen) (hs : s.size ≤ 1048576) :
    Calls Tryd.prog 12 #[.string s] w fun e w' => ∃ A0 n0 c0, e = .returned (.tuple #[.agg #[.string (rrN s.data.toList), .int .i64 (rrV 1 s.data.toList), .int .i64 (rrV 2 s.data.toList), .int .i64 (rrV 3 s.data.toList), .int .i64 (rrV 4 s.data.toList), .slice A0 n0 c0], .bool (rrOk s.data.toList)]) ∧ RowM 57 w' w.heap.size (.slice A0 n0 c0) (rrMs s.data.toList) ∧ Below w.heap.size w w' := implReadRadio_any w hT s hs
set_option maxRecDepth 20000 in
set_option maxHeartbeats 16000000 in
theorem walk (w : World) (hT : RdTab w) (s0 : ByteArray) (is0 : s0.size ≤ maxLen) :
    Calls Tryd.prog 4 #[.string s0] w fun e w' => e = .returned (.bool true) ∧ Below w.heap.size w w' := by
  have hml := rrMs_len s0.data.toList
  have HTab := Lib.hid hT
  clear hT
  by_cases ht0 : ¬ (s0.size : Int) ≤ 1048576
  · go_enter Tryd.func4, Tryd.ntmps4
    go_wp2_with fail
    go_ret
    exact ⟨rfl, by repeat (first | (with_reducible exact Below.refl _ _) | (with_reducible assumption) | ((with_reducible refine bl_alloc ?_ _ ?_); (focus ((first | omega | (simp <;> omega)); done))) | ((with_reducible refine bl_set ?_ _ ?_); (focus ((first | omega | (simp <;> omega)); done))) | (with_reducible refine below_drewN ?_ _) | (with_reducible refine Below.drew ?_))⟩
  have ht0' : (s0.size : Int) ≤ 1048576 := by omega
  clear ht0
  go_enter Tryd.func4, Tryd.ntmps4
  go_wp2_with fail
  refine (spec_any _ s0 is0 (by omega)).mono ?_
  rintro e w1 ⟨A0, n0, c0, rfl, hr0, hb⟩
  have zz1 : w.heap.size ≤ w1.heap.size := (by have := hb.size; ((try simp at this) <;> omega))
  have H1 := Lib.hid (show Below w.heap.size w w1 by repeat (first | (with_reducible exact Below.refl _ _) | (with_reducible assumption) | ((with_reducible refine bl_alloc ?_ _ ?_); (focus ((first | omega | (simp <;> omega)); done))) | ((with_reducible refine bl_set ?_ _ ?_); (focus ((first | omega | (simp <;> omega)); done))) | (with_reducible refine below_drewN ?_ _) | (with_reducible refine Below.drew ?_) | ((with_reducible refine bl_trans ?_ hb ?_); (focus ((first | omega | (simp <;> omega)); done)))))
  have R0_1 := Lib.hid hr0
  have RL0 := Lib.hid (show ∀ g, Value.ownBlock (.slice A0 n0 c0) = some g → w.heap.size ≤ g ∧ g < w1.heap.size from fun g h => by have l1 := hr0.lt g h; ((try simp at l1) <;> omega))
  clear hb hr0
  go_wp2_with fail
  refine (impl_any _ (RdTab.below HTab.out (by repeat (first | (with_reducible exact Below.refl _ _) | (with_reducible assumption) | ((with_reducible refine bl_alloc ?_ _ ?_); (focus ((first | omega | (simp <;> omega)); done))) | ((with_reducible refine bl_set ?_ _ ?_); (focus ((first | omega | (simp <;> omega)); done))) | (with_reducible refine below_drewN ?_ _) | (with_reducible refine Below.drew ?_) | ((with_reducible refine bl_trans ?_ H1.out ?_); (focus ((first | omega | (simp <;> omega)); done)))))) s0 is0 (by omega)).mono ?_
  rintro e w2 ⟨A1, n1, c1, rfl, hr1, hb⟩
  have zz2 : w1.heap.size + 1 ≤ w2.heap.size := (by have := hb.size; ((try simp at this) <;> omega))
  have H2 := Lib.hid (show Below w.heap.size w w2 by repeat (first | (with_reducible exact Below.refl _ _) | (with_reducible assumption) | ((with_reducible refine bl_alloc ?_ _ ?_); (focus ((first | omega | (simp <;> omega)); done))) | ((with_reducible refine bl_set ?_ _ ?_); (focus ((first | omega | (simp <;> omega)); done))) | (with_reducible refine below_drewN ?_ _) | (with_reducible refine Below.drew ?_) | ((with_reducible refine bl_trans ?_ hb ?_); (focus ((first | omega | (simp <;> omega)); done))) | ((with_reducible refine bl_trans ?_ H1.out ?_); (focus ((first | omega | (simp <;> omega)); done)))))
  have f0_0_2 := keeps hb (p := ⟨w1.heap.size, 0, none⟩) (v := .string (rrN s0.data.toList)) (by simp [go_sem])
  have f0_1_2 := keeps hb (p := ⟨w1.heap.size, 1, none⟩) (v := .int .i64 ((rrV 1 s0.data.toList))) (by simp [go_sem])
  have f0_2_2 := keeps hb (p := ⟨w1.heap.size, 2, none⟩) (v := .int .i64 ((rrV 2 s0.data.toList))) (by simp [go_sem])
  have f0_3_2 := keeps hb (p := ⟨w1.heap.size, 3, none⟩) (v := .int .i64 ((rrV 3 s0.data.toList))) (by simp [go_sem])
  have f0_4_2 := keeps hb (p := ⟨w1.heap.size, 4, none⟩) (v := .int .i64 ((rrV 4 s0.data.toList))) (by simp [go_sem])
  have f0_5_2 := keeps hb (p := ⟨w1.heap.size, 5, none⟩) (v := (.slice A0 n0 c0)) (by simp [go_sem])
  have g0_2 : w1.heap.size < w2.heap.size := block_of_cell f0_0_2
  have R0_2 := Lib.hid (RowM.later (R0_1.out.alloc_ _) hb)
  have R1_2 := Lib.hid hr1
  have RL1 := Lib.hid (show ∀ g, Value.ownBlock (.slice A1 n1 c1) = some g → w1.heap.size + 1 ≤ g ∧ g < w2.heap.size from fun g h => by have l1 := hr1.lt g h; ((try simp at l1) <;> omega))
  clear hb R0_1 hr1 H1
  go_wp2_with fail
  refine (eqRadio_any ((rrN s0.data.toList)) ((rrV 1 s0.data.toList)) ((rrV 2 s0.data.toList)) ((rrV 3 s0.data.toList)) ((rrV 4 s0.data.toList)) _ _ _ ((rrMs s0.data.toList)) _ _ (R1_2.out.alloc_ _) (R0_2.out.alloc_ _)).mono ?_
  rintro e w3 ⟨rfl, hb⟩
  have zz3 : w2.heap.size + 1 ≤ w3.heap.size := (by have := hb.size; ((try simp at this) <;> omega))
  have H3 := Lib.hid (show Below w.heap.size w w3 by repeat (first | (with_reducible exact Below.refl _ _) | (with_reducible assumption) | ((with_reducible refine bl_alloc ?_ _ ?_); (focus ((first | omega | (simp <;> omega)); done))) | ((with_reducible refine bl_set ?_ _ ?_); (focus ((first | omega | (simp <;> omega)); done))) | (with_reducible refine below_drewN ?_ _) | (with_reducible refine Below.drew ?_) | ((with_reducible refine bl_trans ?_ hb ?_); (focus ((first | omega | (simp <;> omega)); done))) | ((with_reducible refine bl_trans ?_ H2.out ?_); (focus ((first | omega | (simp <;> omega)); done)))))
  have f0_0_3 := keeps hb (cell_alloc f0_0_2 _)
  have f0_1_3 := keeps hb (cell_alloc f0_1_2 _)
  have f0_2_3 := keeps hb (cell_alloc f0_2_2 _)
  have f0_3_3 := keeps hb (cell_alloc f0_3_2 _)
  have f0_4_3 := keeps hb (cell_alloc f0_4_2 _)
  have f0_5_3 := keeps hb (cell_alloc f0_5_2 _)
  have g0_3 : w1.heap.size < w3.heap.size := block_of_cell f0_0_3
  have f1_0_3 := keeps hb (p := ⟨w2.heap.size, 0, none⟩) (v := .string (rrN s0.data.toList)) (by simp [go_sem])
  have f1_1_3 := keeps hb (p := ⟨w2.heap.size, 1, none⟩) (v := .int .i64 ((rrV 1 s0.data.toList))) (by simp [go_sem])
  have f1_2_3 := keeps hb (p := ⟨w2.heap.size, 2, none⟩) (v := .int .i64 ((rrV 2 s0.data.toList))) (by simp [go_sem])
  have f1_3_3 := keeps hb (p := ⟨w2.heap.size, 3, none⟩) (v := .int .i64 ((rrV 3 s0.data.toList))) (by simp [go_sem])
  have f1_4_3 := keeps hb (p := ⟨w2.heap.size, 4, none⟩) (v := .int .i64 ((rrV 4 s0.data.toList))) (by simp [go_sem])
  have f1_5_3 := keeps hb (p := ⟨w2.heap.size, 5, none⟩) (v := (.slice A1 n1 c1)) (by simp [go_sem])
  have g1_3 : w2.heap.size < w3.heap.size := block_of_cell f1_0_3
  have R0_3 := Lib.hid (RowM.later (R0_2.out.alloc_ _) hb)
  have R1_3 := Lib.hid (RowM.later (R1_2.out.alloc_ _) hb)
  clear hb f0_0_2 f0_1_2 f0_2_2 f0_3_2 f0_4_2 f0_5_2 g0_2 R0_2 R1_2 H2
  go_wp2_with fail
  refine (markRadio_any ((rrN s0.data.toList)) ((rrV 1 s0.data.toList)) ((rrV 2 s0.data.toList)) ((rrV 3 s0.data.toList)) ((rrV 4 s0.data.toList)) _ _ _ ((rrMs s0.data.toList)) _ R1_3.out  (by omega) (by omega)).mono ?_
  rintro e w4 ⟨rfl, hr1, hb⟩
  have zz4 : w3.heap.size ≤ w4.heap.size := (by have := hb.size; ((try simp at this) <;> omega))
  have H4 := Lib.hid (show Below w.heap.size w w4 from Below.trans (by repeat (first | (with_reducible exact Below.refl _ _) | (with_reducible assumption) | ((with_reducible refine bl_alloc ?_ _ ?_); (focus ((first | omega | (simp <;> omega)); done))) | ((with_reducible refine bl_set ?_ _ ?_); (focus ((first | omega | (simp <;> omega)); done))) | (with_reducible refine below_drewN ?_ _) | (with_reducible refine Below.drew ?_) | ((with_reducible refine bl_trans ?_ H3.out ?_); (focus ((first | omega | (simp <;> omega)); done))))) (hb.below (by first | omega | (simp <;> omega)) (fun g hs => by have := (RL1.out g hs).1; omega)))
  have f0_0_4 := keepsW hb f0_0_3 (fun hs => by first | (exact HO1.out hs) | (have := RL1.out _ hs; ((try simp at this) <;> omega)))
  have f0_1_4 := keepsW hb f0_1_3 (fun hs => by first | (exact HO1.out hs) | (have := RL1.out _ hs; ((try simp at this) <;> omega)))
  have f0_2_4 := keepsW hb f0_2_3 (fun hs => by first | (exact HO1.out hs) | (have := RL1.out _ hs; ((try simp at this) <;> omega)))
  have f0_3_4 := keepsW hb f0_3_3 (fun hs => by first | (exact HO1.out hs) | (have := RL1.out _ hs; ((try simp at this) <;> omega)))
  have f0_4_4 := keepsW hb f0_4_3 (fun hs => by first | (exact HO1.out hs) | (have := RL1.out _ hs; ((try simp at this) <;> omega)))
  have f0_5_4 := keepsW hb f0_5_3 (fun hs => by first | (exact HO1.out hs) | (have := RL1.out _ hs; ((try simp at this) <;> omega)))
  have g0_4 : w1.heap.size < w4.heap.size := block_of_cell f0_0_4
  have f1_0_4 := keepsW hb f1_0_3 (fun hs => by first | (exact HO1.out hs) | (have := RL1.out _ hs; ((try simp at this) <;> omega)))
  have f1_1_4 := keepsW hb f1_1_3 (fun hs => by first | (exact HO1.out hs) | (have := RL1.out _ hs; ((try simp at this) <;> omega)))
  have f1_2_4 := keepsW hb f1_2_3 (fun hs => by first | (exact HO1.out hs) | (have := RL1.out _ hs; ((try simp at this) <;> omega)))
  have f1_3_4 := keepsW hb f1_3_3 (fun hs => by first | (exact HO1.out hs) | (have := RL1.out _ hs; ((try simp at this) <;> omega)))
  have f1_4_4 := keepsW hb f1_4_3 (fun hs => by first | (exact HO1.out hs) | (have := RL1.out _ hs; ((try simp at this) <;> omega)))
  have f1_5_4 := keepsW hb f1_5_3 (fun hs => by first | (exact HO1.out hs) | (have := RL1.out _ hs; ((try simp at this) <;> omega)))
  have g1_4 : w2.heap.size < w4.heap.size := block_of_cell f1_0_4
  have R0_4 := Lib.hid (RowM.writes R0_3.out hb (fun g h hs => by have h1 := RL0.out g h; have h2 := RL1.out g hs; omega))
  have R1_4 := Lib.hid hr1
  clear hb f0_0_3 f0_1_3 f0_2_3 f0_3_3 f0_4_3 f0_5_3 g0_3 f1_0_3 f1_1_3 f1_2_3 f1_3_3 f1_4_3 f1_5_3 g1_3 R0_3 R1_3 hr1 H3
  go_wp2_with fail
  refine (heldRadio_any ((rrN s0.data.toList)) ((rrV 1 s0.data.toList)) ((rrV 2 s0.data.toList)) ((rrV 3 s0.data.toList)) ((rrV 4 s0.data.toList)) _ _ _ _ _ R1_4.out (by omega) (by omega)).mono ?_
  rintro e w5 ⟨rfl, hb⟩
  have zz5 : w4.heap.size ≤ w5.heap.size := (by have := hb.size; ((try simp at this) <;> omega))
  have H5 := Lib.hid (show Below w.heap.size w w5 by repeat (first | (with_reducible exact Below.refl _ _) | (with_reducible assumption) | ((with_reducible refine bl_alloc ?_ _ ?_); (focus ((first | omega | (simp <;> omega)); done))) | ((with_reducible refine bl_set ?_ _ ?_); (focus ((first | omega | (simp <;> omega)); done))) | (with_reducible refine below_drewN ?_ _) | (with_reducible refine Below.drew ?_) | ((with_reducible refine bl_trans ?_ hb ?_); (focus ((first | omega | (simp <;> omega)); done))) | ((with_reducible refine bl_trans ?_ H4.out ?_); (focus ((first | omega | (simp <;> omega)); done)))))
  have f0_0_5 := keeps hb f0_0_4
  have f0_1_5 := keeps hb f0_1_4
  have f0_2_5 := keeps hb f0_2_4
  have f0_3_5 := keeps hb f0_3_4
  have f0_4_5 := keeps hb f0_4_4
  have f0_5_5 := keeps hb f0_5_4
  have g0_5 : w1.heap.size < w5.heap.size := block_of_cell f0_0_5
  have f1_0_5 := keeps hb f1_0_4
  have f1_1_5 := keeps hb f1_1_4
  have f1_2_5 := keeps hb f1_2_4
  have f1_3_5 := keeps hb f1_3_4
  have f1_4_5 := keeps hb f1_4_4
  have f1_5_5 := keeps hb f1_5_4
  have g1_5 : w2.heap.size < w5.heap.size := block_of_cell f1_0_5
  have R0_5 := Lib.hid (RowM.later R0_4.out hb)
  have R1_5 := Lib.hid (RowM.later R1_4.out hb)
  clear hb f0_0_4 f0_1_4 f0_2_4 f0_3_4 f0_4_4 f0_5_4 g0_4 f1_0_4 f1_1_4 f1_2_4 f1_3_4 f1_4_4 f1_5_4 g1_4 R0_4 R1_4 H4
  go_wp2_with fail
  refine (impl_any _ (RdTab.below HTab.out (by repeat (first | (with_reducible exact Below.refl _ _) | (with_reducible assumption) | ((with_reducible refine bl_alloc ?_ _ ?_); (focus ((first | omega | (simp <;> omega)); done))) | ((with_reducible refine bl_set ?_ _ ?_); (focus ((first | omega | (simp <;> omega)); done))) | (with_reducible refine below_drewN ?_ _) | (with_reducible refine Below.drew ?_) | ((with_reducible refine bl_trans ?_ H5.out ?_); (focus ((first | omega | (simp <;> omega)); done)))))) s0 is0 (by omega)).mono ?_
  rintro e w6 ⟨A2, n2, c2, rfl, hr2, hb⟩
  have zz6 : w5.heap.size ≤ w6.heap.size := (by have := hb.size; ((try simp at this) <;> omega))
  have H6 := Lib.hid (show Below w.heap.size w w6 by repeat (first | (with_reducible exact Below.refl _ _) | (with_reducible assumption) | ((with_reducible refine bl_alloc ?_ _ ?_); (focus ((first | omega | (simp <;> omega)); done))) | ((with_reducible refine bl_set ?_ _ ?_); (focus ((first | omega | (simp <;> omega)); done))) | (with_reducible refine below_drewN ?_ _) | (with_reducible refine Below.drew ?_) | ((with_reducible refine bl_trans ?_ hb ?_); (focus ((first | omega | (simp <;> omega)); done))) | ((with_reducible refine bl_trans ?_ H5.out ?_); (focus ((first | omega | (simp <;> omega)); done)))))
  have f0_0_6 := keeps hb f0_0_5
  have f0_1_6 := keeps hb f0_1_5
  have f0_2_6 := keeps hb f0_2_5
  have f0_3_6 := keeps hb f0_3_5
  have f0_4_6 := keeps hb f0_4_5
  have f0_5_6 := keeps hb f0_5_5
  have g0_6 : w1.heap.size < w6.heap.size := block_of_cell f0_0_6
  have f1_0_6 := keeps hb f1_0_5
  have f1_1_6 := keeps hb f1_1_5
  have f1_2_6 := keeps hb f1_2_5
  have f1_3_6 := keeps hb f1_3_5
  have f1_4_6 := keeps hb f1_4_5
  have f1_5_6 := keeps hb f1_5_5
  have g1_6 : w2.heap.size < w6.heap.size := block_of_cell f1_0_6
  have R0_6 := Lib.hid (RowM.later R0_5.out hb)
  have R1_6 := Lib.hid (RowM.later R1_5.out hb)
  have R2_6 := Lib.hid hr2
  have RL2 := Lib.hid (show ∀ g, Value.ownBlock (.slice A2 n2 c2) = some g → w5.heap.size ≤ g ∧ g < w6.heap.size from fun g h => by have l1 := hr2.lt g h; ((try simp at l1) <;> omega))
  clear hb f0_0_5 f0_1_5 f0_2_5 f0_3_5 f0_4_5 f0_5_5 g0_5 f1_0_5 f1_1_5 f1_2_5 f1_3_5 f1_4_5 f1_5_5 g1_5 R0_5 R1_5 hr2 H5
  go_wp2_with fail
  refine (eqRadio_any ((rrN s0.data.toList)) ((rrV 1 s0.data.toList)) ((rrV 2 s0.data.toList)) ((rrV 3 s0.data.toList)) ((rrV 4 s0.data.toList)) _ _ _ ((rrMs s0.data.toList)) _ _ (R2_6.out.alloc_ _) (R0_6.out.alloc_ _)).mono ?_
  rintro e w7 ⟨rfl, hb⟩
  have zz7 : w6.heap.size + 1 ≤ w7.heap.size := (by have := hb.size; ((try simp at this) <;> omega))
  have H7 := Lib.hid (show Below w.heap.size w w7 by repeat (first | (with_reducible exact Below.refl _ _) | (with_reducible assumption) | ((with_reducible refine bl_alloc ?_ _ ?_); (focus ((first | omega | (simp <;> omega)); done))) | ((with_reducible refine bl_set ?_ _ ?_); (focus ((first | omega | (simp <;> omega)); done))) | (with_reducible refine below_drewN ?_ _) | (with_reducible refine Below.drew ?_) | ((with_reducible refine bl_trans ?_ hb ?_); (focus ((first | omega | (simp <;> omega)); done))) | ((with_reducible refine bl_trans ?_ H6.out ?_); (focus ((first | omega | (simp <;> omega)); done)))))
  have f1_0_7 := keeps hb (cell_alloc f1_0_6 _)
  have f1_1_7 := keeps hb (cell_alloc f1_1_6 _)
  have f1_2_7 := keeps hb (cell_alloc f1_2_6 _)
  have f1_3_7 := keeps hb (cell_alloc f1_3_6 _)
  have f1_4_7 := keeps hb (cell_alloc f1_4_6 _)
  have f1_5_7 := keeps hb (cell_alloc f1_5_6 _)
  have g1_7 : w2.heap.size < w7.heap.size := block_of_cell f1_0_7
  have R1_7 := Lib.hid (RowM.later (R1_6.out.alloc_ _) hb)
  clear hb f0_0_6 f0_1_6 f0_2_6 f0_3_6 f0_4_6 f0_5_6 g0_6 f1_0_6 f1_1_6 f1_2_6 f1_3_6 f1_4_6 f1_5_6 g1_6 R0_6 R1_6 R2_6 H6
  go_wp2_with fail
  refine (heldRadio_any ((rrN s0.data.toList)) ((rrV 1 s0.data.toList)) ((rrV 2 s0.data.toList)) ((rrV 3 s0.data.toList)) ((rrV 4 s0.data.toList)) _ _ _ _ _ R1_7.out (by omega) (by omega)).mono ?_
  rintro e w8 ⟨rfl, hb⟩
  have zz8 : w7.heap.size ≤ w8.heap.size := (by have := hb.size; ((try simp at this) <;> omega))
  have H8 := Lib.hid (show Below w.heap.size w w8 by repeat (first | (with_reducible exact Below.refl _ _) | (with_reducible assumption) | ((with_reducible refine bl_alloc ?_ _ ?_); (focus ((first | omega | (simp <;> omega)); done))) | ((with_reducible refine bl_set ?_ _ ?_); (focus ((first | omega | (simp <;> omega)); done))) | (with_reducible refine below_drewN ?_ _) | (with_reducible refine Below.drew ?_) | ((with_reducible refine bl_trans ?_ hb ?_); (focus ((first | omega | (simp <;> omega)); done))) | ((with_reducible refine bl_trans ?_ H7.out ?_); (focus ((first | omega | (simp <;> omega)); done)))))
  clear hb f1_0_7 f1_1_7 f1_2_7 f1_3_7 f1_4_7 f1_5_7 g1_7 R1_7 H7
  go_wp2_with fail
  go_ret
  exact ⟨rfl, (by repeat (first | (with_reducible exact Below.refl _ _) | (with_reducible assumption) | ((with_reducible refine bl_alloc ?_ _ ?_); (focus ((first | omega | (simp <;> omega)); done))) | ((with_reducible refine bl_set ?_ _ ?_); (focus ((first | omega | (simp <;> omega)); done))) | (with_reducible refine below_drewN ?_ _) | (with_reducible refine Below.drew ?_) | ((with_reducible refine bl_trans ?_ H8.out ?_); (focus ((first | omega | (simp <;> omega)); done)))))⟩
end Go.Proofs.YtampjgfddakdoaaDoor.fnExactReadRadio
