/-
  The walk of FnExactClassNamed: it returns true, and of what was there nothing has turned. The conditions are what its arguments' readings give.
-/
import Derived.Test.YtbckbjkpmcomcaaDoorRows
import Derived.Test.YtbckbjkpmcomcaaDoorLib
import Derived.Test.YtbckbjkpmcomcaaDoorClutter
import Derived.BigQuiet
namespace Go.Proofs.YtbckbjkpmcomcaaDoor.fnExactClassNamed
open Go.RowKit Go.ChangeShapes Go.WideShapes Go.ChangeAt
set_option linter.unusedVariables false
set_option linter.unusedSimpArgs false

def name0 : List UInt8 := [111, 112, 101, 110]
def name1 : List UInt8 := [102, 105, 101, 108, 100]
def name2 : List UInt8 := [119, 97, 116, 101, 114]
def name3 : List UInt8 := [116, 114, 101, 101, 115]
def name4 : List UInt8 := [118, 105, 108, 108, 97, 103, 101]
def name5 : List UInt8 := [115, 117, 98, 117, 114, 98]
def name6 : List UInt8 := [116, 111, 119, 110]
def name7 : List UInt8 := [99, 105, 116, 121]
def clsM (s : ByteArray) : Int × Bool := if (name0 == s.toList) = true then (0, true) else if (name1 == s.toList) = true then (1, true) else if (name2 == s.toList) = true then (2, true) else if (name3 == s.toList) = true then (3, true) else if (name4 == s.toList) = true then (4, true) else if (name5 == s.toList) = true then (5, true) else if (name6 == s.toList) = true then (6, true) else if (name7 == s.toList) = true then (7, true) else (0, false)
theorem cls_none {s : ByteArray} (e0 : (name0 == s.toList) = false) (e1 : (name1 == s.toList) = false) (e2 : (name2 == s.toList) = false) (e3 : (name3 == s.toList) = false) (e4 : (name4 == s.toList) = false) (e5 : (name5 == s.toList) = false) (e6 : (name6 == s.toList) = false) (e7 : (name7 == s.toList) = false) : clsM s = (0, false) := by
  simp [clsM, e0, e1, e2, e3, e4, e5, e6, e7]
theorem cls_0 {s : ByteArray}  (e0 : (name0 == s.toList) = true) : clsM s = (0, true) := by
  simp [clsM, e0]
theorem cls_1 {s : ByteArray} (e0 : (name0 == s.toList) = false) (e1 : (name1 == s.toList) = true) : clsM s = (1, true) := by
  simp [clsM, e0, e1]
theorem cls_2 {s : ByteArray} (e0 : (name0 == s.toList) = false) (e1 : (name1 == s.toList) = false) (e2 : (name2 == s.toList) = true) : clsM s = (2, true) := by
  simp [clsM, e0, e1, e2]
theorem cls_3 {s : ByteArray} (e0 : (name0 == s.toList) = false) (e1 : (name1 == s.toList) = false) (e2 : (name2 == s.toList) = false) (e3 : (name3 == s.toList) = true) : clsM s = (3, true) := by
  simp [clsM, e0, e1, e2, e3]
theorem cls_4 {s : ByteArray} (e0 : (name0 == s.toList) = false) (e1 : (name1 == s.toList) = false) (e2 : (name2 == s.toList) = false) (e3 : (name3 == s.toList) = false) (e4 : (name4 == s.toList) = true) : clsM s = (4, true) := by
  simp [clsM, e0, e1, e2, e3, e4]
theorem cls_5 {s : ByteArray} (e0 : (name0 == s.toList) = false) (e1 : (name1 == s.toList) = false) (e2 : (name2 == s.toList) = false) (e3 : (name3 == s.toList) = false) (e4 : (name4 == s.toList) = false) (e5 : (name5 == s.toList) = true) : clsM s = (5, true) := by
  simp [clsM, e0, e1, e2, e3, e4, e5]
theorem cls_6 {s : ByteArray} (e0 : (name0 == s.toList) = false) (e1 : (name1 == s.toList) = false) (e2 : (name2 == s.toList) = false) (e3 : (name3 == s.toList) = false) (e4 : (name4 == s.toList) = false) (e5 : (name5 == s.toList) = false) (e6 : (name6 == s.toList) = true) : clsM s = (6, true) := by
  simp [clsM, e0, e1, e2, e3, e4, e5, e6]
theorem cls_7 {s : ByteArray} (e0 : (name0 == s.toList) = false) (e1 : (name1 == s.toList) = false) (e2 : (name2 == s.toList) = false) (e3 : (name3 == s.toList) = false) (e4 : (name4 == s.toList) = false) (e5 : (name5 == s.toList) = false) (e6 : (name6 == s.toList) = false) (e7 : (name7 == s.toList) = true) : clsM s = (7, true) := by
  simp [clsM, e0, e1, e2, e3, e4, e5, e6, e7]
theorem bool_cases (b : Bool) : b = true ∨ b = false := by cases b <;> simp
set_option maxHeartbeats 8000000 in
theorem spec_any (w : World) (s : ByteArray) (is : s.size ≤ maxLen) :
    Calls Tryd.prog 7 #[.string s] w fun e w' => e = .returned (.tuple #[.int .i64 (clsM s).1, .bool (clsM s).2]) ∧ Below w.heap.size w w' := by
  rcases bool_cases (name0 == s.toList) with e0 | e0
  · rw [cls_0 e0]
    unfold name0 at *
    go_enter Tryd.func7, Tryd.ntmps7
    go_wp2_with (first | ((with_reducible refine wp_loop_rounds 9 ?_); rw [rounds_succ]) | rw [rounds_succ] | go_in)
    go_ret2
    exact ⟨rfl, by repeat (first | (with_reducible exact Below.refl _ _) | (with_reducible assumption) | ((with_reducible refine bl_alloc ?_ _ ?_); (focus ((first | omega | (simp <;> omega)); done))) | ((with_reducible refine bl_set ?_ _ ?_); (focus ((first | omega | (simp <;> omega)); done))) | (with_reducible refine below_drewN ?_ _) | (with_reducible refine Below.drew ?_))⟩
  rcases bool_cases (name1 == s.toList) with e1 | e1
  · rw [cls_1 e0 e1]
    unfold name0 name1 at *
    go_enter Tryd.func7, Tryd.ntmps7
    go_wp2_with (first | ((with_reducible refine wp_loop_rounds 9 ?_); rw [rounds_succ]) | rw [rounds_succ] | go_in)
    go_ret2
    exact ⟨rfl, by repeat (first | (with_reducible exact Below.refl _ _) | (with_reducible assumption) | ((with_reducible refine bl_alloc ?_ _ ?_); (focus ((first | omega | (simp <;> omega)); done))) | ((with_reducible refine bl_set ?_ _ ?_); (focus ((first | omega | (simp <;> omega)); done))) | (with_reducible refine below_drewN ?_ _) | (with_reducible refine Below.drew ?_))⟩
  rcases bool_cases (name2 == s.toList) with e2 | e2
  · rw [cls_2 e0 e1 e2]
    unfold name0 name1 name2 at *
    go_enter Tryd.func7, Tryd.ntmps7
    go_wp2_with (first | ((with_reducible refine wp_loop_rounds 9 ?_); rw [rounds_succ]) | rw [rounds_succ] | go_in)
    go_ret2
    exact ⟨rfl, by repeat (first | (with_reducible exact Below.refl _ _) | (with_reducible assumption) | ((with_reducible refine bl_alloc ?_ _ ?_); (focus ((first | omega | (simp <;> omega)); done))) | ((with_reducible refine bl_set ?_ _ ?_); (focus ((first | omega | (simp <;> omega)); done))) | (with_reducible refine below_drewN ?_ _) | (with_reducible refine Below.drew ?_))⟩
  rcases bool_cases (name3 == s.toList) with e3 | e3
  · rw [cls_3 e0 e1 e2 e3]
    unfold name0 name1 name2 name3 at *
    go_enter Tryd.func7, Tryd.ntmps7
    go_wp2_with (first | ((with_reducible refine wp_loop_rounds 9 ?_); rw [rounds_succ]) | rw [rounds_succ] | go_in)
    go_ret2
    exact ⟨rfl, by repeat (first | (with_reducible exact Below.refl _ _) | (with_reducible assumption) | ((with_reducible refine bl_alloc ?_ _ ?_); (focus ((first | omega | (simp <;> omega)); done))) | ((with_reducible refine bl_set ?_ _ ?_); (focus ((first | omega | (simp <;> omega)); done))) | (with_reducible refine below_drewN ?_ _) | (with_reducible refine Below.drew ?_))⟩
  rcases bool_cases (name4 == s.toList) with e4 | e4
  · rw [cls_4 e0 e1 e2 e3 e4]
    unfold name0 name1 name2 name3 name4 at *
    go_enter Tryd.func7, Tryd.ntmps7
    go_wp2_with (first | ((with_reducible refine wp_loop_rounds 9 ?_); rw [rounds_succ]) | rw [rounds_succ] | go_in)
    go_ret2
    exact ⟨rfl, by repeat (first | (with_reducible exact Below.refl _ _) | (with_reducible assumption) | ((with_reducible refine bl_alloc ?_ _ ?_); (focus ((first | omega | (simp <;> omega)); done))) | ((with_reducible refine bl_set ?_ _ ?_); (focus ((first | omega | (simp <;> omega)); done))) | (with_reducible refine below_drewN ?_ _) | (with_reducible refine Below.drew ?_))⟩
  rcases bool_cases (name5 == s.toList) with e5 | e5
  · rw [cls_5 e0 e1 e2 e3 e4 e5]
    unfold name0 name1 name2 name3 name4 name5 at *
    go_enter Tryd.func7, Tryd.ntmps7
    go_wp2_with (first | ((with_reducible refine wp_loop_rounds 9 ?_); rw [rounds_succ]) | rw [rounds_succ] | go_in)
    go_ret2
    exact ⟨rfl, by repeat (first | (with_reducible exact Below.refl _ _) | (with_reducible assumption) | ((with_reducible refine bl_alloc ?_ _ ?_); (focus ((first | omega | (simp <;> omega)); done))) | ((with_reducible refine bl_set ?_ _ ?_); (focus ((first | omega | (simp <;> omega)); done))) | (with_reducible refine below_drewN ?_ _) | (with_reducible refine Below.drew ?_))⟩
  rcases bool_cases (name6 == s.toList) with e6 | e6
  · rw [cls_6 e0 e1 e2 e3 e4 e5 e6]
    unfold name0 name1 name2 name3 name4 name5 name6 at *
    go_enter Tryd.func7, Tryd.ntmps7
    go_wp2_with (first | ((with_reducible refine wp_loop_rounds 9 ?_); rw [rounds_succ]) | rw [rounds_succ] | go_in)
    go_ret2
    exact ⟨rfl, by repeat (first | (with_reducible exact Below.refl _ _) | (with_reducible assumption) | ((with_reducible refine bl_alloc ?_ _ ?_); (focus ((first | omega | (simp <;> omega)); done))) | ((with_reducible refine bl_set ?_ _ ?_); (focus ((first | omega | (simp <;> omega)); done))) | (with_reducible refine below_drewN ?_ _) | (with_reducible refine Below.drew ?_))⟩
  rcases bool_cases (name7 == s.toList) with e7 | e7
  · rw [cls_7 e0 e1 e2 e3 e4 e5 e6 e7]
    unfold name0 name1 name2 name3 name4 name5 name6 name7 at *
    go_enter Tryd.func7, Tryd.ntmps7
    go_wp2_with (first | ((with_reducible refine wp_loop_rounds 9 ?_); rw [rounds_succ]) | rw [rounds_succ] | go_in)
    go_ret2
    exact ⟨rfl, by repeat (first | (with_reducible exact Below.refl _ _) | (with_reducible assumption) | ((with_reducible refine bl_alloc ?_ _ ?_); (focus ((first | omega | (simp <;> omega)); done))) | ((with_reducible refine bl_set ?_ _ ?_); (focus ((first | omega | (simp <;> omega)); done))) | (with_reducible refine below_drewN ?_ _) | (with_reducible refine Below.drew ?_))⟩
  rw [cls_none e0 e1 e2 e3 e4 e5 e6 e7]
  unfold name0 name1 name2 name3 name4 name5 name6 name7 at *
  go_enter Tryd.func7, Tryd.ntmps7
  go_wp2_with (first | ((with_reducible refine wp_loop_rounds 9 ?_); rw [rounds_succ]) | rw [rounds_succ] | go_in)
  go_ret2
  exact ⟨rfl, by repeat (first | (with_reducible exact Below.refl _ _) | (with_reducible assumption) | ((with_reducible refine bl_alloc ?_ _ ?_); (focus ((first | omega | (simp <;> omega)); done))) | ((with_reducible refine bl_set ?_ _ ?_); (focus ((first | omega | (simp <;> omega)); done))) | (with_reducible refine below_drewN ?_ _) | (with_reducible refine Below.drew ?_))⟩
set_option maxHeartbeats 8000000 in
theorem impl_any (w : World) (hT : ClutterAt w) (s : ByteArray) (is : s.size ≤ maxLen) :
    Calls Tryd.prog 8 #[.string s] w fun e w' => e = .returned (.tuple #[.int .i64 (clsM s).1, .bool (clsM s).2]) ∧ Below w.heap.size w w' := by
  obtain ⟨c0, _, _⟩ := clutter_0 hT
  obtain ⟨c1, _, _⟩ := clutter_1 hT
  obtain ⟨c2, _, _⟩ := clutter_2 hT
  obtain ⟨c3, _, _⟩ := clutter_3 hT
  obtain ⟨c4, _, _⟩ := clutter_4 hT
  obtain ⟨c5, _, _⟩ := clutter_5 hT
  obtain ⟨c6, _, _⟩ := clutter_6 hT
  obtain ⟨c7, _, _⟩ := clutter_7 hT
  have z := clutter_pos hT
  clear hT
  rcases bool_cases (name0 == s.toList) with e0 | e0
  · rw [cls_0 e0]
    unfold name0 at *
    go_enter Tryd.func8, Tryd.ntmps8
    go_wp2_with (first | ((with_reducible refine wp_loop_rounds 9 ?_); rw [rounds_succ]) | rw [rounds_succ] | go_in | go_quiet (fail))
    go_ret2
    exact ⟨rfl, by repeat (first | (with_reducible exact Below.refl _ _) | (with_reducible assumption) | ((with_reducible refine bl_alloc ?_ _ ?_); (focus ((first | omega | (simp <;> omega)); done))) | ((with_reducible refine bl_set ?_ _ ?_); (focus ((first | omega | (simp <;> omega)); done))) | (with_reducible refine below_drewN ?_ _) | (with_reducible refine Below.drew ?_))⟩
  rcases bool_cases (name1 == s.toList) with e1 | e1
  · rw [cls_1 e0 e1]
    unfold name0 name1 at *
    go_enter Tryd.func8, Tryd.ntmps8
    go_wp2_with (first | ((with_reducible refine wp_loop_rounds 9 ?_); rw [rounds_succ]) | rw [rounds_succ] | go_in | go_quiet (fail))
    go_ret2
    exact ⟨rfl, by repeat (first | (with_reducible exact Below.refl _ _) | (with_reducible assumption) | ((with_reducible refine bl_alloc ?_ _ ?_); (focus ((first | omega | (simp <;> omega)); done))) | ((with_reducible refine bl_set ?_ _ ?_); (focus ((first | omega | (simp <;> omega)); done))) | (with_reducible refine below_drewN ?_ _) | (with_reducible refine Below.drew ?_))⟩
  rcases bool_cases (name2 == s.toList) with e2 | e2
  · rw [cls_2 e0 e1 e2]
    unfold name0 name1 name2 at *
    go_enter Tryd.func8, Tryd.ntmps8
    go_wp2_with (first | ((with_reducible refine wp_loop_rounds 9 ?_); rw [rounds_succ]) | rw [rounds_succ] | go_in | go_quiet (fail))
    go_ret2
    exact ⟨rfl, by repeat (first | (with_reducible exact Below.refl _ _) | (with_reducible assumption) | ((with_reducible refine bl_alloc ?_ _ ?_); (focus ((first | omega | (simp <;> omega)); done))) | ((with_reducible refine bl_set ?_ _ ?_); (focus ((first | omega | (simp <;> omega)); done))) | (with_reducible refine below_drewN ?_ _) | (with_reducible refine Below.drew ?_))⟩
  rcases bool_cases (name3 == s.toList) with e3 | e3
  · rw [cls_3 e0 e1 e2 e3]
    unfold name0 name1 name2 name3 at *
    go_enter Tryd.func8, Tryd.ntmps8
    go_wp2_with (first | ((with_reducible refine wp_loop_rounds 9 ?_); rw [rounds_succ]) | rw [rounds_succ] | go_in | go_quiet (fail))
    go_ret2
    exact ⟨rfl, by repeat (first | (with_reducible exact Below.refl _ _) | (with_reducible assumption) | ((with_reducible refine bl_alloc ?_ _ ?_); (focus ((first | omega | (simp <;> omega)); done))) | ((with_reducible refine bl_set ?_ _ ?_); (focus ((first | omega | (simp <;> omega)); done))) | (with_reducible refine below_drewN ?_ _) | (with_reducible refine Below.drew ?_))⟩
  rcases bool_cases (name4 == s.toList) with e4 | e4
  · rw [cls_4 e0 e1 e2 e3 e4]
    unfold name0 name1 name2 name3 name4 at *
    go_enter Tryd.func8, Tryd.ntmps8
    go_wp2_with (first | ((with_reducible refine wp_loop_rounds 9 ?_); rw [rounds_succ]) | rw [rounds_succ] | go_in | go_quiet (fail))
    go_ret2
    exact ⟨rfl, by repeat (first | (with_reducible exact Below.refl _ _) | (with_reducible assumption) | ((with_reducible refine bl_alloc ?_ _ ?_); (focus ((first | omega | (simp <;> omega)); done))) | ((with_reducible refine bl_set ?_ _ ?_); (focus ((first | omega | (simp <;> omega)); done))) | (with_reducible refine below_drewN ?_ _) | (with_reducible refine Below.drew ?_))⟩
  rcases bool_cases (name5 == s.toList) with e5 | e5
  · rw [cls_5 e0 e1 e2 e3 e4 e5]
    unfold name0 name1 name2 name3 name4 name5 at *
    go_enter Tryd.func8, Tryd.ntmps8
    go_wp2_with (first | ((with_reducible refine wp_loop_rounds 9 ?_); rw [rounds_succ]) | rw [rounds_succ] | go_in | go_quiet (fail))
    go_ret2
    exact ⟨rfl, by repeat (first | (with_reducible exact Below.refl _ _) | (with_reducible assumption) | ((with_reducible refine bl_alloc ?_ _ ?_); (focus ((first | omega | (simp <;> omega)); done))) | ((with_reducible refine bl_set ?_ _ ?_); (focus ((first | omega | (simp <;> omega)); done))) | (with_reducible refine below_drewN ?_ _) | (with_reducible refine Below.drew ?_))⟩
  rcases bool_cases (name6 == s.toList) with e6 | e6
  · rw [cls_6 e0 e1 e2 e3 e4 e5 e6]
    unfold name0 name1 name2 name3 name4 name5 name6 at *
    go_enter Tryd.func8, Tryd.ntmps8
    go_wp2_with (first | ((with_reducible refine wp_loop_rounds 9 ?_); rw [rounds_succ]) | rw [rounds_succ] | go_in | go_quiet (fail))
    go_ret2
    exact ⟨rfl, by repeat (first | (with_reducible exact Below.refl _ _) | (with_reducible assumption) | ((with_reducible refine bl_alloc ?_ _ ?_); (focus ((first | omega | (simp <;> omega)); done))) | ((with_reducible refine bl_set ?_ _ ?_); (focus ((first | omega | (simp <;> omega)); done))) | (with_reducible refine below_drewN ?_ _) | (with_reducible refine Below.drew ?_))⟩
  rcases bool_cases (name7 == s.toList) with e7 | e7
  · rw [cls_7 e0 e1 e2 e3 e4 e5 e6 e7]
    unfold name0 name1 name2 name3 name4 name5 name6 name7 at *
    go_enter Tryd.func8, Tryd.ntmps8
    go_wp2_with (first | ((with_reducible refine wp_loop_rounds 9 ?_); rw [rounds_succ]) | rw [rounds_succ] | go_in | go_quiet (fail))
    go_ret2
    exact ⟨rfl, by repeat (first | (with_reducible exact Below.refl _ _) | (with_reducible assumption) | ((with_reducible refine bl_alloc ?_ _ ?_); (focus ((first | omega | (simp <;> omega)); done))) | ((with_reducible refine bl_set ?_ _ ?_); (focus ((first | omega | (simp <;> omega)); done))) | (with_reducible refine below_drewN ?_ _) | (with_reducible refine Below.drew ?_))⟩
  rw [cls_none e0 e1 e2 e3 e4 e5 e6 e7]
  unfold name0 name1 name2 name3 name4 name5 name6 name7 at *
  go_enter Tryd.func8, Tryd.ntmps8
  go_wp2_with (first | ((with_reducible refine wp_loop_rounds 9 ?_); rw [rounds_succ]) | rw [rounds_succ] | go_in | go_quiet (fail))
  go_ret2
  exact ⟨rfl, by repeat (first | (with_reducible exact Below.refl _ _) | (with_reducible assumption) | ((with_reducible refine bl_alloc ?_ _ ?_); (focus ((first | omega | (simp <;> omega)); done))) | ((with_reducible refine bl_set ?_ _ ?_); (focus ((first | omega | (simp <;> omega)); done))) | (with_reducible refine below_drewN ?_ _) | (with_reducible refine Below.drew ?_))⟩
theorem walk (w : World) (hT : ClutterAt w) (s0 : ByteArray) (is0 : s0.size ≤ maxLen) :
    Calls Tryd.prog 3 #[.string s0] w fun e w' => e = .returned (.bool true) ∧ Below w.heap.size w w' := by
  have HT := Lib.hid hT
  clear hT
  by_cases hs : s0.size ≤ 1048576
  · go_enter Tryd.func3, Tryd.ntmps3
    go_wp2_with fail
    refine (spec_any _ s0 is0).mono ?_
    rintro e w1 ⟨rfl, hb⟩
    have zz1 : w.heap.size ≤ w1.heap.size := (by have := hb.size; ((try simp at this) <;> omega))
    have H1 := Lib.hid (show Below w.heap.size w w1 by repeat (first | (with_reducible exact Below.refl _ _) | (with_reducible assumption) | ((with_reducible refine bl_alloc ?_ _ ?_); (focus ((first | omega | (simp <;> omega)); done))) | ((with_reducible refine bl_set ?_ _ ?_); (focus ((first | omega | (simp <;> omega)); done))) | (with_reducible refine below_drewN ?_ _) | (with_reducible refine Below.drew ?_) | ((with_reducible refine bl_trans ?_ hb ?_); (focus ((first | omega | (simp <;> omega)); done)))))
    clear hb
    go_wp2_with fail
    refine (impl_any _ (HT.out.later H1.out) s0 is0).mono ?_
    rintro e w2 ⟨rfl, hb⟩
    have zz2 : w1.heap.size ≤ w2.heap.size := (by have := hb.size; ((try simp at this) <;> omega))
    have H2 := Lib.hid (show Below w.heap.size w w2 by repeat (first | (with_reducible exact Below.refl _ _) | (with_reducible assumption) | ((with_reducible refine bl_alloc ?_ _ ?_); (focus ((first | omega | (simp <;> omega)); done))) | ((with_reducible refine bl_set ?_ _ ?_); (focus ((first | omega | (simp <;> omega)); done))) | (with_reducible refine below_drewN ?_ _) | (with_reducible refine Below.drew ?_) | ((with_reducible refine bl_trans ?_ hb ?_); (focus ((first | omega | (simp <;> omega)); done))) | ((with_reducible refine bl_trans ?_ H1.out ?_); (focus ((first | omega | (simp <;> omega)); done)))))
    clear hb H1
    go_wp2_with fail
    go_ret
    exact ⟨rfl, (by repeat (first | (with_reducible exact Below.refl _ _) | (with_reducible assumption) | ((with_reducible refine bl_alloc ?_ _ ?_); (focus ((first | omega | (simp <;> omega)); done))) | ((with_reducible refine bl_set ?_ _ ?_); (focus ((first | omega | (simp <;> omega)); done))) | (with_reducible refine below_drewN ?_ _) | (with_reducible refine Below.drew ?_) | ((with_reducible refine bl_trans ?_ H2.out ?_); (focus ((first | omega | (simp <;> omega)); done)))))⟩
  · go_enter Tryd.func3, Tryd.ntmps3
    go_wp2_with fail
    go_ret
    exact ⟨rfl, Below.refl _ _⟩
end Go.Proofs.YtbckbjkpmcomcaaDoor.fnExactClassNamed
