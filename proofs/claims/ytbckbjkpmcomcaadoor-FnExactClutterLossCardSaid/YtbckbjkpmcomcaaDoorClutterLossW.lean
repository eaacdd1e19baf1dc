/-
  The walk of FnExactClutterLoss: it returns true, and of what was there nothing has turned. The conditions are what its arguments' readings give.
-/
import Derived.Test.YtbckbjkpmcomcaaDoorRows
import Derived.Test.YtbckbjkpmcomcaaDoorLib
import Derived.Test.YtbckbjkpmcomcaaDoorClutter
import Derived.Test.YtbckbjkpmcomcaaDoorInt
namespace Go.Proofs.YtbckbjkpmcomcaaDoor.fnExactClutterLoss
open Go.RowKit Go.ChangeShapes Go.WideShapes Go.ChangeAt
set_option linter.unusedVariables false
set_option linter.unusedSimpArgs false

def share (f : Int) : Int := if f ≤ 300000 then 50 else if f ≤ 1000000 then 75 else if f ≤ 3000000 then 100 else if f ≤ 10000000 then 125 else 150
theorem share_cases (f : Int) : (f ≤ 300000 ∧ share f = 50) ∨ (300000 < f ∧ f ≤ 1000000 ∧ share f = 75) ∨ (1000000 < f ∧ f ≤ 3000000 ∧ share f = 100) ∨ (3000000 < f ∧ f ≤ 10000000 ∧ share f = 125) ∨ (10000000 < f ∧ share f = 150) := by
  unfold share
  repeat' split
  all_goals omega
def lossOf (h l p a : Int) : Int := if h ≤ a then 0 else rdiv (p * l * (h - a)) (100 * h)
theorem loss_none {h l p a : Int} (k : h ≤ a) : lossOf h l p a = 0 := if_pos k
theorem loss_some {h l p a : Int} (k : ¬ h ≤ a) : lossOf h l p a = rdiv (p * l * (h - a)) (100 * h) := if_neg k
theorem step_at (w : World) : ((Instr.index 39 (Value.agg #[.int .i64 300000, .int .i64 1000000, .int .i64 3000000, .int .i64 10000000]) (.int .i64 0)).run Tryd.prog w = .ok (.int .i64 300000) w) ∧ ((Instr.index 39 (Value.agg #[.int .i64 300000, .int .i64 1000000, .int .i64 3000000, .int .i64 10000000]) (.int .i64 1)).run Tryd.prog w = .ok (.int .i64 1000000) w) ∧
    ((Instr.index 39 (Value.agg #[.int .i64 300000, .int .i64 1000000, .int .i64 3000000, .int .i64 10000000]) (.int .i64 2)).run Tryd.prog w = .ok (.int .i64 3000000) w) ∧ ((Instr.index 39 (Value.agg #[.int .i64 300000, .int .i64 1000000, .int .i64 3000000, .int .i64 10000000]) (.int .i64 3)).run Tryd.prog w = .ok (.int .i64 10000000) w) :=
  ⟨by kernel_rfl, by kernel_rfl, by kernel_rfl, by kernel_rfl⟩
def heights : List Int := [0, 20, 10, 120, 70, 90, 160, 240]
def weights : List Int := [0, 1000, 500, 12000, 8000, 10000, 16000, 20000]
theorem clutter_of {w : World} (hT : ClutterAt w) {k : Nat} (hk : k < 8) : (∃ s, w.cell? ⟨0, k * 3, none⟩ = some (.string s)) ∧ w.cell? ⟨0, k * 3 + 1, none⟩ = some (.int .i64 (heights.getD k 0)) ∧
    w.cell? ⟨0, k * 3 + 2, none⟩ = some (.int .i64 (weights.getD k 0)) ∧ 0 ≤ heights.getD k 0 ∧ heights.getD k 0 ≤ 240 ∧ 0 ≤ weights.getD k 0 ∧ weights.getD k 0 ≤ 20000 := by
  have h : k = 0 ∨ k = 1 ∨ k = 2 ∨ k = 3 ∨ k = 4 ∨ k = 5 ∨ k = 6 ∨ k = 7 := by omega
  rcases h with rfl | rfl | rfl | rfl | rfl | rfl | rfl | rfl
  · obtain ⟨c0, c1, c2⟩ := clutter_0 hT; exact ⟨⟨_, c0⟩, c1, c2, by decide, by decide, by decide, by decide⟩
  · obtain ⟨c0, c1, c2⟩ := clutter_1 hT; exact ⟨⟨_, c0⟩, c1, c2, by decide, by decide, by decide, by decide⟩
  · obtain ⟨c0, c1, c2⟩ := clutter_2 hT; exact ⟨⟨_, c0⟩, c1, c2, by decide, by decide, by decide, by decide⟩
  · obtain ⟨c0, c1, c2⟩ := clutter_3 hT; exact ⟨⟨_, c0⟩, c1, c2, by decide, by decide, by decide, by decide⟩
  · obtain ⟨c0, c1, c2⟩ := clutter_4 hT; exact ⟨⟨_, c0⟩, c1, c2, by decide, by decide, by decide, by decide⟩
  · obtain ⟨c0, c1, c2⟩ := clutter_5 hT; exact ⟨⟨_, c0⟩, c1, c2, by decide, by decide, by decide, by decide⟩
  · obtain ⟨c0, c1, c2⟩ := clutter_6 hT; exact ⟨⟨_, c0⟩, c1, c2, by decide, by decide, by decide, by decide⟩
  · obtain ⟨c0, c1, c2⟩ := clutter_7 hT; exact ⟨⟨_, c0⟩, c1, c2, by decide, by decide, by decide, by decide⟩
set_option maxHeartbeats 4000000 in
theorem clutterLoss_any (w : World) (hT : ClutterAt w) (k : Nat) (hk : k < 8) (f : Int) (f0 : 1 ≤ f) (f1 : f ≤ 100000000) (a : Int) (a0 : 0 ≤ a) (a1 : a ≤ 90000) :
    Calls Tryd.prog 26 #[.int .i64 k, .int .i64 f, .int .i64 a] w fun e w' => e = .returned (.int .i64 (lossOf (heights.getD k 0) (weights.getD k 0) (share f) a)) ∧ Below w.heap.size w w' := by
  obtain ⟨⟨s, c0⟩, c1, c2, h0, h1, l0, l1⟩ := clutter_of hT hk
  have z := clutter_pos hT
  clear hT
  have k0 : (0 : Int) ≤ (k : Int) := Int.natCast_nonneg _
  have k1 : (k : Int) < 8 := by omega
  generalize heights.getD k 0 = h at *
  generalize weights.getD k 0 = l at *
  by_cases ha : h ≤ a
  · rw [loss_none ha]
    go_enter Tryd.func26, Tryd.ntmps26
    go_wp2_with fail
    go_ret
    exact ⟨rfl, by repeat (first | (with_reducible exact Below.refl _ _) | (with_reducible assumption) | ((with_reducible refine bl_alloc ?_ _ ?_); (focus ((first | omega | (simp <;> omega)); done))) | ((with_reducible refine bl_set ?_ _ ?_); (focus ((first | omega | (simp <;> omega)); done))) | (with_reducible refine below_drewN ?_ _) | (with_reducible refine Below.drew ?_))⟩
  · rw [loss_some ha]
    have i0 := fun w => (step_at w).1
    have i1 := fun w => (step_at w).2.1
    have i2 := fun w => (step_at w).2.2.1
    have i3 := fun w => (step_at w).2.2.2
    rcases share_cases f with ⟨g1, e⟩ | ⟨g1, g2, e⟩ | ⟨g1, g2, e⟩ | ⟨g1, g2, e⟩ | ⟨g1, e⟩
    all_goals
      rw [e]
      clear e
    · obtain ⟨m1, m2⟩ := mul_nn (a := 50 * l) (b := h - a) (A := 3000000) (B := 240) (by omega) (by omega) (by omega) (by omega)
      go_enter Tryd.func26, Tryd.ntmps26
      go_wp2_with (first | ((with_reducible refine wp_loop_rounds 5 ?_); rw [rounds_succ]) | rw [rounds_succ])
      refine (divRound_any _ _ (by omega) (by omega) _).mono ?_
      rintro e w1 ⟨rfl, n', rfl⟩
      go_wp2_with fail
      go_ret
      exact ⟨rfl, by repeat (first | (with_reducible exact Below.refl _ _) | (with_reducible assumption) | ((with_reducible refine bl_alloc ?_ _ ?_); (focus ((first | omega | (simp <;> omega)); done))) | ((with_reducible refine bl_set ?_ _ ?_); (focus ((first | omega | (simp <;> omega)); done))) | (with_reducible refine below_drewN ?_ _) | (with_reducible refine Below.drew ?_))⟩
    · obtain ⟨m1, m2⟩ := mul_nn (a := 75 * l) (b := h - a) (A := 3000000) (B := 240) (by omega) (by omega) (by omega) (by omega)
      go_enter Tryd.func26, Tryd.ntmps26
      go_wp2_with (first | ((with_reducible refine wp_loop_rounds 5 ?_); rw [rounds_succ]) | rw [rounds_succ])
      refine (divRound_any _ _ (by omega) (by omega) _).mono ?_
      rintro e w1 ⟨rfl, n', rfl⟩
      go_wp2_with fail
      go_ret
      exact ⟨rfl, by repeat (first | (with_reducible exact Below.refl _ _) | (with_reducible assumption) | ((with_reducible refine bl_alloc ?_ _ ?_); (focus ((first | omega | (simp <;> omega)); done))) | ((with_reducible refine bl_set ?_ _ ?_); (focus ((first | omega | (simp <;> omega)); done))) | (with_reducible refine below_drewN ?_ _) | (with_reducible refine Below.drew ?_))⟩
    · obtain ⟨m1, m2⟩ := mul_nn (a := 100 * l) (b := h - a) (A := 3000000) (B := 240) (by omega) (by omega) (by omega) (by omega)
      go_enter Tryd.func26, Tryd.ntmps26
      go_wp2_with (first | ((with_reducible refine wp_loop_rounds 5 ?_); rw [rounds_succ]) | rw [rounds_succ])
      refine (divRound_any _ _ (by omega) (by omega) _).mono ?_
      rintro e w1 ⟨rfl, n', rfl⟩
      go_wp2_with fail
      go_ret
      exact ⟨rfl, by repeat (first | (with_reducible exact Below.refl _ _) | (with_reducible assumption) | ((with_reducible refine bl_alloc ?_ _ ?_); (focus ((first | omega | (simp <;> omega)); done))) | ((with_reducible refine bl_set ?_ _ ?_); (focus ((first | omega | (simp <;> omega)); done))) | (with_reducible refine below_drewN ?_ _) | (with_reducible refine Below.drew ?_))⟩
    · obtain ⟨m1, m2⟩ := mul_nn (a := 125 * l) (b := h - a) (A := 3000000) (B := 240) (by omega) (by omega) (by omega) (by omega)
      go_enter Tryd.func26, Tryd.ntmps26
      go_wp2_with (first | ((with_reducible refine wp_loop_rounds 5 ?_); rw [rounds_succ]) | rw [rounds_succ])
      refine (divRound_any _ _ (by omega) (by omega) _).mono ?_
      rintro e w1 ⟨rfl, n', rfl⟩
      go_wp2_with fail
      go_ret
      exact ⟨rfl, by repeat (first | (with_reducible exact Below.refl _ _) | (with_reducible assumption) | ((with_reducible refine bl_alloc ?_ _ ?_); (focus ((first | omega | (simp <;> omega)); done))) | ((with_reducible refine bl_set ?_ _ ?_); (focus ((first | omega | (simp <;> omega)); done))) | (with_reducible refine below_drewN ?_ _) | (with_reducible refine Below.drew ?_))⟩
    · obtain ⟨m1, m2⟩ := mul_nn (a := 150 * l) (b := h - a) (A := 3000000) (B := 240) (by omega) (by omega) (by omega) (by omega)
      go_enter Tryd.func26, Tryd.ntmps26
      go_wp2_with (first | ((with_reducible refine wp_loop_rounds 5 ?_); rw [rounds_succ]) | rw [rounds_succ])
      refine (divRound_any _ _ (by omega) (by omega) _).mono ?_
      rintro e w1 ⟨rfl, n', rfl⟩
      go_wp2_with fail
      go_ret
      exact ⟨rfl, by repeat (first | (with_reducible exact Below.refl _ _) | (with_reducible assumption) | ((with_reducible refine bl_alloc ?_ _ ?_); (focus ((first | omega | (simp <;> omega)); done))) | ((with_reducible refine bl_set ?_ _ ?_); (focus ((first | omega | (simp <;> omega)); done))) | (with_reducible refine below_drewN ?_ _) | (with_reducible refine Below.drew ?_))⟩
set_option maxHeartbeats 4000000 in
theorem l11Clutter_0 (w : World) (f : Int) (f0 : 1 ≤ f) (f1 : f ≤ 100000000) (a : Int) (a0 : 0 ≤ a) (a1 : a ≤ 90000) :
    Calls Tryd.prog 23 #[.int .i64 0, .int .i64 f, .int .i64 a] w fun e w' => e = .returned (.int .i64 (lossOf 0 0 (share f) a)) ∧ Below w.heap.size w w' := by
  by_cases ha : 0 ≤ a
  · rw [loss_none ha]
    go_enter Tryd.func23, Tryd.ntmps23
    go_wp2_with ((go_at_call 20; go_in))
    go_ret
    exact ⟨rfl, by repeat (first | (with_reducible exact Below.refl _ _) | (with_reducible assumption) | ((with_reducible refine bl_alloc ?_ _ ?_); (focus ((first | omega | (simp <;> omega)); done))) | ((with_reducible refine bl_set ?_ _ ?_); (focus ((first | omega | (simp <;> omega)); done))) | (with_reducible refine below_drewN ?_ _) | (with_reducible refine Below.drew ?_))⟩
  · omega
set_option maxHeartbeats 4000000 in
theorem l11Clutter_1 (w : World) (f : Int) (f0 : 1 ≤ f) (f1 : f ≤ 100000000) (a : Int) (a0 : 0 ≤ a) (a1 : a ≤ 90000) :
    Calls Tryd.prog 23 #[.int .i64 1, .int .i64 f, .int .i64 a] w fun e w' => e = .returned (.int .i64 (lossOf 20 1000 (share f) a)) ∧ Below w.heap.size w w' := by
  by_cases ha : 20 ≤ a
  · rw [loss_none ha]
    go_enter Tryd.func23, Tryd.ntmps23
    go_wp2_with ((go_at_call 20; go_in))
    go_ret
    exact ⟨rfl, by repeat (first | (with_reducible exact Below.refl _ _) | (with_reducible assumption) | ((with_reducible refine bl_alloc ?_ _ ?_); (focus ((first | omega | (simp <;> omega)); done))) | ((with_reducible refine bl_set ?_ _ ?_); (focus ((first | omega | (simp <;> omega)); done))) | (with_reducible refine below_drewN ?_ _) | (with_reducible refine Below.drew ?_))⟩
  · rw [loss_some ha]
    rcases share_cases f with ⟨g1, e⟩ | ⟨g1, g2, e⟩ | ⟨g1, g2, e⟩ | ⟨g1, g2, e⟩ | ⟨g1, e⟩
    all_goals
      rw [e]
      clear e
      go_enter Tryd.func23, Tryd.ntmps23
      go_wp2_with ((go_at_call 20; go_in))
      refine (l01Div_any _ _ (by omega) (by omega) _).mono ?_
      rintro e w1 ⟨rfl, rfl⟩
      go_wp2_with fail
      go_ret
      exact ⟨rfl, by repeat (first | (with_reducible exact Below.refl _ _) | (with_reducible assumption) | ((with_reducible refine bl_alloc ?_ _ ?_); (focus ((first | omega | (simp <;> omega)); done))) | ((with_reducible refine bl_set ?_ _ ?_); (focus ((first | omega | (simp <;> omega)); done))) | (with_reducible refine below_drewN ?_ _) | (with_reducible refine Below.drew ?_))⟩
set_option maxHeartbeats 4000000 in
theorem l11Clutter_2 (w : World) (f : Int) (f0 : 1 ≤ f) (f1 : f ≤ 100000000) (a : Int) (a0 : 0 ≤ a) (a1 : a ≤ 90000) :
    Calls Tryd.prog 23 #[.int .i64 2, .int .i64 f, .int .i64 a] w fun e w' => e = .returned (.int .i64 (lossOf 10 500 (share f) a)) ∧ Below w.heap.size w w' := by
  by_cases ha : 10 ≤ a
  · rw [loss_none ha]
    go_enter Tryd.func23, Tryd.ntmps23
    go_wp2_with ((go_at_call 20; go_in))
    go_ret
    exact ⟨rfl, by repeat (first | (with_reducible exact Below.refl _ _) | (with_reducible assumption) | ((with_reducible refine bl_alloc ?_ _ ?_); (focus ((first | omega | (simp <;> omega)); done))) | ((with_reducible refine bl_set ?_ _ ?_); (focus ((first | omega | (simp <;> omega)); done))) | (with_reducible refine below_drewN ?_ _) | (with_reducible refine Below.drew ?_))⟩
  · rw [loss_some ha]
    rcases share_cases f with ⟨g1, e⟩ | ⟨g1, g2, e⟩ | ⟨g1, g2, e⟩ | ⟨g1, g2, e⟩ | ⟨g1, e⟩
    all_goals
      rw [e]
      clear e
      go_enter Tryd.func23, Tryd.ntmps23
      go_wp2_with ((go_at_call 20; go_in))
      refine (l01Div_any _ _ (by omega) (by omega) _).mono ?_
      rintro e w1 ⟨rfl, rfl⟩
      go_wp2_with fail
      go_ret
      exact ⟨rfl, by repeat (first | (with_reducible exact Below.refl _ _) | (with_reducible assumption) | ((with_reducible refine bl_alloc ?_ _ ?_); (focus ((first | omega | (simp <;> omega)); done))) | ((with_reducible refine bl_set ?_ _ ?_); (focus ((first | omega | (simp <;> omega)); done))) | (with_reducible refine below_drewN ?_ _) | (with_reducible refine Below.drew ?_))⟩
set_option maxHeartbeats 4000000 in
theorem l11Clutter_3 (w : World) (f : Int) (f0 : 1 ≤ f) (f1 : f ≤ 100000000) (a : Int) (a0 : 0 ≤ a) (a1 : a ≤ 90000) :
    Calls Tryd.prog 23 #[.int .i64 3, .int .i64 f, .int .i64 a] w fun e w' => e = .returned (.int .i64 (lossOf 120 12000 (share f) a)) ∧ Below w.heap.size w w' := by
  by_cases ha : 120 ≤ a
  · rw [loss_none ha]
    go_enter Tryd.func23, Tryd.ntmps23
    go_wp2_with ((go_at_call 20; go_in))
    go_ret
    exact ⟨rfl, by repeat (first | (with_reducible exact Below.refl _ _) | (with_reducible assumption) | ((with_reducible refine bl_alloc ?_ _ ?_); (focus ((first | omega | (simp <;> omega)); done))) | ((with_reducible refine bl_set ?_ _ ?_); (focus ((first | omega | (simp <;> omega)); done))) | (with_reducible refine below_drewN ?_ _) | (with_reducible refine Below.drew ?_))⟩
  · rw [loss_some ha]
    rcases share_cases f with ⟨g1, e⟩ | ⟨g1, g2, e⟩ | ⟨g1, g2, e⟩ | ⟨g1, g2, e⟩ | ⟨g1, e⟩
    all_goals
      rw [e]
      clear e
      go_enter Tryd.func23, Tryd.ntmps23
      go_wp2_with ((go_at_call 20; go_in))
      refine (l01Div_any _ _ (by omega) (by omega) _).mono ?_
      rintro e w1 ⟨rfl, rfl⟩
      go_wp2_with fail
      go_ret
      exact ⟨rfl, by repeat (first | (with_reducible exact Below.refl _ _) | (with_reducible assumption) | ((with_reducible refine bl_alloc ?_ _ ?_); (focus ((first | omega | (simp <;> omega)); done))) | ((with_reducible refine bl_set ?_ _ ?_); (focus ((first | omega | (simp <;> omega)); done))) | (with_reducible refine below_drewN ?_ _) | (with_reducible refine Below.drew ?_))⟩
set_option maxHeartbeats 4000000 in
theorem l11Clutter_4 (w : World) (f : Int) (f0 : 1 ≤ f) (f1 : f ≤ 100000000) (a : Int) (a0 : 0 ≤ a) (a1 : a ≤ 90000) :
    Calls Tryd.prog 23 #[.int .i64 4, .int .i64 f, .int .i64 a] w fun e w' => e = .returned (.int .i64 (lossOf 70 8000 (share f) a)) ∧ Below w.heap.size w w' := by
  by_cases ha : 70 ≤ a
  · rw [loss_none ha]
    go_enter Tryd.func23, Tryd.ntmps23
    go_wp2_with ((go_at_call 20; go_in))
    go_ret
    exact ⟨rfl, by repeat (first | (with_reducible exact Below.refl _ _) | (with_reducible assumption) | ((with_reducible refine bl_alloc ?_ _ ?_); (focus ((first | omega | (simp <;> omega)); done))) | ((with_reducible refine bl_set ?_ _ ?_); (focus ((first | omega | (simp <;> omega)); done))) | (with_reducible refine below_drewN ?_ _) | (with_reducible refine Below.drew ?_))⟩
  · rw [loss_some ha]
    rcases share_cases f with ⟨g1, e⟩ | ⟨g1, g2, e⟩ | ⟨g1, g2, e⟩ | ⟨g1, g2, e⟩ | ⟨g1, e⟩
    all_goals
      rw [e]
      clear e
      go_enter Tryd.func23, Tryd.ntmps23
      go_wp2_with ((go_at_call 20; go_in))
      refine (l01Div_any _ _ (by omega) (by omega) _).mono ?_
      rintro e w1 ⟨rfl, rfl⟩
      go_wp2_with fail
      go_ret
      exact ⟨rfl, by repeat (first | (with_reducible exact Below.refl _ _) | (with_reducible assumption) | ((with_reducible refine bl_alloc ?_ _ ?_); (focus ((first | omega | (simp <;> omega)); done))) | ((with_reducible refine bl_set ?_ _ ?_); (focus ((first | omega | (simp <;> omega)); done))) | (with_reducible refine below_drewN ?_ _) | (with_reducible refine Below.drew ?_))⟩
set_option maxHeartbeats 4000000 in
theorem l11Clutter_5 (w : World) (f : Int) (f0 : 1 ≤ f) (f1 : f ≤ 100000000) (a : Int) (a0 : 0 ≤ a) (a1 : a ≤ 90000) :
    Calls Tryd.prog 23 #[.int .i64 5, .int .i64 f, .int .i64 a] w fun e w' => e = .returned (.int .i64 (lossOf 90 10000 (share f) a)) ∧ Below w.heap.size w w' := by
  by_cases ha : 90 ≤ a
  · rw [loss_none ha]
    go_enter Tryd.func23, Tryd.ntmps23
    go_wp2_with ((go_at_call 20; go_in))
    go_ret
    exact ⟨rfl, by repeat (first | (with_reducible exact Below.refl _ _) | (with_reducible assumption) | ((with_reducible refine bl_alloc ?_ _ ?_); (focus ((first | omega | (simp <;> omega)); done))) | ((with_reducible refine bl_set ?_ _ ?_); (focus ((first | omega | (simp <;> omega)); done))) | (with_reducible refine below_drewN ?_ _) | (with_reducible refine Below.drew ?_))⟩
  · rw [loss_some ha]
    rcases share_cases f with ⟨g1, e⟩ | ⟨g1, g2, e⟩ | ⟨g1, g2, e⟩ | ⟨g1, g2, e⟩ | ⟨g1, e⟩
    all_goals
      rw [e]
      clear e
      go_enter Tryd.func23, Tryd.ntmps23
      go_wp2_with ((go_at_call 20; go_in))
      refine (l01Div_any _ _ (by omega) (by omega) _).mono ?_
      rintro e w1 ⟨rfl, rfl⟩
      go_wp2_with fail
      go_ret
      exact ⟨rfl, by repeat (first | (with_reducible exact Below.refl _ _) | (with_reducible assumption) | ((with_reducible refine bl_alloc ?_ _ ?_); (focus ((first | omega | (simp <;> omega)); done))) | ((with_reducible refine bl_set ?_ _ ?_); (focus ((first | omega | (simp <;> omega)); done))) | (with_reducible refine below_drewN ?_ _) | (with_reducible refine Below.drew ?_))⟩
set_option maxHeartbeats 4000000 in
theorem l11Clutter_6 (w : World) (f : Int) (f0 : 1 ≤ f) (f1 : f ≤ 100000000) (a : Int) (a0 : 0 ≤ a) (a1 : a ≤ 90000) :
    Calls Tryd.prog 23 #[.int .i64 6, .int .i64 f, .int .i64 a] w fun e w' => e = .returned (.int .i64 (lossOf 160 16000 (share f) a)) ∧ Below w.heap.size w w' := by
  by_cases ha : 160 ≤ a
  · rw [loss_none ha]
    go_enter Tryd.func23, Tryd.ntmps23
    go_wp2_with ((go_at_call 20; go_in))
    go_ret
    exact ⟨rfl, by repeat (first | (with_reducible exact Below.refl _ _) | (with_reducible assumption) | ((with_reducible refine bl_alloc ?_ _ ?_); (focus ((first | omega | (simp <;> omega)); done))) | ((with_reducible refine bl_set ?_ _ ?_); (focus ((first | omega | (simp <;> omega)); done))) | (with_reducible refine below_drewN ?_ _) | (with_reducible refine Below.drew ?_))⟩
  · rw [loss_some ha]
    rcases share_cases f with ⟨g1, e⟩ | ⟨g1, g2, e⟩ | ⟨g1, g2, e⟩ | ⟨g1, g2, e⟩ | ⟨g1, e⟩
    all_goals
      rw [e]
      clear e
      go_enter Tryd.func23, Tryd.ntmps23
      go_wp2_with ((go_at_call 20; go_in))
      refine (l01Div_any _ _ (by omega) (by omega) _).mono ?_
      rintro e w1 ⟨rfl, rfl⟩
      go_wp2_with fail
      go_ret
      exact ⟨rfl, by repeat (first | (with_reducible exact Below.refl _ _) | (with_reducible assumption) | ((with_reducible refine bl_alloc ?_ _ ?_); (focus ((first | omega | (simp <;> omega)); done))) | ((with_reducible refine bl_set ?_ _ ?_); (focus ((first | omega | (simp <;> omega)); done))) | (with_reducible refine below_drewN ?_ _) | (with_reducible refine Below.drew ?_))⟩
set_option maxHeartbeats 4000000 in
theorem l11Clutter_7 (w : World) (f : Int) (f0 : 1 ≤ f) (f1 : f ≤ 100000000) (a : Int) (a0 : 0 ≤ a) (a1 : a ≤ 90000) :
    Calls Tryd.prog 23 #[.int .i64 7, .int .i64 f, .int .i64 a] w fun e w' => e = .returned (.int .i64 (lossOf 240 20000 (share f) a)) ∧ Below w.heap.size w w' := by
  by_cases ha : 240 ≤ a
  · rw [loss_none ha]
    go_enter Tryd.func23, Tryd.ntmps23
    go_wp2_with ((go_at_call 20; go_in))
    go_ret
    exact ⟨rfl, by repeat (first | (with_reducible exact Below.refl _ _) | (with_reducible assumption) | ((with_reducible refine bl_alloc ?_ _ ?_); (focus ((first | omega | (simp <;> omega)); done))) | ((with_reducible refine bl_set ?_ _ ?_); (focus ((first | omega | (simp <;> omega)); done))) | (with_reducible refine below_drewN ?_ _) | (with_reducible refine Below.drew ?_))⟩
  · rw [loss_some ha]
    rcases share_cases f with ⟨g1, e⟩ | ⟨g1, g2, e⟩ | ⟨g1, g2, e⟩ | ⟨g1, g2, e⟩ | ⟨g1, e⟩
    all_goals
      rw [e]
      clear e
      go_enter Tryd.func23, Tryd.ntmps23
      go_wp2_with ((go_at_call 20; go_in))
      refine (l01Div_any _ _ (by omega) (by omega) _).mono ?_
      rintro e w1 ⟨rfl, rfl⟩
      go_wp2_with fail
      go_ret
      exact ⟨rfl, by repeat (first | (with_reducible exact Below.refl _ _) | (with_reducible assumption) | ((with_reducible refine bl_alloc ?_ _ ?_); (focus ((first | omega | (simp <;> omega)); done))) | ((with_reducible refine bl_set ?_ _ ?_); (focus ((first | omega | (simp <;> omega)); done))) | (with_reducible refine below_drewN ?_ _) | (with_reducible refine Below.drew ?_))⟩
theorem l11Clutter_any (w : World) (k : Nat) (hk : k < 8) (f : Int) (f0 : 1 ≤ f) (f1 : f ≤ 100000000) (a : Int) (a0 : 0 ≤ a) (a1 : a ≤ 90000) :
    Calls Tryd.prog 23 #[.int .i64 k, .int .i64 f, .int .i64 a] w fun e w' => e = .returned (.int .i64 (lossOf (heights.getD k 0) (weights.getD k 0) (share f) a)) ∧ Below w.heap.size w w' := by
  have h : k = 0 ∨ k = 1 ∨ k = 2 ∨ k = 3 ∨ k = 4 ∨ k = 5 ∨ k = 6 ∨ k = 7 := by omega
  rcases h with rfl | rfl | rfl | rfl | rfl | rfl | rfl | rfl
  · exact l11Clutter_0 w f f0 f1 a a0 a1
  · exact l11Clutter_1 w f f0 f1 a a0 a1
  · exact l11Clutter_2 w f f0 f1 a a0 a1
  · exact l11Clutter_3 w f f0 f1 a a0 a1
  · exact l11Clutter_4 w f f0 f1 a a0 a1
  · exact l11Clutter_5 w f f0 f1 a a0 a1
  · exact l11Clutter_6 w f f0 f1 a a0 a1
  · exact l11Clutter_7 w f f0 f1 a a0 a1
def clutOk (n f a : Int) : Prop := 0 ≤ n ∧ n ≤ 7 ∧ 1 ≤ f ∧ f ≤ 100000000 ∧ 0 ≤ a ∧ a ≤ 90000
instance (n f a : Int) : Decidable (clutOk n f a) := by unfold clutOk; infer_instance
def clutM (n f a : Int) : Int × Int := if clutOk n f a then (lossOf (heights.getD n.toNat 0) (weights.getD n.toNat 0) (share f) a, 0) else (0, 2)
theorem clut_yes {k : Nat} {f a : Int} (h : clutOk k f a) : clutM k f a = (lossOf (heights.getD k 0) (weights.getD k 0) (share f) a, 0) := if_pos h
theorem clut_no {n f a : Int} (h : ¬ clutOk n f a) : clutM n f a = (0, 2) := if_neg h
set_option maxHeartbeats 4000000 in
theorem impl_any (w : World) (hT : ClutterAt w) (n : Int) (hn : In64 n) (f : Int) (hf : In64 f) (a : Int) (ha : In64 a) :
    Calls Tryd.prog 14 #[.int .i64 n, .int .i64 f, .int .i64 a] w fun e w' => e = .returned (.tuple #[.int .i64 (clutM n f a).1, .int .i64 (clutM n f a).2]) ∧ Below w.heap.size w w' := by
  have HT := Lib.hid hT
  clear hT
  rcases in_cases n 0 7 with ⟨h1, h2⟩ | h1 | ⟨h1, h2⟩
  · rcases in_cases f 1 100000000 with ⟨h3, h4⟩ | h3 | ⟨h3, h4⟩
    · rcases in_cases a 0 90000 with ⟨h5, h6⟩ | h5 | ⟨h5, h6⟩
      · obtain ⟨k, rfl⟩ : ∃ k : Nat, n = k := ⟨n.toNat, by omega⟩
        rw [clut_yes ⟨h1, h2, h3, h4, h5, h6⟩]
        go_enter Tryd.func14, Tryd.ntmps14
        go_wp2_with (first | (go_at_call 25; go_in) | (go_at_call 19; go_in) | (go_at_call 24; go_in))
        refine (clutterLoss_any _ HT.out k (by omega) f h3 h4 a h5 h6).mono ?_
        rintro e w1 ⟨rfl, hb⟩
        go_wp2_with fail
        go_ret2
        exact ⟨rfl, by repeat (first | (with_reducible exact Below.refl _ _) | (with_reducible assumption) | ((with_reducible refine bl_alloc ?_ _ ?_); (focus ((first | omega | (simp <;> omega)); done))) | ((with_reducible refine bl_set ?_ _ ?_); (focus ((first | omega | (simp <;> omega)); done))) | (with_reducible refine below_drewN ?_ _) | (with_reducible refine Below.drew ?_) | ((with_reducible refine bl_trans ?_ hb ?_); (focus ((first | omega | (simp <;> omega)); done))))⟩
      · rw [clut_no (fun h => dec_no h5 h.2.2.2.2.1)]
        go_enter Tryd.func14, Tryd.ntmps14
        go_wp2
        go_ret2
        exact ⟨rfl, Below.refl _ _⟩
      · rw [clut_no (fun h => dec_no h6 h.2.2.2.2.2)]
        go_enter Tryd.func14, Tryd.ntmps14
        go_wp2
        go_ret2
        exact ⟨rfl, Below.refl _ _⟩
    · rw [clut_no (fun h => dec_no h3 h.2.2.1)]
      go_enter Tryd.func14, Tryd.ntmps14
      go_wp2
      go_ret2
      exact ⟨rfl, Below.refl _ _⟩
    · rw [clut_no (fun h => dec_no h4 h.2.2.2.1)]
      go_enter Tryd.func14, Tryd.ntmps14
      go_wp2
      go_ret2
      exact ⟨rfl, Below.refl _ _⟩
  · rw [clut_no (fun h => dec_no h1 h.1)]
    go_enter Tryd.func14, Tryd.ntmps14
    go_wp2
    go_ret2
    exact ⟨rfl, Below.refl _ _⟩
  · rw [clut_no (fun h => dec_no h2 h.2.1)]
    go_enter Tryd.func14, Tryd.ntmps14
    go_wp2
    go_ret2
    exact ⟨rfl, Below.refl _ _⟩
set_option maxHeartbeats 4000000 in
theorem spec_any (w : World) (n : Int) (hn : In64 n) (f : Int) (hf : In64 f) (a : Int) (ha : In64 a) :
    Calls Tryd.prog 13 #[.int .i64 n, .int .i64 f, .int .i64 a] w fun e w' => e = .returned (.tuple #[.int .i64 (clutM n f a).1, .int .i64 (clutM n f a).2]) ∧ Below w.heap.size w w' := by
  rcases in_cases n 0 7 with ⟨h1, h2⟩ | h1 | ⟨h1, h2⟩
  · rcases in_cases f 1 100000000 with ⟨h3, h4⟩ | h3 | ⟨h3, h4⟩
    · rcases in_cases a 0 90000 with ⟨h5, h6⟩ | h5 | ⟨h5, h6⟩
      · obtain ⟨k, rfl⟩ : ∃ k : Nat, n = k := ⟨n.toNat, by omega⟩
        rw [clut_yes ⟨h1, h2, h3, h4, h5, h6⟩]
        go_enter Tryd.func13, Tryd.ntmps13
        go_wp2_with (first | (go_at_call 22; go_in) | (go_at_call 18; go_in) | (go_at_call 21; go_in))
        refine (l11Clutter_any _ k (by omega) f h3 h4 a h5 h6).mono ?_
        rintro e w1 ⟨rfl, hb⟩
        go_wp2_with fail
        go_ret2
        exact ⟨rfl, by repeat (first | (with_reducible exact Below.refl _ _) | (with_reducible assumption) | ((with_reducible refine bl_alloc ?_ _ ?_); (focus ((first | omega | (simp <;> omega)); done))) | ((with_reducible refine bl_set ?_ _ ?_); (focus ((first | omega | (simp <;> omega)); done))) | (with_reducible refine below_drewN ?_ _) | (with_reducible refine Below.drew ?_) | ((with_reducible refine bl_trans ?_ hb ?_); (focus ((first | omega | (simp <;> omega)); done))))⟩
      · rw [clut_no (fun h => dec_no h5 h.2.2.2.2.1)]
        go_enter Tryd.func13, Tryd.ntmps13
        go_wp2
        go_ret2
        exact ⟨rfl, Below.refl _ _⟩
      · rw [clut_no (fun h => dec_no h6 h.2.2.2.2.2)]
        go_enter Tryd.func13, Tryd.ntmps13
        go_wp2
        go_ret2
        exact ⟨rfl, Below.refl _ _⟩
    · rw [clut_no (fun h => dec_no h3 h.2.2.1)]
      go_enter Tryd.func13, Tryd.ntmps13
      go_wp2
      go_ret2
      exact ⟨rfl, Below.refl _ _⟩
    · rw [clut_no (fun h => dec_no h4 h.2.2.2.1)]
      go_enter Tryd.func13, Tryd.ntmps13
      go_wp2
      go_ret2
      exact ⟨rfl, Below.refl _ _⟩
  · rw [clut_no (fun h => dec_no h1 h.1)]
    go_enter Tryd.func13, Tryd.ntmps13
    go_wp2
    go_ret2
    exact ⟨rfl, Below.refl _ _⟩
  · rw [clut_no (fun h => dec_no h2 h.2.1)]
    go_enter Tryd.func13, Tryd.ntmps13
    go_wp2
    go_ret2
    exact ⟨rfl, Below.refl _ _⟩
theorem walk (w : World) (hT : ClutterAt w) (a0 : Int) (ia0 : In64 a0) (a1 : Int) (ia1 : In64 a1) (a2 : Int) (ia2 : In64 a2) :
    Calls Tryd.prog 6 #[.int .i64 a0, .int .i64 a1, .int .i64 a2] w fun e w' => e = .returned (.bool true) ∧ Below w.heap.size w w' := by
  have HT := Lib.hid hT
  clear hT
  go_enter Tryd.func6, Tryd.ntmps6
  go_wp2_with fail
  refine (spec_any _ a0 ia0 a1 ia1 a2 ia2).mono ?_
  rintro e w1 ⟨rfl, hb⟩
  have zz1 : w.heap.size ≤ w1.heap.size := (by have := hb.size; ((try simp at this) <;> omega))
  have H1 := Lib.hid (show Below w.heap.size w w1 by repeat (first | (with_reducible exact Below.refl _ _) | (with_reducible assumption) | ((with_reducible refine bl_alloc ?_ _ ?_); (focus ((first | omega | (simp <;> omega)); done))) | ((with_reducible refine bl_set ?_ _ ?_); (focus ((first | omega | (simp <;> omega)); done))) | (with_reducible refine below_drewN ?_ _) | (with_reducible refine Below.drew ?_) | ((with_reducible refine bl_trans ?_ hb ?_); (focus ((first | omega | (simp <;> omega)); done)))))
  clear hb
  go_wp2_with fail
  refine (impl_any _ (HT.out.later H1.out) a0 ia0 a1 ia1 a2 ia2).mono ?_
  rintro e w2 ⟨rfl, hb⟩
  have zz2 : w1.heap.size ≤ w2.heap.size := (by have := hb.size; ((try simp at this) <;> omega))
  have H2 := Lib.hid (show Below w.heap.size w w2 by repeat (first | (with_reducible exact Below.refl _ _) | (with_reducible assumption) | ((with_reducible refine bl_alloc ?_ _ ?_); (focus ((first | omega | (simp <;> omega)); done))) | ((with_reducible refine bl_set ?_ _ ?_); (focus ((first | omega | (simp <;> omega)); done))) | (with_reducible refine below_drewN ?_ _) | (with_reducible refine Below.drew ?_) | ((with_reducible refine bl_trans ?_ hb ?_); (focus ((first | omega | (simp <;> omega)); done))) | ((with_reducible refine bl_trans ?_ H1.out ?_); (focus ((first | omega | (simp <;> omega)); done)))))
  clear hb H1
  go_wp2_with fail
  go_ret
  exact ⟨rfl, (by repeat (first | (with_reducible exact Below.refl _ _) | (with_reducible assumption) | ((with_reducible refine bl_alloc ?_ _ ?_); (focus ((first | omega | (simp <;> omega)); done))) | ((with_reducible refine bl_set ?_ _ ?_); (focus ((first | omega | (simp <;> omega)); done))) | (with_reducible refine below_drewN ?_ _) | (with_reducible refine Below.drew ?_) | ((with_reducible refine bl_trans ?_ H2.out ?_); (focus ((first | omega | (simp <;> omega)); done)))))⟩
end Go.Proofs.YtbckbjkpmcomcaaDoor.fnExactClutterLoss
