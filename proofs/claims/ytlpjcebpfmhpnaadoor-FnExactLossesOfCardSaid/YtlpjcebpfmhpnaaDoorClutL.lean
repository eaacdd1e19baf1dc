/-
  Contracts of ClutterLoss: the program's and the reference's, as in the law's own text. The conditions are the hypotheses.
-/
import Derived.Test.YtlpjcebpfmhpnaaDoorRows
import Derived.Test.YtlpjcebpfmhpnaaDoorLib
import Derived.Test.YtlpjcebpfmhpnaaDoorClutter
import Derived.Test.YtlpjcebpfmhpnaaDoorInt
namespace Go.Proofs.YtlpjcebpfmhpnaaDoor.ofClutterLoss
open Go.RowKit
set_option linter.unusedSimpArgs false
set_option linter.unusedVariables false
def share (f : Int) : Int := if f ≤ 300000 then 50 else if f ≤ 1000000 then 75 else if f ≤ 3000000 then 100 else if f ≤ 10000000 then 125 else 150
theorem share_cases (f : Int) : (f ≤ 300000 ∧ share f = 50) ∨ (300000 < f ∧ f ≤ 1000000 ∧ share f = 75) ∨ (1000000 < f ∧ f ≤ 3000000 ∧ share f = 100) ∨ (3000000 < f ∧ f ≤ 10000000 ∧ share f = 125) ∨ (10000000 < f ∧ share f = 150) := by
  unfold share
  repeat' split
  all_goals omega
def lossOf (h l p a : Int) : Int := if h ≤ a then 0 else rdiv (p * l * (h - a)) (100 * h)
theorem loss_none {h l p a : Int} (k : h ≤ a) : lossOf h l p a = 0 := if_pos k
theorem loss_some {h l p a : Int} (k : ¬ h ≤ a) : lossOf h l p a = rdiv (p * l * (h - a)) (100 * h) := if_neg k
theorem step_at (w : World) : ((Instr.index 77 (Value.agg #[.int .i64 300000, .int .i64 1000000, .int .i64 3000000, .int .i64 10000000]) (.int .i64 0)).run Tryd.prog w = .ok (.int .i64 300000) w) ∧ ((Instr.index 77 (Value.agg #[.int .i64 300000, .int .i64 1000000, .int .i64 3000000, .int .i64 10000000]) (.int .i64 1)).run Tryd.prog w = .ok (.int .i64 1000000) w) ∧
    ((Instr.index 77 (Value.agg #[.int .i64 300000, .int .i64 1000000, .int .i64 3000000, .int .i64 10000000]) (.int .i64 2)).run Tryd.prog w = .ok (.int .i64 3000000) w) ∧ ((Instr.index 77 (Value.agg #[.int .i64 300000, .int .i64 1000000, .int .i64 3000000, .int .i64 10000000]) (.int .i64 3)).run Tryd.prog w = .ok (.int .i64 10000000) w) :=
  ⟨by kernel_rfl, by kernel_rfl, by kernel_rfl, by kernel_rfl⟩
def heights : List Int := [0, 20, 10, 120, 70, 90, 160, 240]
def weights : List Int := [0, 1000, 500, 12000, 8000, 10000, 16000, 20000]
theorem clutter_of {w : World} (hT : ClutterAt w) {k : Nat} (hk : k < 8) : (∃ s, w.cell? ⟨0, k * 3, none⟩ = some (.string s)) ∧ w.cell? ⟨0, k * 3 + 1, none⟩ = some (.int .i64 (heights.getD k 0)) ∧
    w.cell? ⟨0, k * 3 + 2, none⟩ = some (.int .i64 (weights.getD k 0)) ∧ 0 ≤ heights.getD k 0 ∧ heights.getD k 0 ≤ 240 ∧ 0 ≤ weights.getD k 0 ∧ weights.getD k 0 ≤ 20000 := by
  have h : k = 0 ∨ k = 1 ∨ k = 2 ∨ k = 3 ∨ k = 4 ∨ k = 5 ∨ k = 6 ∨ k = 7 := by omega
  rcases h with rfl | rfl | rfl | rfl | rfl | rfl | rfl | rfl
  · obtain ⟨c0, c1, c2⟩ := clutter_0 hT; exact ⟨⟨_, c0⟩, c1, c2, by decide, by decide, by decide, by decide⟩
  · obtain ⟨c0, c1, c2⟩ := clutter_1 hT; exact ⟨⟨_, c0⟩, c1, c2, by decide, by decide, by decide, by decide⟩
  · obtain ⟨c0, c1, c2⟩ := clutter_2 hT; exact ⟨⟨_, c0⟩, c1, c2, by decide, by decide, by decide, by decide⟩
  · obtain ⟨c0, c1, c2⟩ := clutter_3 hT; exact ⟨⟨_, c0⟩, c1, c2, by decide, by decide, by decide, by decide⟩
  · obtain ⟨c0, c1, c2⟩ := clutter_4 hT; exact ⟨⟨_, c0⟩, c1, c2, by decide, by decide, by decide, by decide⟩
  · obtain ⟨c0, c1, c2⟩ := clutter_5 hT; exact ⟨⟨_, c0⟩, c1, c2, by decide, by decide, by decide, by decide⟩
  · obtain ⟨c0, c1, c2⟩ := clutter_6 hT; exact ⟨⟨_, c0⟩, c1, c2, by decide, by decide, by decide, by decide⟩
  · obtain ⟨c0, c1, c2⟩ := clutter_7 hT; exact ⟨⟨_, c0⟩, c1, c2, by decide, by decide, by decide, by decide⟩
set_option maxHeartbeats 4000000 in
theorem clutterLoss_any (w : World) (hT : ClutterAt w) (k : Nat) (hk : k < 8) (f : Int) (f0 : 1 ≤ f) (f1 : f ≤ 100000000) (a : Int) (a0 : 0 ≤ a) (a1 : a ≤ 90000) :
    Calls Tryd.prog 58 #[.int .i64 k, .int .i64 f, .int .i64 a] w fun e w' => e = .returned (.int .i64 (lossOf (heights.getD k 0) (weights.getD k 0) (share f) a)) ∧ Below w.heap.size w w' := by
  obtain ⟨⟨s, c0⟩, c1, c2, h0, h1, l0, l1⟩ := clutter_of hT hk
  have z := clutter_pos hT
  clear hT
  have k0 : (0 : Int) ≤ (k : Int) := Int.natCast_nonneg _
  have k1 : (k : Int) < 8 := by omega
  generalize heights.getD k 0 = h at *
  generalize weights.getD k 0 = l at *
  by_cases ha : h ≤ a
  · rw [loss_none ha]
    go_enter Tryd.func58, Tryd.ntmps58
    go_wp2_with fail
    go_ret
    exact ⟨rfl, by repeat (first | (with_reducible exact Below.refl _ _) | (with_reducible assumption) | ((with_reducible refine bl_alloc ?_ _ ?_); (focus ((first | omega | (simp <;> omega)); done))) | ((with_reducible refine bl_set ?_ _ ?_); (focus ((first | omega | (simp <;> omega)); done))) | (with_reducible refine below_drewN ?_ _) | (with_reducible refine Below.drew ?_))⟩
  · rw [loss_some ha]
    have i0 := fun w => (step_at w).1
    have i1 := fun w => (step_at w).2.1
    have i2 := fun w => (step_at w).2.2.1
    have i3 := fun w => (step_at w).2.2.2
    rcases share_cases f with ⟨g1, e⟩ | ⟨g1, g2, e⟩ | ⟨g1, g2, e⟩ | ⟨g1, g2, e⟩ | ⟨g1, e⟩
    all_goals
      rw [e]
      clear e
    · obtain ⟨m1, m2⟩ := mul_nn (a := 50 * l) (b := h - a) (A := 3000000) (B := 240) (by omega) (by omega) (by omega) (by omega)
      go_enter Tryd.func58, Tryd.ntmps58
      go_wp2_with (first | ((with_reducible refine wp_loop_rounds 5 ?_); rw [rounds_succ]) | rw [rounds_succ])
      refine (divRound_any _ _ (by omega) (by omega) _).mono ?_
      rintro e w1 ⟨rfl, n', rfl⟩
      go_wp2_with fail
      go_ret
      exact ⟨rfl, by repeat (first | (with_reducible exact Below.refl _ _) | (with_reducible assumption) | ((with_reducible refine bl_alloc ?_ _ ?_); (focus ((first | omega | (simp <;> omega)); done))) | ((with_reducible refine bl_set ?_ _ ?_); (focus ((first | omega | (simp <;> omega)); done))) | (with_reducible refine below_drewN ?_ _) | (with_reducible refine Below.drew ?_))⟩
    · obtain ⟨m1, m2⟩ := mul_nn (a := 75 * l) (b := h - a) (A := 3000000) (B := 240) (by omega) (by omega) (by omega) (by omega)
      go_enter Tryd.func58, Tryd.ntmps58
      go_wp2_with (first | ((with_reducible refine wp_loop_rounds 5 ?_); rw [rounds_succ]) | rw [rounds_succ])
      refine (divRound_any _ _ (by omega) (by omega) _).mono ?_
      rintro e w1 ⟨rfl, n', rfl⟩
      go_wp2_with fail
      go_ret
      exact ⟨rfl, by repeat (first | (with_reducible exact Below.refl _ _) | (with_reducible assumption) | ((with_reducible refine bl_alloc ?_ _ ?_); (focus ((first | omega | (simp <;> omega)); done))) | ((with_reducible refine bl_set ?_ _ ?_); (focus ((first | omega | (simp <;> omega)); done))) | (with_reducible refine below_drewN ?_ _) | (with_reducible refine Below.drew ?_))⟩
    · obtain ⟨m1, m2⟩ := mul_nn (a := 100 * l) (b := h - a) (A := 3000000) (B := 240) (by omega) (by omega) (by omega) (by omega)
      go_enter Tryd.func58, Tryd.ntmps58
      go_wp2_with (first | ((with_reducible refine wp_loop_rounds 5 ?_); rw [rounds_succ]) | rw [rounds_succ])
      refine (divRound_any _ _ (by omega) (by omega) _).mono ?_
      rintro e w1 ⟨rfl, n', rfl⟩
      go_wp2_with fail
      go_ret
      exact ⟨rfl, by repeat (first | (with_reducible exact Below.refl _ _) | (with_reducible assumption) | ((with_reducible refine bl_alloc ?_ _ ?_); (focus ((first | omega | (simp <;> omega)); done))) | ((with_reducible refine bl_set ?_ _ ?_); (focus ((first | omega | (simp <;> omega)); done))) | (with_reducible refine below_drewN ?_ _) | (with_reducible refine Below.drew ?_))⟩
    · obtain ⟨m1, m2⟩ := mul_nn (a := 125 * l) (b := h - a) (A := 3000000) (B := 240) (by omega) (by omega) (by omega) (by omega)
      go_enter Tryd.func58, Tryd.ntmps58
      go_wp2_with (first | ((with_reducible refine wp_loop_rounds 5 ?_); rw [rounds_succ]) | rw [rounds_succ])
      refine (divRound_any _ _ (by omega) (by omega) _).mono ?_
      rintro e w1 ⟨rfl, n', rfl⟩
      go_wp2_with fail
      go_ret
      exact ⟨rfl, by repeat (first | (with_reducible exact Below.refl _ _) | (with_reducible assumption) | ((with_reducible refine bl_alloc ?_ _ ?_); (focus ((first | omega | (simp <;> omega)); done))) | ((with_reducible refine bl_set ?_ _ ?_); (focus ((first | omega | (simp <;> omega)); done))) | (with_reducible refine below_drewN ?_ _) | (with_reducible refine Below.drew ?_))⟩
    · obtain ⟨m1, m2⟩ := mul_nn (a := 150 * l) (b := h - a) (A := 3000000) (B := 240) (by omega) (by omega) (by omega) (by omega)
      go_enter Tryd.func58, Tryd.ntmps58
      go_wp2_with (first | ((with_reducible refine wp_loop_rounds 5 ?_); rw [rounds_succ]) | rw [rounds_succ])
      refine (divRound_any _ _ (by omega) (by omega) _).mono ?_
      rintro e w1 ⟨rfl, n', rfl⟩
      go_wp2_with fail
      go_ret
      exact ⟨rfl, by repeat (first | (with_reducible exact Below.refl _ _) | (with_reducible assumption) | ((with_reducible refine bl_alloc ?_ _ ?_); (focus ((first | omega | (simp <;> omega)); done))) | ((with_reducible refine bl_set ?_ _ ?_); (focus ((first | omega | (simp <;> omega)); done))) | (with_reducible refine below_drewN ?_ _) | (with_reducible refine Below.drew ?_))⟩
set_option maxHeartbeats 4000000 in
theorem l11Clutter_0 (w : World) (f : Int) (f0 : 1 ≤ f) (f1 : f ≤ 100000000) (a : Int) (a0 : 0 ≤ a) (a1 : a ≤ 90000) :
    Calls Tryd.prog 50 #[.int .i64 0, .int .i64 f, .int .i64 a] w fun e w' => e = .returned (.int .i64 (lossOf 0 0 (share f) a)) ∧ Below w.heap.size w w' := by
  by_cases ha : 0 ≤ a
  · rw [loss_none ha]
    go_enter Tryd.func50, Tryd.ntmps50
    go_wp2_with ((go_at_call 72; go_in))
    go_ret
    exact ⟨rfl, by repeat (first | (with_reducible exact Below.refl _ _) | (with_reducible assumption) | ((with_reducible refine bl_alloc ?_ _ ?_); (focus ((first | omega | (simp <;> omega)); done))) | ((with_reducible refine bl_set ?_ _ ?_); (focus ((first | omega | (simp <;> omega)); done))) | (with_reducible refine below_drewN ?_ _) | (with_reducible refine Below.drew ?_))⟩
  · omega
set_option maxHeartbeats 4000000 in
theorem l11Clutter_1 (w : World) (f : Int) (f0 : 1 ≤ f) (f1 : f ≤ 100000000) (a : Int) (a0 : 0 ≤ a) (a1 : a ≤ 90000) :
    Calls Tryd.prog 50 #[.int .i64 1, .int .i64 f, .int .i64 a] w fun e w' => e = .returned (.int .i64 (lossOf 20 1000 (share f) a)) ∧ Below w.heap.size w w' := by
  by_cases ha : 20 ≤ a
  · rw [loss_none ha]
    go_enter Tryd.func50, Tryd.ntmps50
    go_wp2_with ((go_at_call 72; go_in))
    go_ret
    exact ⟨rfl, by repeat (first | (with_reducible exact Below.refl _ _) | (with_reducible assumption) | ((with_reducible refine bl_alloc ?_ _ ?_); (focus ((first | omega | (simp <;> omega)); done))) | ((with_reducible refine bl_set ?_ _ ?_); (focus ((first | omega | (simp <;> omega)); done))) | (with_reducible refine below_drewN ?_ _) | (with_reducible refine Below.drew ?_))⟩
  · rw [loss_some ha]
    rcases share_cases f with ⟨g1, e⟩ | ⟨g1, g2, e⟩ | ⟨g1, g2, e⟩ | ⟨g1, g2, e⟩ | ⟨g1, e⟩
    all_goals
      rw [e]
      clear e
      go_enter Tryd.func50, Tryd.ntmps50
      go_wp2_with ((go_at_call 72; go_in))
      refine (l01Div_any _ _ (by omega) (by omega) _).mono ?_
      rintro e w1 ⟨rfl, rfl⟩
      go_wp2_with fail
      go_ret
      exact ⟨rfl, by repeat (first | (with_reducible exact Below.refl _ _) | (with_reducible assumption) | ((with_reducible refine bl_alloc ?_ _ ?_); (focus ((first | omega | (simp <;> omega)); done))) | ((with_reducible refine bl_set ?_ _ ?_); (focus ((first | omega | (simp <;> omega)); done))) | (with_reducible refine below_drewN ?_ _) | (with_reducible refine Below.drew ?_))⟩
set_option maxHeartbeats 4000000 in
theorem l11Clutter_2 (w : World) (f : Int) (f0 : 1 ≤ f) (f1 : f ≤ 100000000) (a : Int) (a0 : 0 ≤ a) (a1 : a ≤ 90000) :
    Calls Tryd.prog 50 #[.int .i64 2, .int .i64 f, .int .i64 a] w fun e w' => e = .returned (.int .i64 (lossOf 10 500 (share f) a)) ∧ Below w.heap.size w w' := by
  by_cases ha : 10 ≤ a
  · rw [loss_none ha]
    go_enter Tryd.func50, Tryd.ntmps50
    go_wp2_with ((go_at_call 72; go_in))
    go_ret
    exact ⟨rfl, by repeat (first | (with_reducible exact Below.refl _ _) | (with_reducible assumption) | ((with_reducible refine bl_alloc ?_ _ ?_); (focus ((first | omega | (simp <;> omega)); done))) | ((with_reducible refine bl_set ?_ _ ?_); (focus ((first | omega | (simp <;> omega)); done))) | (with_reducible refine below_drewN ?_ _) | (with_reducible refine Below.drew ?_))⟩
  · rw [loss_some ha]
    rcases share_cases f with ⟨g1, e⟩ | ⟨g1, g2, e⟩ | ⟨g1, g2, e⟩ | ⟨g1, g2, e⟩ | ⟨g1, e⟩
    all_goals
      rw [e]
      clear e
      go_enter Tryd.func50, Tryd.ntmps50
      go_wp2_with ((go_at_call 72; go_in))
      refine (l01Div_any _ _ (by omega) (by omega) _).mono ?_
      rintro e w1 ⟨rfl, rfl⟩
      go_wp2_with fail
      go_ret
      exact ⟨rfl, by repeat (first | (with_reducible exact Below.refl _ _) | (with_reducible assumption) | ((with_reducible refine bl_alloc ?_ _ ?_); (focus ((first | omega | (simp <;> omega)); done))) | ((with_reducible refine bl_set ?_ _ ?_); (focus ((first | omega | (simp <;> omega)); done))) | (with_reducible refine below_drewN ?_ _) | (with_reducible refine Below.drew ?_))⟩
set_option maxHeartbeats 4000000 in
theorem l11Clutter_3 (w : World) (f : Int) (f0 : 1 ≤ f) (f1 : f ≤ 100000000) (a : Int) (a0 : 0 ≤ a) (a1 : a ≤ 90000) :
    Calls Tryd.prog 50 #[.int .i64 3, .int .i64 f, .int .i64 a] w fun e w' => e = .returned (.int .i64 (lossOf 120 12000 (share f) a)) ∧ Below w.heap.size w w' := by
  by_cases ha : 120 ≤ a
  · rw [loss_none ha]
    go_enter Tryd.func50, Tryd.ntmps50
    go_wp2_with ((go_at_call 72; go_in))
    go_ret
    exact ⟨rfl, by repeat (first | (with_reducible exact Below.refl _ _) | (with_reducible assumption) | ((with_reducible refine bl_alloc ?_ _ ?_); (focus ((first | omega | (simp <;> omega)); done))) | ((with_reducible refine bl_set ?_ _ ?_); (focus ((first | omega | (simp <;> omega)); done))) | (with_reducible refine below_drewN ?_ _) | (with_reducible refine Below.drew ?_))⟩
  · rw [loss_some ha]
    rcases share_cases f with ⟨g1, e⟩ | ⟨g1, g2, e⟩ | ⟨g1, g2, e⟩ | ⟨g1, g2, e⟩ | ⟨g1, e⟩
    all_goals
      rw [e]
      clear e
      go_enter Tryd.func50, Tryd.ntmps50
      go_wp2_with ((go_at_call 72; go_in))
      refine (l01Div_any _ _ (by omega) (by omega) _).mono ?_
      rintro e w1 ⟨rfl, rfl⟩
      go_wp2_with fail
      go_ret
      exact ⟨rfl, by repeat (first | (with_reducible exact Below.refl _ _) | (with_reducible assumption) | ((with_reducible refine bl_alloc ?_ _ ?_); (focus ((first | omega | (simp <;> omega)); done))) | ((with_reducible refine bl_set ?_ _ ?_); (focus ((first | omega | (simp <;> omega)); done))) | (with_reducible refine below_drewN ?_ _) | (with_reducible refine Below.drew ?_))⟩
set_option maxHeartbeats 4000000 in
theorem l11Clutter_4 (w : World) (f : Int) (f0 : 1 ≤ f) (f1 : f ≤ 100000000) (a : Int) (a0 : 0 ≤ a) (a1 : a ≤ 90000) :
    Calls Tryd.prog 50 #[.int .i64 4, .int .i64 f, .int .i64 a] w fun e w' => e = .returned (.int .i64 (lossOf 70 8000 (share f) a)) ∧ Below w.heap.size w w' := by
  by_cases ha : 70 ≤ a
  · rw [loss_none ha]
    go_enter Tryd.func50, Tryd.ntmps50
    go_wp2_with ((go_at_call 72; go_in))
    go_ret
    exact ⟨rfl, by repeat (first | (with_reducible exact Below.refl _ _) | (with_reducible assumption) | ((with_reducible refine bl_alloc ?_ _ ?_); (focus ((first | omega | (simp <;> omega)); done))) | ((with_reducible refine bl_set ?_ _ ?_); (focus ((first | omega | (simp <;> omega)); done))) | (with_reducible refine below_drewN ?_ _) | (with_reducible refine Below.drew ?_))⟩
  · rw [loss_some ha]
    rcases share_cases f with ⟨g1, e⟩ | ⟨g1, g2, e⟩ | ⟨g1, g2, e⟩ | ⟨g1, g2, e⟩ | ⟨g1, e⟩
    all_goals
      rw [e]
      clear e
      go_enter Tryd.func50, Tryd.ntmps50
      go_wp2_with ((go_at_call 72; go_in))
      refine (l01Div_any _ _ (by omega) (by omega) _).mono ?_
      rintro e w1 ⟨rfl, rfl⟩
      go_wp2_with fail
      go_ret
      exact ⟨rfl, by repeat (first | (with_reducible exact Below.refl _ _) | (with_reducible assumption) | ((with_reducible refine bl_alloc ?_ _ ?_); (focus ((first | omega | (simp <;> omega)); done))) | ((with_reducible refine bl_set ?_ _ ?_); (focus ((first | omega | (simp <;> omega)); done))) | (with_reducible refine below_drewN ?_ _) | (with_reducible refine Below.drew ?_))⟩
set_option maxHeartbeats 4000000 in
theorem l11Clutter_5 (w : World) (f : Int) (f0 : 1 ≤ f) (f1 : f ≤ 100000000) (a : Int) (a0 : 0 ≤ a) (a1 : a ≤ 90000) :
    Calls Tryd.prog 50 #[.int .i64 5, .int .i64 f, .int .i64 a] w fun e w' => e = .returned (.int .i64 (lossOf 90 10000 (share f) a)) ∧ Below w.heap.size w w' := by
  by_cases ha : 90 ≤ a
  · rw [loss_none ha]
    go_enter Tryd.func50, Tryd.ntmps50
    go_wp2_with ((go_at_call 72; go_in))
    go_ret
    exact ⟨rfl, by repeat (first | (with_reducible exact Below.refl _ _) | (with_reducible assumption) | ((with_reducible refine bl_alloc ?_ _ ?_); (focus ((first | omega | (simp <;> omega)); done))) | ((with_reducible refine bl_set ?_ _ ?_); (focus ((first | omega | (simp <;> omega)); done))) | (with_reducible refine below_drewN ?_ _) | (with_reducible refine Below.drew ?_))⟩
  · rw [loss_some ha]
    rcases share_cases f with ⟨g1, e⟩ | ⟨g1, g2, e⟩ | ⟨g1, g2, e⟩ | ⟨g1, g2, e⟩ | ⟨g1, e⟩
    all_goals
      rw [e]
      clear e
      go_enter Tryd.func50, Tryd.ntmps50
      go_wp2_with ((go_at_call 72; go_in))
      refine (l01Div_any _ _ (by omega) (by omega) _).mono ?_
      rintro e w1 ⟨rfl, rfl⟩
      go_wp2_with fail
      go_ret
      exact ⟨rfl, by repeat (first | (with_reducible exact Below.refl _ _) | (with_reducible assumption) | ((with_reducible refine bl_alloc ?_ _ ?_); (focus ((first | omega | (simp <;> omega)); done))) | ((with_reducible refine bl_set ?_ _ ?_); (focus ((first | omega | (simp <;> omega)); done))) | (with_reducible refine below_drewN ?_ _) | (with_reducible refine Below.drew ?_))⟩
set_option maxHeartbeats 4000000 in
theorem l11Clutter_6 (w : World) (f : Int) (f0 : 1 ≤ f) (f1 : f ≤ 100000000) (a : Int) (a0 : 0 ≤ a) (a1 : a ≤ 90000) :
    Calls Tryd.prog 50 #[.int .i64 6, .int .i64 f, .int .i64 a] w fun e w' => e = .returned (.int .i64 (lossOf 160 16000 (share f) a)) ∧ Below w.heap.size w w' := by
  by_cases ha : 160 ≤ a
  · rw [loss_none ha]
    go_enter Tryd.func50, Tryd.ntmps50
    go_wp2_with ((go_at_call 72; go_in))
    go_ret
    exact ⟨rfl, by repeat (first | (with_reducible exact Below.refl _ _) | (with_reducible assumption) | ((with_reducible refine bl_alloc ?_ _ ?_); (focus ((first | omega | (simp <;> omega)); done))) | ((with_reducible refine bl_set ?_ _ ?_); (focus ((first | omega | (simp <;> omega)); done))) | (with_reducible refine below_drewN ?_ _) | (with_reducible refine Below.drew ?_))⟩
  · rw [loss_some ha]
    rcases share_cases f with ⟨g1, e⟩ | ⟨g1, g2, e⟩ | ⟨g1, g2, e⟩ | ⟨g1, g2, e⟩ | ⟨g1, e⟩
    all_goals
      rw [e]
      clear e
      go_enter Tryd.func50, Tryd.ntmps50
      go_wp2_with ((go_at_call 72; go_in))
      refine (l01Div_any _ _ (by omega) (by omega) _).mono ?_
      rintro e w1 ⟨rfl, rfl⟩
      go_wp2_with fail
      go_ret
      exact ⟨rfl, by repeat (first | (with_reducible exact Below.refl _ _) | (with_reducible assumption) | ((with_reducible refine bl_alloc ?_ _ ?_); (focus ((first | omega | (simp <;> omega)); done))) | ((with_reducible refine bl_set ?_ _ ?_); (focus ((first | omega | (simp <;> omega)); done))) | (with_reducible refine below_drewN ?_ _) | (with_reducible refine Below.drew ?_))⟩
set_option maxHeartbeats 4000000 in
theorem l11Clutter_7 (w : World) (f : Int) (f0 : 1 ≤ f) (f1 : f ≤ 100000000) (a : Int) (a0 : 0 ≤ a) (a1 : a ≤ 90000) :
    Calls Tryd.prog 50 #[.int .i64 7, .int .i64 f, .int .i64 a] w fun e w' => e = .returned (.int .i64 (lossOf 240 20000 (share f) a)) ∧ Below w.heap.size w w' := by
  by_cases ha : 240 ≤ a
  · rw [loss_none ha]
    go_enter Tryd.func50, Tryd.ntmps50
    go_wp2_with ((go_at_call 72; go_in))
    go_ret
    exact ⟨rfl, by repeat (first | (with_reducible exact Below.refl _ _) | (with_reducible assumption) | ((with_reducible refine bl_alloc ?_ _ ?_); (focus ((first | omega | (simp <;> omega)); done))) | ((with_reducible refine bl_set ?_ _ ?_); (focus ((first | omega | (simp <;> omega)); done))) | (with_reducible refine below_drewN ?_ _) | (with_reducible refine Below.drew ?_))⟩
  · rw [loss_some ha]
    rcases share_cases f with ⟨g1, e⟩ | ⟨g1, g2, e⟩ | ⟨g1, g2, e⟩ | ⟨g1, g2, e⟩ | ⟨g1, e⟩
    all_goals
      rw [e]
      clear e
      go_enter Tryd.func50, Tryd.ntmps50
      go_wp2_with ((go_at_call 72; go_in))
      refine (l01Div_any _ _ (by omega) (by omega) _).mono ?_
      rintro e w1 ⟨rfl, rfl⟩
      go_wp2_with fail
      go_ret
      exact ⟨rfl, by repeat (first | (with_reducible exact Below.refl _ _) | (with_reducible assumption) | ((with_reducible refine bl_alloc ?_ _ ?_); (focus ((first | omega | (simp <;> omega)); done))) | ((with_reducible refine bl_set ?_ _ ?_); (focus ((first | omega | (simp <;> omega)); done))) | (with_reducible refine below_drewN ?_ _) | (with_reducible refine Below.drew ?_))⟩
theorem l11Clutter_any (w : World) (k : Nat) (hk : k < 8) (f : Int) (f0 : 1 ≤ f) (f1 : f ≤ 100000000) (a : Int) (a0 : 0 ≤ a) (a1 : a ≤ 90000) :
    Calls Tryd.prog 50 #[.int .i64 k, .int .i64 f, .int .i64 a] w fun e w' => e = .returned (.int .i64 (lossOf (heights.getD k 0) (weights.getD k 0) (share f) a)) ∧ Below w.heap.size w w' := by
  have h : k = 0 ∨ k = 1 ∨ k = 2 ∨ k = 3 ∨ k = 4 ∨ k = 5 ∨ k = 6 ∨ k = 7 := by omega
  rcases h with rfl | rfl | rfl | rfl | rfl | rfl | rfl | rfl
  · exact l11Clutter_0 w f f0 f1 a a0 a1
  · exact l11Clutter_1 w f f0 f1 a a0 a1
  · exact l11Clutter_2 w f f0 f1 a a0 a1
  · exact l11Clutter_3 w f f0 f1 a a0 a1
  · exact l11Clutter_4 w f f0 f1 a a0 a1
  · exact l11Clutter_5 w f f0 f1 a a0 a1
  · exact l11Clutter_6 w f f0 f1 a a0 a1
  · exact l11Clutter_7 w f f0 f1 a a0 a1
def clutOk (n f a : Int) : Prop := 0 ≤ n ∧ n ≤ 7 ∧ 1 ≤ f ∧ f ≤ 100000000 ∧ 0 ≤ a ∧ a ≤ 90000
instance (n f a : Int) : Decidable (clutOk n f a) := by unfold clutOk; infer_instance
def clutM (n f a : Int) : Int × Int := if clutOk n f a then (lossOf (heights.getD n.toNat 0) (weights.getD n.toNat 0) (share f) a, 0) else (0, 2)
theorem clut_yes {k : Nat} {f a : Int} (h : clutOk k f a) : clutM k f a = (lossOf (heights.getD k 0) (weights.getD k 0) (share f) a, 0) := if_pos h
theorem clut_no {n f a : Int} (h : ¬ clutOk n f a) : clutM n f a = (0, 2) := if_neg h
end Go.Proofs.YtlpjcebpfmhpnaaDoor.ofClutterLoss
