/-
  The walk of FnExactEdgeLoss: it returns true, and of what was there nothing has turned. The conditions are what its arguments' readings give.
-/
import Derived.Test.YtbmmgkicgcdpmaaDoorRows
import Derived.Test.YtbmmgkicgcdpmaaDoorLib
import Derived.Test.YtbmmgkicgcdpmaaDoorShelf
import Derived.Test.YtbmmgkicgcdpmaaDoorDec
import Derived.Test.YtbmmgkicgcdpmaaDoorPow
import Derived.Test.YtbmmgkicgcdpmaaDoorInt
import Derived.Test.YtbmmgkicgcdpmaaDoorWithin
import Derived.Test.YtbmmgkicgcdpmaaDoorLogMath
import Derived.Test.YtbmmgkicgcdpmaaDoorRootMath
import Derived.Test.YtbmmgkicgcdpmaaDoorLogS
import Derived.Test.YtbmmgkicgcdpmaaDoorLogI
import Derived.Test.YtbmmgkicgcdpmaaDoorRoot
import Derived.Test.YtbmmgkicgcdpmaaDoorFree
import Derived.Outline
import Derived.Deep.RegionHeld3
import Derived.Deep.DrawnRows
namespace Go.Proofs.YtbmmgkicgcdpmaaDoor.fnExactEdgeLoss
open Go.RowKit Go.ChangeShapes Go.WideShapes Go.ChangeAt
set_option linter.unusedVariables false
set_option linter.unusedSimpArgs false

def edgeK (nu : Int) : Int := max (6900 + 2 * (logV (rootV ((nu - 100) * (nu - 100) + 1000000) + (nu - 100)) - 30000)) 0
def edgeM (nu : Int) : Int := if -1000000 ≤ nu ∧ nu ≤ 1000000 ∧ -780 < nu then edgeK nu else 0
theorem edgeM_yes {nu : Int} (h : -1000000 ≤ nu ∧ nu ≤ 1000000 ∧ -780 < nu) : edgeM nu = edgeK nu := if_pos h
theorem edgeM_no {nu : Int} (h : ¬ (-1000000 ≤ nu ∧ nu ≤ 1000000 ∧ -780 < nu)) : edgeM nu = 0 := if_neg h
theorem edge_root {a : Int} (h : -1000 ≤ a) (h1 : a ≤ 999900) : (0 ≤ a * a ∧ a * a ≤ 999800010000) ∧ 1000 ≤ rootV (a * a + 1000000) ∧ rootV (a * a + 1000000) ≤ 1000000 := by
  have m := mul_bd (A := 999900) (B := 999900) (show -999900 ≤ a by omega) h1 (show -999900 ≤ a by omega) h1
  have m0 : 0 ≤ a * a := by
    rcases Int.le_total 0 a with h | h
    · exact Int.mul_nonneg h h
    · rw [← Int.neg_mul_neg]
      exact Int.mul_nonneg (by omega) (by omega)
  obtain ⟨r0, r1, r2⟩ := rootV_is (n := a * a + 1000000) (by omega) (by omega)
  generalize rootV (a * a + 1000000) = r at *
  refine ⟨⟨m0, by omega⟩, ?_, ?_⟩
  · rcases Int.lt_or_le r 1000 with hl | hg
    · have := mul_nn (A := 1000) (B := 1000) (show 0 ≤ r + 1 by omega) (show r + 1 ≤ 1000 by omega) (show 0 ≤ r + 1 by omega) (show r + 1 ≤ 1000 by omega)
      omega
    · exact hg
  · rcases Int.lt_or_le 1000000 r with hl | hg
    · have := sq_le (a := 1000000) (b := r) (by omega) (by omega)
      omega
    · exact hg
set_option maxRecDepth 20000 in
set_option maxHeartbeats 2000000 in
theorem impl_any (w : World) (hT : PowTab w) (nu : Int) (iu : In64 nu) :
    Calls Tryd.prog 26 #[.int .i64 nu] w fun e w' => e = .returned (.int .i64 (edgeM nu)) ∧ Below w.heap.size w w' := by
  have HT := Lib.hid hT
  clear hT
  obtain ⟨j0, j1⟩ := iu
  rcases in_cases nu (-1000000) 1000000 with ⟨h1, h2⟩ | h1 | ⟨h1, h2⟩
  · by_cases h3 : nu ≤ -780
    · rw [edgeM_no (fun h => by omega)]
      go_enter Tryd.func26, Tryd.ntmps26
      go_wp2_with (first | (go_at_call 61; go_in))
      all_goals go_ret
      all_goals exact ⟨rfl, by repeat (first | (with_reducible exact Below.refl _ _) | (with_reducible assumption) | ((with_reducible refine bl_alloc ?_ _ ?_); (focus ((first | omega | (simp <;> omega)); done))) | ((with_reducible refine bl_set ?_ _ ?_); (focus ((first | omega | (simp <;> omega)); done))) | (with_reducible refine below_drewN ?_ _) | (with_reducible refine Below.drew ?_))⟩
    · rw [edgeM_yes ⟨h1, h2, by omega⟩]
      have HE : Hid (edgeK nu = max (6900 + 2 * (logV (rootV ((nu - 100) * (nu - 100) + 1000000) + (nu - 100)) - 30000)) 0) := rfl
      obtain ⟨⟨m0, m1⟩, r0, r1⟩ := edge_root (a := nu - 100) (by omega) (by omega)
      obtain ⟨R, hR⟩ : ∃ R, R = rootV ((nu - 100) * (nu - 100) + 1000000) := ⟨_, rfl⟩
      rw [← hR] at HE r0 r1
      obtain ⟨k0, k1⟩ := logV_bd (n := R + (nu - 100)) (by omega)
      obtain ⟨L, hL⟩ : ∃ L, L = logV (R + (nu - 100)) := ⟨_, rfl⟩
      rw [← hL] at HE k0 k1
      have HR := Lib.hid hR
      have HL := Lib.hid hL
      clear hR hL
      have hd : decide (nu ≤ -780) = false := decide_eq_false h3
      go_enter Tryd.func26, Tryd.ntmps26
      go_wp2_with (first | (go_at_call 61; go_in))
      refine (RootOf_any _ ((nu - 100) * (nu - 100) + 1000000) (by omega) (by omega)).mono ?_
      rintro e w1 ⟨he, hb⟩
      rw [← HR.out] at he
      subst he
      have H1 := Lib.hid (show Below w.heap.size w w1 by repeat (first | (with_reducible exact Below.refl _ _) | (with_reducible assumption) | ((with_reducible refine bl_alloc ?_ _ ?_); (focus ((first | omega | (simp <;> omega)); done))) | ((with_reducible refine bl_set ?_ _ ?_); (focus ((first | omega | (simp <;> omega)); done))) | (with_reducible refine below_drewN ?_ _) | (with_reducible refine Below.drew ?_) | ((with_reducible refine bl_trans ?_ hb ?_); (focus ((first | omega | (simp <;> omega)); done)))))
      have HT1 := Lib.hid (HT.out.below H1.out)
      have zz : w.heap.size ≤ w1.heap.size := H1.out.size
      clear hb
      go_wp2_with fail
      refine (LogDb_any _ HT1.out (R + (nu - 100)) ⟨by omega, by omega⟩).mono ?_
      rintro e w2 ⟨he, hb⟩
      rw [← HL.out] at he
      subst he
      have H2 := Lib.hid (show Below w.heap.size w w2 by repeat (first | (with_reducible exact Below.refl _ _) | (with_reducible assumption) | ((with_reducible refine bl_alloc ?_ _ ?_); (focus ((first | omega | (simp <;> omega)); done))) | ((with_reducible refine bl_set ?_ _ ?_); (focus ((first | omega | (simp <;> omega)); done))) | (with_reducible refine below_drewN ?_ _) | (with_reducible refine Below.drew ?_) | ((with_reducible refine bl_trans ?_ hb ?_); (focus ((first | omega | (simp <;> omega)); done))) | ((with_reducible refine bl_trans ?_ H1.out ?_); (focus ((first | omega | (simp <;> omega)); done)))))
      clear hb
      go_wp2_with fail
      go_ret
      exact ⟨ret_int HE.out.symm, H2.out⟩
  · rw [edgeM_no (fun h => dec_no h1 h.1)]
    go_enter Tryd.func26, Tryd.ntmps26
    go_wp2_with (first | (go_at_call 61; go_in))
    all_goals go_ret
    all_goals exact ⟨rfl, by repeat (first | (with_reducible exact Below.refl _ _) | (with_reducible assumption) | ((with_reducible refine bl_alloc ?_ _ ?_); (focus ((first | omega | (simp <;> omega)); done))) | ((with_reducible refine bl_set ?_ _ ?_); (focus ((first | omega | (simp <;> omega)); done))) | (with_reducible refine below_drewN ?_ _) | (with_reducible refine Below.drew ?_))⟩
  · rw [edgeM_no (fun h => dec_no h2 h.2.1)]
    go_enter Tryd.func26, Tryd.ntmps26
    go_wp2_with (first | (go_at_call 61; go_in))
    all_goals go_ret
    all_goals exact ⟨rfl, by repeat (first | (with_reducible exact Below.refl _ _) | (with_reducible assumption) | ((with_reducible refine bl_alloc ?_ _ ?_); (focus ((first | omega | (simp <;> omega)); done))) | ((with_reducible refine bl_set ?_ _ ?_); (focus ((first | omega | (simp <;> omega)); done))) | (with_reducible refine below_drewN ?_ _) | (with_reducible refine Below.drew ?_))⟩
set_option maxRecDepth 20000 in
set_option maxHeartbeats 2000000 in
theorem spec_any (w : World) (nu : Int) (iu : In64 nu) :
    Calls Tryd.prog 25 #[.int .i64 nu] w fun e w' => e = .returned (.int .i64 (edgeM nu)) ∧ Below w.heap.size w w' := by
  obtain ⟨j0, j1⟩ := iu
  rcases in_cases nu (-1000000) 1000000 with ⟨h1, h2⟩ | h1 | ⟨h1, h2⟩
  · by_cases h3 : nu ≤ -780
    · rw [edgeM_no (fun h => by omega)]
      go_enter Tryd.func25, Tryd.ntmps25
      go_wp2_with (first | (go_at_call 59; go_in) | (go_at_call 60; go_in))
      all_goals go_ret
      all_goals exact ⟨rfl, by repeat (first | (with_reducible exact Below.refl _ _) | (with_reducible assumption) | ((with_reducible refine bl_alloc ?_ _ ?_); (focus ((first | omega | (simp <;> omega)); done))) | ((with_reducible refine bl_set ?_ _ ?_); (focus ((first | omega | (simp <;> omega)); done))) | (with_reducible refine below_drewN ?_ _) | (with_reducible refine Below.drew ?_))⟩
    · rw [edgeM_yes ⟨h1, h2, by omega⟩]
      have HE : Hid (edgeK nu = max 0 (6900 + 2 * (logV (rootV ((nu - 100) * (nu - 100) + 1000000) + (nu - 100)) - 30000))) := by
        show max _ 0 = _
        exact Int.max_comm _ _
      obtain ⟨⟨m0, m1⟩, r0, r1⟩ := edge_root (a := nu - 100) (by omega) (by omega)
      obtain ⟨R, hR⟩ : ∃ R, R = rootV ((nu - 100) * (nu - 100) + 1000000) := ⟨_, rfl⟩
      rw [← hR] at HE r0 r1
      obtain ⟨k0, k1⟩ := logV_bd (n := R + (nu - 100)) (by omega)
      obtain ⟨L, hL⟩ : ∃ L, L = logV (R + (nu - 100)) := ⟨_, rfl⟩
      rw [← hL] at HE k0 k1
      have HR := Lib.hid hR
      have HL := Lib.hid hL
      clear hR hL
      have hd : decide (nu ≤ -780) = false := decide_eq_false h3
      go_enter Tryd.func25, Tryd.ntmps25
      go_wp2_with (first | (go_at_call 59; go_in) | (go_at_call 60; go_in))
      refine (l01Root_any _ ((nu - 100) * (nu - 100) + 1000000)).mono ?_
      rintro e w1 ⟨he, rfl⟩
      rw [← HR.out] at he
      subst he
      go_wp2_with fail
      refine (l02Log_any _ (R + (nu - 100)) (by omega) (by omega)).mono ?_
      rintro e w2 ⟨he, rfl⟩
      rw [← HL.out] at he
      subst he
      go_wp2_with fail
      refine (l00Max_any _ _ _).mono ?_
      rintro e w3 ⟨he, rfl⟩
      rw [← HE.out] at he
      subst he
      go_wp2_with fail
      go_ret
      exact ⟨rfl, by repeat (first | (with_reducible exact Below.refl _ _) | (with_reducible assumption) | ((with_reducible refine bl_alloc ?_ _ ?_); (focus ((first | omega | (simp <;> omega)); done))) | ((with_reducible refine bl_set ?_ _ ?_); (focus ((first | omega | (simp <;> omega)); done))) | (with_reducible refine below_drewN ?_ _) | (with_reducible refine Below.drew ?_))⟩
  · rw [edgeM_no (fun h => dec_no h1 h.1)]
    go_enter Tryd.func25, Tryd.ntmps25
    go_wp2_with (first | (go_at_call 59; go_in) | (go_at_call 60; go_in))
    all_goals go_ret
    all_goals exact ⟨rfl, by repeat (first | (with_reducible exact Below.refl _ _) | (with_reducible assumption) | ((with_reducible refine bl_alloc ?_ _ ?_); (focus ((first | omega | (simp <;> omega)); done))) | ((with_reducible refine bl_set ?_ _ ?_); (focus ((first | omega | (simp <;> omega)); done))) | (with_reducible refine below_drewN ?_ _) | (with_reducible refine Below.drew ?_))⟩
  · rw [edgeM_no (fun h => dec_no h2 h.2.1)]
    go_enter Tryd.func25, Tryd.ntmps25
    go_wp2_with (first | (go_at_call 59; go_in) | (go_at_call 60; go_in))
    all_goals go_ret
    all_goals exact ⟨rfl, by repeat (first | (with_reducible exact Below.refl _ _) | (with_reducible assumption) | ((with_reducible refine bl_alloc ?_ _ ?_); (focus ((first | omega | (simp <;> omega)); done))) | ((with_reducible refine bl_set ?_ _ ?_); (focus ((first | omega | (simp <;> omega)); done))) | (with_reducible refine below_drewN ?_ _) | (with_reducible refine Below.drew ?_))⟩
set_option maxRecDepth 20000 in
set_option maxHeartbeats 4000000 in
theorem walk (w : World) (hT : PowTab w) (a0 : Int) (ia0 : In64 a0) :
    Calls Tryd.prog 8 #[.int .i64 a0] w fun e w' => e = .returned (.bool true) ∧ Below w.heap.size w w' := by
  have HTab := Lib.hid hT
  clear hT
  go_enter Tryd.func8, Tryd.ntmps8
  go_wp2_with fail
  refine (spec_any _ a0 ia0).mono ?_
  rintro e w1 ⟨rfl, hb⟩
  have zz1 : w.heap.size ≤ w1.heap.size := (by have := hb.size; ((try simp at this) <;> omega))
  have H1 := Lib.hid (show Below w.heap.size w w1 by repeat (first | (with_reducible exact Below.refl _ _) | (with_reducible assumption) | ((with_reducible refine bl_alloc ?_ _ ?_); (focus ((first | omega | (simp <;> omega)); done))) | ((with_reducible refine bl_set ?_ _ ?_); (focus ((first | omega | (simp <;> omega)); done))) | (with_reducible refine below_drewN ?_ _) | (with_reducible refine Below.drew ?_) | ((with_reducible refine bl_trans ?_ hb ?_); (focus ((first | omega | (simp <;> omega)); done)))))
  clear hb
  go_wp2_with fail
  refine (impl_any _ (PowTab.below HTab.out (by repeat (first | (with_reducible exact Below.refl _ _) | (with_reducible assumption) | ((with_reducible refine bl_alloc ?_ _ ?_); (focus ((first | omega | (simp <;> omega)); done))) | ((with_reducible refine bl_set ?_ _ ?_); (focus ((first | omega | (simp <;> omega)); done))) | (with_reducible refine below_drewN ?_ _) | (with_reducible refine Below.drew ?_) | ((with_reducible refine bl_trans ?_ H1.out ?_); (focus ((first | omega | (simp <;> omega)); done)))))) a0 ia0).mono ?_
  rintro e w2 ⟨rfl, hb⟩
  have zz2 : w1.heap.size ≤ w2.heap.size := (by have := hb.size; ((try simp at this) <;> omega))
  have H2 := Lib.hid (show Below w.heap.size w w2 by repeat (first | (with_reducible exact Below.refl _ _) | (with_reducible assumption) | ((with_reducible refine bl_alloc ?_ _ ?_); (focus ((first | omega | (simp <;> omega)); done))) | ((with_reducible refine bl_set ?_ _ ?_); (focus ((first | omega | (simp <;> omega)); done))) | (with_reducible refine below_drewN ?_ _) | (with_reducible refine Below.drew ?_) | ((with_reducible refine bl_trans ?_ hb ?_); (focus ((first | omega | (simp <;> omega)); done))) | ((with_reducible refine bl_trans ?_ H1.out ?_); (focus ((first | omega | (simp <;> omega)); done)))))
  clear hb H1
  go_wp2_with fail
  go_ret
  exact ⟨rfl, (by repeat (first | (with_reducible exact Below.refl _ _) | (with_reducible assumption) | ((with_reducible refine bl_alloc ?_ _ ?_); (focus ((first | omega | (simp <;> omega)); done))) | ((with_reducible refine bl_set ?_ _ ?_); (focus ((first | omega | (simp <;> omega)); done))) | (with_reducible refine below_drewN ?_ _) | (with_reducible refine Below.drew ?_) | ((with_reducible refine bl_trans ?_ H2.out ?_); (focus ((first | omega | (simp <;> omega)); done)))))⟩
end Go.Proofs.YtbmmgkicgcdpmaaDoor.fnExactEdgeLoss
