/-
  The walk of FnExactRainSpecific: it returns true, and of what was there nothing has turned. The conditions are what its arguments' readings give.
-/
import Derived.Test.YtbmmgkicgcdpmaaDoorRows
import Derived.Test.YtbmmgkicgcdpmaaDoorLib
import Derived.Test.YtbmmgkicgcdpmaaDoorShelf
import Derived.Test.YtbmmgkicgcdpmaaDoorDec
import Derived.Test.YtbmmgkicgcdpmaaDoorPow
import Derived.Test.YtbmmgkicgcdpmaaDoorInt
import Derived.Test.YtbmmgkicgcdpmaaDoorWithin
import Derived.Test.YtbmmgkicgcdpmaaDoorLogMath
import Derived.Test.YtbmmgkicgcdpmaaDoorRain
import Derived.Outline
import Derived.Deep.RegionHeld3
import Derived.Deep.DrawnRows
namespace Go.Proofs.YtbmmgkicgcdpmaaDoor.fnExactRainSpecific
open Go.RowKit Go.ChangeShapes Go.WideShapes Go.ChangeAt
set_option linter.unusedVariables false
set_option linter.unusedSimpArgs false

def rainSpecificM (a b : Int) : Int × Int := if 1 ≤ a ∧ a ≤ 100000000 ∧ 0 ≤ b ∧ b ≤ 200 then (rainV a b, 0) else (0, 2)
theorem rainSpecificM_yes {a b : Int} (h : 1 ≤ a ∧ a ≤ 100000000 ∧ 0 ≤ b ∧ b ≤ 200) : rainSpecificM a b = (rainV a b, 0) := if_pos h
theorem rainSpecificM_no {a b : Int} (h : ¬ (1 ≤ a ∧ a ≤ 100000000 ∧ 0 ≤ b ∧ b ≤ 200)) : rainSpecificM a b = (0, 2) := if_neg h
set_option maxRecDepth 20000 in
set_option maxHeartbeats 2000000 in
theorem spec_any (w : World) (a : Int) (ia : In64 a) (b : Int) (ib : In64 b) :
    Calls Tryd.prog 35 #[.int .i64 a, .int .i64 b] w fun e w' => e = .returned (.tuple #[.int .i64 (rainSpecificM a b).1, .int .i64 (rainSpecificM a b).2]) ∧ Below w.heap.size w w' := by
  obtain ⟨la, ua⟩ := ia
  obtain ⟨lb, ub⟩ := ib
  rcases in_cases a (1) 100000000 with ⟨t0, u0⟩ | t0 | ⟨t0, u0⟩
  · rcases in_cases b (0) 200 with ⟨t1, u1⟩ | t1 | ⟨t1, u1⟩
    · rw [rainSpecificM_yes ⟨t0, u0, t1, u1⟩]
      obtain ⟨k0, k1⟩ := rainV_bd (f := a) (rain := b) (by omega)
      obtain ⟨K, hK⟩ : ∃ K, K = rainV a b := ⟨_, rfl⟩
      rw [← hK] at k0 k1 ⊢
      have HK := Lib.hid hK
      clear hK
      go_enter Tryd.func35, Tryd.ntmps35
      go_wp2_with (first | (go_at_call 59; go_in) | (go_at_call 46; go_in) | (go_at_call 47; go_in) | (go_at_call 65; go_in))
      refine (l11Rain_any _ a b t0 u0 t1 u1).mono ?_
      rintro e w1 ⟨he, hb⟩
      rw [← HK.out] at he
      subst he
      have H1 := Lib.hid (show Below w.heap.size w w1 by repeat (first | (with_reducible exact Below.refl _ _) | (with_reducible assumption) | ((with_reducible refine bl_alloc ?_ _ ?_); (focus ((first | omega | (simp <;> omega)); done))) | ((with_reducible refine bl_set ?_ _ ?_); (focus ((first | omega | (simp <;> omega)); done))) | (with_reducible refine below_drewN ?_ _) | (with_reducible refine Below.drew ?_) | ((with_reducible refine bl_trans ?_ hb ?_); (focus ((first | omega | (simp <;> omega)); done)))))
      clear hb
      go_wp2_with fail
      go_ret2
      exact ⟨rfl, by repeat (first | (with_reducible exact Below.refl _ _) | (with_reducible assumption) | ((with_reducible refine bl_alloc ?_ _ ?_); (focus ((first | omega | (simp <;> omega)); done))) | ((with_reducible refine bl_set ?_ _ ?_); (focus ((first | omega | (simp <;> omega)); done))) | (with_reducible refine below_drewN ?_ _) | (with_reducible refine Below.drew ?_) | ((with_reducible refine bl_trans ?_ H1.out ?_); (focus ((first | omega | (simp <;> omega)); done))))⟩
    · rw [rainSpecificM_no (fun h => dec_no t1 h.2.2.1)]
      go_enter Tryd.func35, Tryd.ntmps35
      go_wp2_with (first | (go_at_call 59; go_in) | (go_at_call 46; go_in) | (go_at_call 47; go_in) | (go_at_call 65; go_in))
      all_goals go_ret2
      all_goals exact ⟨rfl, Below.refl _ _⟩
    · rw [rainSpecificM_no (fun h => dec_no u1 h.2.2.2)]
      go_enter Tryd.func35, Tryd.ntmps35
      go_wp2_with (first | (go_at_call 59; go_in) | (go_at_call 46; go_in) | (go_at_call 47; go_in) | (go_at_call 65; go_in))
      all_goals go_ret2
      all_goals exact ⟨rfl, Below.refl _ _⟩
  · rw [rainSpecificM_no (fun h => dec_no t0 h.1)]
    go_enter Tryd.func35, Tryd.ntmps35
    go_wp2_with (first | (go_at_call 59; go_in) | (go_at_call 46; go_in) | (go_at_call 47; go_in) | (go_at_call 65; go_in))
    all_goals go_ret2
    all_goals exact ⟨rfl, Below.refl _ _⟩
  · rw [rainSpecificM_no (fun h => dec_no u0 h.2.1)]
    go_enter Tryd.func35, Tryd.ntmps35
    go_wp2_with (first | (go_at_call 59; go_in) | (go_at_call 46; go_in) | (go_at_call 47; go_in) | (go_at_call 65; go_in))
    all_goals go_ret2
    all_goals exact ⟨rfl, Below.refl _ _⟩
set_option maxRecDepth 20000 in
set_option maxHeartbeats 2000000 in
theorem impl_any (w : World) (hT : PowTab w) (a : Int) (ia : In64 a) (b : Int) (ib : In64 b) :
    Calls Tryd.prog 36 #[.int .i64 a, .int .i64 b] w fun e w' => e = .returned (.tuple #[.int .i64 (rainSpecificM a b).1, .int .i64 (rainSpecificM a b).2]) ∧ Below w.heap.size w w' := by
  have HT := Lib.hid hT
  clear hT
  obtain ⟨la, ua⟩ := ia
  obtain ⟨lb, ub⟩ := ib
  rcases in_cases a (1) 100000000 with ⟨t0, u0⟩ | t0 | ⟨t0, u0⟩
  · rcases in_cases b (0) 200 with ⟨t1, u1⟩ | t1 | ⟨t1, u1⟩
    · rw [rainSpecificM_yes ⟨t0, u0, t1, u1⟩]
      obtain ⟨k0, k1⟩ := rainV_bd (f := a) (rain := b) (by omega)
      obtain ⟨K, hK⟩ : ∃ K, K = rainV a b := ⟨_, rfl⟩
      rw [← hK] at k0 k1 ⊢
      have HK := Lib.hid hK
      clear hK
      go_enter Tryd.func36, Tryd.ntmps36
      go_wp2_with (first | (go_at_call 61; go_in) | (go_at_call 49; go_in) | (go_at_call 50; go_in))
      refine (rainSpecific_any _ HT.out a b t0 u0 t1 u1).mono ?_
      rintro e w1 ⟨he, hb⟩
      rw [← HK.out] at he
      subst he
      have H1 := Lib.hid (show Below w.heap.size w w1 by repeat (first | (with_reducible exact Below.refl _ _) | (with_reducible assumption) | ((with_reducible refine bl_alloc ?_ _ ?_); (focus ((first | omega | (simp <;> omega)); done))) | ((with_reducible refine bl_set ?_ _ ?_); (focus ((first | omega | (simp <;> omega)); done))) | (with_reducible refine below_drewN ?_ _) | (with_reducible refine Below.drew ?_) | ((with_reducible refine bl_trans ?_ hb ?_); (focus ((first | omega | (simp <;> omega)); done)))))
      clear hb
      go_wp2_with fail
      go_ret2
      exact ⟨rfl, by repeat (first | (with_reducible exact Below.refl _ _) | (with_reducible assumption) | ((with_reducible refine bl_alloc ?_ _ ?_); (focus ((first | omega | (simp <;> omega)); done))) | ((with_reducible refine bl_set ?_ _ ?_); (focus ((first | omega | (simp <;> omega)); done))) | (with_reducible refine below_drewN ?_ _) | (with_reducible refine Below.drew ?_) | ((with_reducible refine bl_trans ?_ H1.out ?_); (focus ((first | omega | (simp <;> omega)); done))))⟩
    · rw [rainSpecificM_no (fun h => dec_no t1 h.2.2.1)]
      go_enter Tryd.func36, Tryd.ntmps36
      go_wp2_with (first | (go_at_call 61; go_in) | (go_at_call 49; go_in) | (go_at_call 50; go_in))
      all_goals go_ret2
      all_goals exact ⟨rfl, Below.refl _ _⟩
    · rw [rainSpecificM_no (fun h => dec_no u1 h.2.2.2)]
      go_enter Tryd.func36, Tryd.ntmps36
      go_wp2_with (first | (go_at_call 61; go_in) | (go_at_call 49; go_in) | (go_at_call 50; go_in))
      all_goals go_ret2
      all_goals exact ⟨rfl, Below.refl _ _⟩
  · rw [rainSpecificM_no (fun h => dec_no t0 h.1)]
    go_enter Tryd.func36, Tryd.ntmps36
    go_wp2_with (first | (go_at_call 61; go_in) | (go_at_call 49; go_in) | (go_at_call 50; go_in))
    all_goals go_ret2
    all_goals exact ⟨rfl, Below.refl _ _⟩
  · rw [rainSpecificM_no (fun h => dec_no u0 h.2.1)]
    go_enter Tryd.func36, Tryd.ntmps36
    go_wp2_with (first | (go_at_call 61; go_in) | (go_at_call 49; go_in) | (go_at_call 50; go_in))
    all_goals go_ret2
    all_goals exact ⟨rfl, Below.refl _ _⟩
set_option maxRecDepth 20000 in
set_option maxHeartbeats 4000000 in
theorem walk (w : World) (hT : PowTab w) (a0 : Int) (ia0 : In64 a0) (a1 : Int) (ia1 : In64 a1) :
    Calls Tryd.prog 11 #[.int .i64 a0, .int .i64 a1] w fun e w' => e = .returned (.bool true) ∧ Below w.heap.size w w' := by
  have HTab := Lib.hid hT
  clear hT
  go_enter Tryd.func11, Tryd.ntmps11
  go_wp2_with fail
  refine (spec_any _ a0 ia0 a1 ia1).mono ?_
  rintro e w1 ⟨rfl, hb⟩
  have zz1 : w.heap.size ≤ w1.heap.size := (by have := hb.size; ((try simp at this) <;> omega))
  have H1 := Lib.hid (show Below w.heap.size w w1 by repeat (first | (with_reducible exact Below.refl _ _) | (with_reducible assumption) | ((with_reducible refine bl_alloc ?_ _ ?_); (focus ((first | omega | (simp <;> omega)); done))) | ((with_reducible refine bl_set ?_ _ ?_); (focus ((first | omega | (simp <;> omega)); done))) | (with_reducible refine below_drewN ?_ _) | (with_reducible refine Below.drew ?_) | ((with_reducible refine bl_trans ?_ hb ?_); (focus ((first | omega | (simp <;> omega)); done)))))
  clear hb
  go_wp2_with fail
  refine (impl_any _ (PowTab.below HTab.out (by repeat (first | (with_reducible exact Below.refl _ _) | (with_reducible assumption) | ((with_reducible refine bl_alloc ?_ _ ?_); (focus ((first | omega | (simp <;> omega)); done))) | ((with_reducible refine bl_set ?_ _ ?_); (focus ((first | omega | (simp <;> omega)); done))) | (with_reducible refine below_drewN ?_ _) | (with_reducible refine Below.drew ?_) | ((with_reducible refine bl_trans ?_ H1.out ?_); (focus ((first | omega | (simp <;> omega)); done)))))) a0 ia0 a1 ia1).mono ?_
  rintro e w2 ⟨rfl, hb⟩
  have zz2 : w1.heap.size ≤ w2.heap.size := (by have := hb.size; ((try simp at this) <;> omega))
  have H2 := Lib.hid (show Below w.heap.size w w2 by repeat (first | (with_reducible exact Below.refl _ _) | (with_reducible assumption) | ((with_reducible refine bl_alloc ?_ _ ?_); (focus ((first | omega | (simp <;> omega)); done))) | ((with_reducible refine bl_set ?_ _ ?_); (focus ((first | omega | (simp <;> omega)); done))) | (with_reducible refine below_drewN ?_ _) | (with_reducible refine Below.drew ?_) | ((with_reducible refine bl_trans ?_ hb ?_); (focus ((first | omega | (simp <;> omega)); done))) | ((with_reducible refine bl_trans ?_ H1.out ?_); (focus ((first | omega | (simp <;> omega)); done)))))
  clear hb H1
  go_wp2_with fail
  go_ret
  exact ⟨rfl, (by repeat (first | (with_reducible exact Below.refl _ _) | (with_reducible assumption) | ((with_reducible refine bl_alloc ?_ _ ?_); (focus ((first | omega | (simp <;> omega)); done))) | ((with_reducible refine bl_set ?_ _ ?_); (focus ((first | omega | (simp <;> omega)); done))) | (with_reducible refine below_drewN ?_ _) | (with_reducible refine Below.drew ?_) | ((with_reducible refine bl_trans ?_ H2.out ?_); (focus ((first | omega | (simp <;> omega)); done)))))⟩
end Go.Proofs.YtbmmgkicgcdpmaaDoor.fnExactRainSpecific
