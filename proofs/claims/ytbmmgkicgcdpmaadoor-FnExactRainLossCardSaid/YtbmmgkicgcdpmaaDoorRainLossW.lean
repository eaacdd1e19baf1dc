/-
  The walk of FnExactRainLoss: it returns true, and of what was there nothing has turned. The conditions are what its arguments' readings give.
-/
import Derived.Test.YtbmmgkicgcdpmaaDoorRows
import Derived.Test.YtbmmgkicgcdpmaaDoorLib
import Derived.Test.YtbmmgkicgcdpmaaDoorShelf
import Derived.Test.YtbmmgkicgcdpmaaDoorDec
import Derived.Test.YtbmmgkicgcdpmaaDoorPow
import Derived.Test.YtbmmgkicgcdpmaaDoorInt
import Derived.Test.YtbmmgkicgcdpmaaDoorWithin
import Derived.Test.YtbmmgkicgcdpmaaDoorLogMath
import Derived.Test.YtbmmgkicgcdpmaaDoorRain
import Derived.Outline
import Derived.Deep.RegionHeld3
import Derived.Deep.DrawnRows
namespace Go.Proofs.YtbmmgkicgcdpmaaDoor.fnExactRainLoss
open Go.RowKit Go.ChangeShapes Go.WideShapes Go.ChangeAt
set_option linter.unusedVariables false
set_option linter.unusedSimpArgs false

def rainLossM (a b c : Int) : Int × Int := if 1 ≤ a ∧ a ≤ 100000000 ∧ 0 ≤ b ∧ b ≤ 200 ∧ 1 ≤ c ∧ c ≤ 283000 then (wetV a b c, 0) else (0, 2)
theorem rainLossM_yes {a b c : Int} (h : 1 ≤ a ∧ a ≤ 100000000 ∧ 0 ≤ b ∧ b ≤ 200 ∧ 1 ≤ c ∧ c ≤ 283000) : rainLossM a b c = (wetV a b c, 0) := if_pos h
theorem rainLossM_no {a b c : Int} (h : ¬ (1 ≤ a ∧ a ≤ 100000000 ∧ 0 ≤ b ∧ b ≤ 200 ∧ 1 ≤ c ∧ c ≤ 283000)) : rainLossM a b c = (0, 2) := if_neg h
set_option maxRecDepth 20000 in
set_option maxHeartbeats 2000000 in
theorem spec_any (w : World) (a : Int) (ia : In64 a) (b : Int) (ib : In64 b) (c : Int) (ic : In64 c) :
    Calls Tryd.prog 37 #[.int .i64 a, .int .i64 b, .int .i64 c] w fun e w' => e = .returned (.tuple #[.int .i64 (rainLossM a b c).1, .int .i64 (rainLossM a b c).2]) ∧ Below w.heap.size w w' := by
  obtain ⟨la, ua⟩ := ia
  obtain ⟨lb, ub⟩ := ib
  obtain ⟨lc, uc⟩ := ic
  rcases in_cases a (1) 100000000 with ⟨t0, u0⟩ | t0 | ⟨t0, u0⟩
  · rcases in_cases b (0) 200 with ⟨t1, u1⟩ | t1 | ⟨t1, u1⟩
    · rcases in_cases c (1) 283000 with ⟨t2, u2⟩ | t2 | ⟨t2, u2⟩
      · rw [rainLossM_yes ⟨t0, u0, t1, u1, t2, u2⟩]
        obtain ⟨k0, k1⟩ := wetV_bd (f := a) (rain := b) (d := c) (by omega) (by omega) ⟨by omega, by omega⟩
        obtain ⟨K, hK⟩ : ∃ K, K = wetV a b c := ⟨_, rfl⟩
        rw [← hK] at k0 k1 ⊢
        have HK := Lib.hid hK
        clear hK
        go_enter Tryd.func37, Tryd.ntmps37
        go_wp2_with (first | (go_at_call 59; go_in) | (go_at_call 46; go_in) | (go_at_call 47; go_in) | (go_at_call 52; go_in) | (go_at_call 65; go_in))
        refine (l11Wet_any _ a b c t0 u0 t1 u1 t2 u2).mono ?_
        rintro e w1 ⟨he, hb⟩
        rw [← HK.out] at he
        subst he
        have H1 := Lib.hid (show Below w.heap.size w w1 by repeat (first | (with_reducible exact Below.refl _ _) | (with_reducible assumption) | ((with_reducible refine bl_alloc ?_ _ ?_); (focus ((first | omega | (simp <;> omega)); done))) | ((with_reducible refine bl_set ?_ _ ?_); (focus ((first | omega | (simp <;> omega)); done))) | (with_reducible refine below_drewN ?_ _) | (with_reducible refine Below.drew ?_) | ((with_reducible refine bl_trans ?_ hb ?_); (focus ((first | omega | (simp <;> omega)); done)))))
        clear hb
        go_wp2_with fail
        go_ret2
        exact ⟨rfl, by repeat (first | (with_reducible exact Below.refl _ _) | (with_reducible assumption) | ((with_reducible refine bl_alloc ?_ _ ?_); (focus ((first | omega | (simp <;> omega)); done))) | ((with_reducible refine bl_set ?_ _ ?_); (focus ((first | omega | (simp <;> omega)); done))) | (with_reducible refine below_drewN ?_ _) | (with_reducible refine Below.drew ?_) | ((with_reducible refine bl_trans ?_ H1.out ?_); (focus ((first | omega | (simp <;> omega)); done))))⟩
      · rw [rainLossM_no (fun h => dec_no t2 h.2.2.2.2.1)]
        go_enter Tryd.func37, Tryd.ntmps37
        go_wp2_with (first | (go_at_call 59; go_in) | (go_at_call 46; go_in) | (go_at_call 47; go_in) | (go_at_call 52; go_in) | (go_at_call 65; go_in))
        all_goals go_ret2
        all_goals exact ⟨rfl, Below.refl _ _⟩
      · rw [rainLossM_no (fun h => dec_no u2 h.2.2.2.2.2)]
        go_enter Tryd.func37, Tryd.ntmps37
        go_wp2_with (first | (go_at_call 59; go_in) | (go_at_call 46; go_in) | (go_at_call 47; go_in) | (go_at_call 52; go_in) | (go_at_call 65; go_in))
        all_goals go_ret2
        all_goals exact ⟨rfl, Below.refl _ _⟩
    · rw [rainLossM_no (fun h => dec_no t1 h.2.2.1)]
      go_enter Tryd.func37, Tryd.ntmps37
      go_wp2_with (first | (go_at_call 59; go_in) | (go_at_call 46; go_in) | (go_at_call 47; go_in) | (go_at_call 52; go_in) | (go_at_call 65; go_in))
      all_goals go_ret2
      all_goals exact ⟨rfl, Below.refl _ _⟩
    · rw [rainLossM_no (fun h => dec_no u1 h.2.2.2.1)]
      go_enter Tryd.func37, Tryd.ntmps37
      go_wp2_with (first | (go_at_call 59; go_in) | (go_at_call 46; go_in) | (go_at_call 47; go_in) | (go_at_call 52; go_in) | (go_at_call 65; go_in))
      all_goals go_ret2
      all_goals exact ⟨rfl, Below.refl _ _⟩
  · rw [rainLossM_no (fun h => dec_no t0 h.1)]
    go_enter Tryd.func37, Tryd.ntmps37
    go_wp2_with (first | (go_at_call 59; go_in) | (go_at_call 46; go_in) | (go_at_call 47; go_in) | (go_at_call 52; go_in) | (go_at_call 65; go_in))
    all_goals go_ret2
    all_goals exact ⟨rfl, Below.refl _ _⟩
  · rw [rainLossM_no (fun h => dec_no u0 h.2.1)]
    go_enter Tryd.func37, Tryd.ntmps37
    go_wp2_with (first | (go_at_call 59; go_in) | (go_at_call 46; go_in) | (go_at_call 47; go_in) | (go_at_call 52; go_in) | (go_at_call 65; go_in))
    all_goals go_ret2
    all_goals exact ⟨rfl, Below.refl _ _⟩
set_option maxRecDepth 20000 in
set_option maxHeartbeats 2000000 in
theorem impl_any (w : World) (hT : PowTab w) (a : Int) (ia : In64 a) (b : Int) (ib : In64 b) (c : Int) (ic : In64 c) :
    Calls Tryd.prog 38 #[.int .i64 a, .int .i64 b, .int .i64 c] w fun e w' => e = .returned (.tuple #[.int .i64 (rainLossM a b c).1, .int .i64 (rainLossM a b c).2]) ∧ Below w.heap.size w w' := by
  have HT := Lib.hid hT
  clear hT
  obtain ⟨la, ua⟩ := ia
  obtain ⟨lb, ub⟩ := ib
  obtain ⟨lc, uc⟩ := ic
  rcases in_cases a (1) 100000000 with ⟨t0, u0⟩ | t0 | ⟨t0, u0⟩
  · rcases in_cases b (0) 200 with ⟨t1, u1⟩ | t1 | ⟨t1, u1⟩
    · rcases in_cases c (1) 283000 with ⟨t2, u2⟩ | t2 | ⟨t2, u2⟩
      · rw [rainLossM_yes ⟨t0, u0, t1, u1, t2, u2⟩]
        obtain ⟨k0, k1⟩ := wetV_bd (f := a) (rain := b) (d := c) (by omega) (by omega) ⟨by omega, by omega⟩
        obtain ⟨K, hK⟩ : ∃ K, K = wetV a b c := ⟨_, rfl⟩
        rw [← hK] at k0 k1 ⊢
        have HK := Lib.hid hK
        clear hK
        go_enter Tryd.func38, Tryd.ntmps38
        go_wp2_with (first | (go_at_call 61; go_in) | (go_at_call 49; go_in) | (go_at_call 50; go_in) | (go_at_call 54; go_in))
        refine (rainLoss_any _ HT.out a b c t0 u0 t1 u1 t2 u2).mono ?_
        rintro e w1 ⟨he, hb⟩
        rw [← HK.out] at he
        subst he
        have H1 := Lib.hid (show Below w.heap.size w w1 by repeat (first | (with_reducible exact Below.refl _ _) | (with_reducible assumption) | ((with_reducible refine bl_alloc ?_ _ ?_); (focus ((first | omega | (simp <;> omega)); done))) | ((with_reducible refine bl_set ?_ _ ?_); (focus ((first | omega | (simp <;> omega)); done))) | (with_reducible refine below_drewN ?_ _) | (with_reducible refine Below.drew ?_) | ((with_reducible refine bl_trans ?_ hb ?_); (focus ((first | omega | (simp <;> omega)); done)))))
        clear hb
        go_wp2_with fail
        go_ret2
        exact ⟨rfl, by repeat (first | (with_reducible exact Below.refl _ _) | (with_reducible assumption) | ((with_reducible refine bl_alloc ?_ _ ?_); (focus ((first | omega | (simp <;> omega)); done))) | ((with_reducible refine bl_set ?_ _ ?_); (focus ((first | omega | (simp <;> omega)); done))) | (with_reducible refine below_drewN ?_ _) | (with_reducible refine Below.drew ?_) | ((with_reducible refine bl_trans ?_ H1.out ?_); (focus ((first | omega | (simp <;> omega)); done))))⟩
      · rw [rainLossM_no (fun h => dec_no t2 h.2.2.2.2.1)]
        go_enter Tryd.func38, Tryd.ntmps38
        go_wp2_with (first | (go_at_call 61; go_in) | (go_at_call 49; go_in) | (go_at_call 50; go_in) | (go_at_call 54; go_in))
        all_goals go_ret2
        all_goals exact ⟨rfl, Below.refl _ _⟩
      · rw [rainLossM_no (fun h => dec_no u2 h.2.2.2.2.2)]
        go_enter Tryd.func38, Tryd.ntmps38
        go_wp2_with (first | (go_at_call 61; go_in) | (go_at_call 49; go_in) | (go_at_call 50; go_in) | (go_at_call 54; go_in))
        all_goals go_ret2
        all_goals exact ⟨rfl, Below.refl _ _⟩
    · rw [rainLossM_no (fun h => dec_no t1 h.2.2.1)]
      go_enter Tryd.func38, Tryd.ntmps38
      go_wp2_with (first | (go_at_call 61; go_in) | (go_at_call 49; go_in) | (go_at_call 50; go_in) | (go_at_call 54; go_in))
      all_goals go_ret2
      all_goals exact ⟨rfl, Below.refl _ _⟩
    · rw [rainLossM_no (fun h => dec_no u1 h.2.2.2.1)]
      go_enter Tryd.func38, Tryd.ntmps38
      go_wp2_with (first | (go_at_call 61; go_in) | (go_at_call 49; go_in) | (go_at_call 50; go_in) | (go_at_call 54; go_in))
      all_goals go_ret2
      all_goals exact ⟨rfl, Below.refl _ _⟩
  · rw [rainLossM_no (fun h => dec_no t0 h.1)]
    go_enter Tryd.func38, Tryd.ntmps38
    go_wp2_with (first | (go_at_call 61; go_in) | (go_at_call 49; go_in) | (go_at_call 50; go_in) | (go_at_call 54; go_in))
    all_goals go_ret2
    all_goals exact ⟨rfl, Below.refl _ _⟩
  · rw [rainLossM_no (fun h => dec_no u0 h.2.1)]
    go_enter Tryd.func38, Tryd.ntmps38
    go_wp2_with (first | (go_at_call 61; go_in) | (go_at_call 49; go_in) | (go_at_call 50; go_in) | (go_at_call 54; go_in))
    all_goals go_ret2
    all_goals exact ⟨rfl, Below.refl _ _⟩
set_option maxRecDepth 20000 in
set_option maxHeartbeats 4000000 in
theorem walk (w : World) (hT : PowTab w) (a0 : Int) (ia0 : In64 a0) (a1 : Int) (ia1 : In64 a1) (a2 : Int) (ia2 : In64 a2) :
    Calls Tryd.prog 12 #[.int .i64 a0, .int .i64 a1, .int .i64 a2] w fun e w' => e = .returned (.bool true) ∧ Below w.heap.size w w' := by
  have HTab := Lib.hid hT
  clear hT
  go_enter Tryd.func12, Tryd.ntmps12
  go_wp2_with fail
  refine (spec_any _ a0 ia0 a1 ia1 a2 ia2).mono ?_
  rintro e w1 ⟨rfl, hb⟩
  have zz1 : w.heap.size ≤ w1.heap.size := (by have := hb.size; ((try simp at this) <;> omega))
  have H1 := Lib.hid (show Below w.heap.size w w1 by repeat (first | (with_reducible exact Below.refl _ _) | (with_reducible assumption) | ((with_reducible refine bl_alloc ?_ _ ?_); (focus ((first | omega | (simp <;> omega)); done))) | ((with_reducible refine bl_set ?_ _ ?_); (focus ((first | omega | (simp <;> omega)); done))) | (with_reducible refine below_drewN ?_ _) | (with_reducible refine Below.drew ?_) | ((with_reducible refine bl_trans ?_ hb ?_); (focus ((first | omega | (simp <;> omega)); done)))))
  clear hb
  go_wp2_with fail
  refine (impl_any _ (PowTab.below HTab.out (by repeat (first | (with_reducible exact Below.refl _ _) | (with_reducible assumption) | ((with_reducible refine bl_alloc ?_ _ ?_); (focus ((first | omega | (simp <;> omega)); done))) | ((with_reducible refine bl_set ?_ _ ?_); (focus ((first | omega | (simp <;> omega)); done))) | (with_reducible refine below_drewN ?_ _) | (with_reducible refine Below.drew ?_) | ((with_reducible refine bl_trans ?_ H1.out ?_); (focus ((first | omega | (simp <;> omega)); done)))))) a0 ia0 a1 ia1 a2 ia2).mono ?_
  rintro e w2 ⟨rfl, hb⟩
  have zz2 : w1.heap.size ≤ w2.heap.size := (by have := hb.size; ((try simp at this) <;> omega))
  have H2 := Lib.hid (show Below w.heap.size w w2 by repeat (first | (with_reducible exact Below.refl _ _) | (with_reducible assumption) | ((with_reducible refine bl_alloc ?_ _ ?_); (focus ((first | omega | (simp <;> omega)); done))) | ((with_reducible refine bl_set ?_ _ ?_); (focus ((first | omega | (simp <;> omega)); done))) | (with_reducible refine below_drewN ?_ _) | (with_reducible refine Below.drew ?_) | ((with_reducible refine bl_trans ?_ hb ?_); (focus ((first | omega | (simp <;> omega)); done))) | ((with_reducible refine bl_trans ?_ H1.out ?_); (focus ((first | omega | (simp <;> omega)); done)))))
  clear hb H1
  go_wp2_with fail
  go_ret
  exact ⟨rfl, (by repeat (first | (with_reducible exact Below.refl _ _) | (with_reducible assumption) | ((with_reducible refine bl_alloc ?_ _ ?_); (focus ((first | omega | (simp <;> omega)); done))) | ((with_reducible refine bl_set ?_ _ ?_); (focus ((first | omega | (simp <;> omega)); done))) | (with_reducible refine below_drewN ?_ _) | (with_reducible refine Below.drew ?_) | ((with_reducible refine bl_trans ?_ H2.out ?_); (focus ((first | omega | (simp <;> omega)); done)))))⟩
end Go.Proofs.YtbmmgkicgcdpmaaDoor.fnExactRainLoss
