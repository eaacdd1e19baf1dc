/-
  The walk of FnExactRangeOfLoss: it returns true, and of what was there nothing has turned. The conditions are what its arguments' readings give.
-/
import Derived.Test.YtbmmgkicgcdpmaaDoorRows
import Derived.Test.YtbmmgkicgcdpmaaDoorLib
import Derived.Test.YtbmmgkicgcdpmaaDoorShelf
import Derived.Test.YtbmmgkicgcdpmaaDoorDec
import Derived.Test.YtbmmgkicgcdpmaaDoorPow
import Derived.Test.YtbmmgkicgcdpmaaDoorInt
import Derived.Test.YtbmmgkicgcdpmaaDoorWithin
import Derived.Test.YtbmmgkicgcdpmaaDoorLogMath
import Derived.Test.YtbmmgkicgcdpmaaDoorLast
import Derived.Test.YtbmmgkicgcdpmaaDoorRange
import Derived.Test.YtbmmgkicgcdpmaaDoorLogS
import Derived.Test.YtbmmgkicgcdpmaaDoorLogI
import Derived.Test.YtbmmgkicgcdpmaaDoorFree
import Derived.Test.YtbmmgkicgcdpmaaDoorRootMath
import Derived.Outline
import Derived.Deep.RegionHeld3
import Derived.Deep.DrawnRows
namespace Go.Proofs.YtbmmgkicgcdpmaaDoor.fnExactRangeOfLoss
open Go.RowKit Go.ChangeShapes Go.WideShapes Go.ChangeAt
set_option linter.unusedVariables false
set_option linter.unusedSimpArgs false

def rangeOfLossM (a b : Int) : Int × Int := if 1 ≤ a ∧ a ≤ 100000000 ∧ 0 ≤ b ∧ b ≤ 300000 then (rangeV (lossSo a b), if rangeV (lossSo a b) = 0 then 3 else 0) else (0, 2)
theorem rangeOfLossM_yes {a b : Int} (h : 1 ≤ a ∧ a ≤ 100000000 ∧ 0 ≤ b ∧ b ≤ 300000) : rangeOfLossM a b = (rangeV (lossSo a b), if rangeV (lossSo a b) = 0 then 3 else 0) := if_pos h
theorem rangeOfLossM_no {a b : Int} (h : ¬ (1 ≤ a ∧ a ≤ 100000000 ∧ 0 ≤ b ∧ b ≤ 300000)) : rangeOfLossM a b = (0, 2) := if_neg h
set_option maxRecDepth 20000 in
set_option maxHeartbeats 2000000 in
theorem spec_any (w : World) (a : Int) (ia : In64 a) (b : Int) (ib : In64 b) :
    Calls Tryd.prog 27 #[.int .i64 a, .int .i64 b] w fun e w' => e = .returned (.tuple #[.int .i64 (rangeOfLossM a b).1, .int .i64 (rangeOfLossM a b).2]) ∧ Below w.heap.size w w' := by
  obtain ⟨la, ua⟩ := ia
  obtain ⟨lb, ub⟩ := ib
  rcases in_cases a (1) 100000000 with ⟨t0, u0⟩ | t0 | ⟨t0, u0⟩
  · rcases in_cases b (0) 300000 with ⟨t1, u1⟩ | t1 | ⟨t1, u1⟩
    · rw [rangeOfLossM_yes ⟨t0, u0, t1, u1⟩]
      obtain ⟨k0, k1⟩ := rangeV_bd (lossSo a b)
      obtain ⟨K, hK⟩ : ∃ K, K = rangeV (lossSo a b) := ⟨_, rfl⟩
      rw [← hK] at k0 k1 ⊢
      have HK2 := Lib.hid hK
      have HK : Hid (K = lastIt (lossSo a b) 19 0 283000) := hK
      clear hK
      go_enter Tryd.func27, Tryd.ntmps27
      go_wp2_with (first | (go_at_call 59; go_in) | (go_at_call 46; go_in) | (go_at_call 47; go_in))
      go_loop [6, 7] (fun x y => ∃ (low high : Int) (f : Nat), x = .int .i64 low ∧ y = .int .i64 high ∧ 0 ≤ low ∧ low ≤ high ∧ high ≤ 283000 ∧ Hid (K = lastIt (lossSo a b) f low high) ∧ Hid (high - low < 2 ^ f)) (fun x y => (intOf y - intOf x).toNat)
      case atStart => exact ⟨0, 283000, 19, rfl, rfl, by omega, by omega, by omega, HK, pow2_19⟩
      case round =>
        obtain ⟨low, high, f, rfl, rfl, l1, l2, l3, hp, hf⟩ := hrel
        by_cases hlt : low < high
        · obtain ⟨M, hM⟩ : ∃ M, M = (low + high + 1) / 2 := ⟨_, rfl⟩
          obtain ⟨g, rfl, g1, g2⟩ := root_step hlt hf.out
          have p1 := lastIt_up (so := lossSo a b) (f := g) hlt
          have p2 := lastIt_dn (so := lossSo a b) (f := g) hlt
          rw [← hM] at p1 p2 g1 g2
          have G1 := Lib.hid g1
          have G2 := Lib.hid g2
          have P1 := Lib.hid (fun h => hp.out.trans (p1 h))
          have P2 := Lib.hid (fun h => hp.out.trans (p2 h))
          have m1 : low < M := by omega
          have m2 : M ≤ high := by omega
          have hM' : (low + high + 1) / 2 = M := hM.symm
          have HM := Lib.hid hM
          obtain ⟨V, hV⟩ : ∃ V, V = freeV a M := ⟨_, rfl⟩
          have HV := Lib.hid hV
          clear hV
          clear hM p1 p2 g1 g2 hp hf
          by_cases hv : V ≤ b
          · have hp' := Lib.hid (P1.out (decide_eq_true (by rw [← HV.out]; exact hv)))
            clear P1 P2
            go_wp2_with (first | (go_at_call 53; go_in))
            refine (l09Loss_any _ a M (by omega) (by omega) (by omega) (by omega)).mono ?_
            rintro e w1 ⟨he, rfl⟩
            rw [← HV.out] at he
            subst he
            go_wp2_with fail
            go_round
            case rel => first | exact ⟨M, high, g, by first | rfl | rw [hM'], rfl, by omega, m2, l3, hp', G1⟩ | exact ⟨trivial, _, _, _, _, _, _, _, _, _, _, _, _, _, _, _, _, _, _, _, ⟨M, high, g, rfl, rfl, by omega, m2, l3, hp', G1⟩, rfl⟩
            case measure => simp [intOf]; omega
          · have hp' := Lib.hid (P2.out (decide_eq_false (by rw [← HV.out]; exact hv)))
            clear P1 P2
            go_wp2_with (first | (go_at_call 53; go_in))
            refine (l09Loss_any _ a M (by omega) (by omega) (by omega) (by omega)).mono ?_
            rintro e w1 ⟨he, rfl⟩
            rw [← HV.out] at he
            subst he
            go_wp2_with fail
            go_round
            case rel => first | exact ⟨low, M - 1, g, rfl, by first | rfl | rw [hM'], l1, by omega, by omega, hp', G2⟩ | exact ⟨trivial, _, _, _, _, _, _, _, _, _, _, _, _, _, _, _, _, _, _, _, ⟨low, M - 1, g, rfl, rfl, l1, by omega, by omega, hp', G2⟩, rfl⟩
            case measure => simp [intOf]; omega
        · have he := hp.out.trans (lastIt_end hlt f)
          clear hp hf HK HK2
          subst he
          by_cases hz : K = 0
          · subst hz
            go_wp2_with fail
            go_ret2
            exact ⟨rfl, by repeat (first | (with_reducible exact Below.refl _ _) | (with_reducible assumption) | ((with_reducible refine bl_alloc ?_ _ ?_); (focus ((first | omega | (simp <;> omega)); done))) | ((with_reducible refine bl_set ?_ _ ?_); (focus ((first | omega | (simp <;> omega)); done))) | (with_reducible refine below_drewN ?_ _) | (with_reducible refine Below.drew ?_))⟩
          · have hd : decide (K = 0) = false := decide_eq_false hz
            go_wp2_with fail
            all_goals go_ret2
            all_goals exact ⟨rfl, by repeat (first | (with_reducible exact Below.refl _ _) | (with_reducible assumption) | ((with_reducible refine bl_alloc ?_ _ ?_); (focus ((first | omega | (simp <;> omega)); done))) | ((with_reducible refine bl_set ?_ _ ?_); (focus ((first | omega | (simp <;> omega)); done))) | (with_reducible refine below_drewN ?_ _) | (with_reducible refine Below.drew ?_))⟩
    · rw [rangeOfLossM_no (fun h => dec_no t1 h.2.2.1)]
      go_enter Tryd.func27, Tryd.ntmps27
      go_wp2_with (first | (go_at_call 59; go_in) | (go_at_call 46; go_in) | (go_at_call 47; go_in))
      all_goals go_ret2
      all_goals exact ⟨rfl, by repeat (first | (with_reducible exact Below.refl _ _) | (with_reducible assumption) | ((with_reducible refine bl_alloc ?_ _ ?_); (focus ((first | omega | (simp <;> omega)); done))) | ((with_reducible refine bl_set ?_ _ ?_); (focus ((first | omega | (simp <;> omega)); done))) | (with_reducible refine below_drewN ?_ _) | (with_reducible refine Below.drew ?_))⟩
    · rw [rangeOfLossM_no (fun h => dec_no u1 h.2.2.2)]
      go_enter Tryd.func27, Tryd.ntmps27
      go_wp2_with (first | (go_at_call 59; go_in) | (go_at_call 46; go_in) | (go_at_call 47; go_in))
      all_goals go_ret2
      all_goals exact ⟨rfl, by repeat (first | (with_reducible exact Below.refl _ _) | (with_reducible assumption) | ((with_reducible refine bl_alloc ?_ _ ?_); (focus ((first | omega | (simp <;> omega)); done))) | ((with_reducible refine bl_set ?_ _ ?_); (focus ((first | omega | (simp <;> omega)); done))) | (with_reducible refine below_drewN ?_ _) | (with_reducible refine Below.drew ?_))⟩
  · rw [rangeOfLossM_no (fun h => dec_no t0 h.1)]
    go_enter Tryd.func27, Tryd.ntmps27
    go_wp2_with (first | (go_at_call 59; go_in) | (go_at_call 46; go_in) | (go_at_call 47; go_in))
    all_goals go_ret2
    all_goals exact ⟨rfl, by repeat (first | (with_reducible exact Below.refl _ _) | (with_reducible assumption) | ((with_reducible refine bl_alloc ?_ _ ?_); (focus ((first | omega | (simp <;> omega)); done))) | ((with_reducible refine bl_set ?_ _ ?_); (focus ((first | omega | (simp <;> omega)); done))) | (with_reducible refine below_drewN ?_ _) | (with_reducible refine Below.drew ?_))⟩
  · rw [rangeOfLossM_no (fun h => dec_no u0 h.2.1)]
    go_enter Tryd.func27, Tryd.ntmps27
    go_wp2_with (first | (go_at_call 59; go_in) | (go_at_call 46; go_in) | (go_at_call 47; go_in))
    all_goals go_ret2
    all_goals exact ⟨rfl, by repeat (first | (with_reducible exact Below.refl _ _) | (with_reducible assumption) | ((with_reducible refine bl_alloc ?_ _ ?_); (focus ((first | omega | (simp <;> omega)); done))) | ((with_reducible refine bl_set ?_ _ ?_); (focus ((first | omega | (simp <;> omega)); done))) | (with_reducible refine below_drewN ?_ _) | (with_reducible refine Below.drew ?_))⟩
set_option maxRecDepth 20000 in
set_option maxHeartbeats 2000000 in
theorem impl_any (w : World) (hT : PowTab w) (a : Int) (ia : In64 a) (b : Int) (ib : In64 b) :
    Calls Tryd.prog 28 #[.int .i64 a, .int .i64 b] w fun e w' => e = .returned (.tuple #[.int .i64 (rangeOfLossM a b).1, .int .i64 (rangeOfLossM a b).2]) ∧ Below w.heap.size w w' := by
  have HT := Lib.hid hT
  clear hT
  obtain ⟨la, ua⟩ := ia
  obtain ⟨lb, ub⟩ := ib
  rcases in_cases a (1) 100000000 with ⟨t0, u0⟩ | t0 | ⟨t0, u0⟩
  · rcases in_cases b (0) 300000 with ⟨t1, u1⟩ | t1 | ⟨t1, u1⟩
    · rw [rangeOfLossM_yes ⟨t0, u0, t1, u1⟩]
      obtain ⟨k0, k1⟩ := rangeV_bd (lossSo a b)
      obtain ⟨K, hK⟩ : ∃ K, K = rangeV (lossSo a b) := ⟨_, rfl⟩
      rw [← hK] at k0 k1 ⊢
      have HK2 := Lib.hid hK
      have HK : Hid (K = lastIt (lossSo a b) 19 0 283000) := hK
      clear hK
      go_enter Tryd.func28, Tryd.ntmps28
      go_wp2_with (first | (go_at_call 61; go_in) | (go_at_call 49; go_in) | (go_at_call 50; go_in))
      refine (lastDistance_any _ 63 _ (lossSo a b) (enters_of Tryd.func63 (by kernel_rfl) rfl) ?_ lossSo_falls).mono ?_
      · intro w1 d hb d0 d1
        exact rangeLoss_one w1 (HT.out.below (by repeat (first | (with_reducible exact Below.refl _ _) | (with_reducible assumption) | ((with_reducible refine bl_alloc ?_ _ ?_); (focus ((first | omega | (simp <;> omega)); done))) | ((with_reducible refine bl_set ?_ _ ?_); (focus ((first | omega | (simp <;> omega)); done))) | (with_reducible refine below_drewN ?_ _) | (with_reducible refine Below.drew ?_) | ((with_reducible refine bl_trans ?_ hb ?_); (focus ((first | omega | (simp <;> omega)); done)))))) _ _ a b d (keeps hb (by simp [go_sem])) (keeps hb (by simp [go_sem])) t0 u0 d0 d1
      rintro e w1 ⟨he, hb⟩
      rw [← HK2.out] at he
      subst he
      have H1 := Lib.hid (show Below w.heap.size w w1 by repeat (first | (with_reducible exact Below.refl _ _) | (with_reducible assumption) | ((with_reducible refine bl_alloc ?_ _ ?_); (focus ((first | omega | (simp <;> omega)); done))) | ((with_reducible refine bl_set ?_ _ ?_); (focus ((first | omega | (simp <;> omega)); done))) | (with_reducible refine below_drewN ?_ _) | (with_reducible refine Below.drew ?_) | ((with_reducible refine bl_trans ?_ hb ?_); (focus ((first | omega | (simp <;> omega)); done)))))
      clear hb
      go_wp2_with fail
      all_goals go_ret2
      all_goals exact ⟨rfl, by repeat (first | (with_reducible exact Below.refl _ _) | (with_reducible assumption) | ((with_reducible refine bl_alloc ?_ _ ?_); (focus ((first | omega | (simp <;> omega)); done))) | ((with_reducible refine bl_set ?_ _ ?_); (focus ((first | omega | (simp <;> omega)); done))) | (with_reducible refine below_drewN ?_ _) | (with_reducible refine Below.drew ?_) | ((with_reducible refine bl_trans ?_ H1.out ?_); (focus ((first | omega | (simp <;> omega)); done))))⟩
    · rw [rangeOfLossM_no (fun h => dec_no t1 h.2.2.1)]
      go_enter Tryd.func28, Tryd.ntmps28
      go_wp2_with (first | (go_at_call 61; go_in) | (go_at_call 49; go_in) | (go_at_call 50; go_in))
      all_goals go_ret2
      all_goals exact ⟨rfl, by repeat (first | (with_reducible exact Below.refl _ _) | (with_reducible assumption) | ((with_reducible refine bl_alloc ?_ _ ?_); (focus ((first | omega | (simp <;> omega)); done))) | ((with_reducible refine bl_set ?_ _ ?_); (focus ((first | omega | (simp <;> omega)); done))) | (with_reducible refine below_drewN ?_ _) | (with_reducible refine Below.drew ?_))⟩
    · rw [rangeOfLossM_no (fun h => dec_no u1 h.2.2.2)]
      go_enter Tryd.func28, Tryd.ntmps28
      go_wp2_with (first | (go_at_call 61; go_in) | (go_at_call 49; go_in) | (go_at_call 50; go_in))
      all_goals go_ret2
      all_goals exact ⟨rfl, by repeat (first | (with_reducible exact Below.refl _ _) | (with_reducible assumption) | ((with_reducible refine bl_alloc ?_ _ ?_); (focus ((first | omega | (simp <;> omega)); done))) | ((with_reducible refine bl_set ?_ _ ?_); (focus ((first | omega | (simp <;> omega)); done))) | (with_reducible refine below_drewN ?_ _) | (with_reducible refine Below.drew ?_))⟩
  · rw [rangeOfLossM_no (fun h => dec_no t0 h.1)]
    go_enter Tryd.func28, Tryd.ntmps28
    go_wp2_with (first | (go_at_call 61; go_in) | (go_at_call 49; go_in) | (go_at_call 50; go_in))
    all_goals go_ret2
    all_goals exact ⟨rfl, by repeat (first | (with_reducible exact Below.refl _ _) | (with_reducible assumption) | ((with_reducible refine bl_alloc ?_ _ ?_); (focus ((first | omega | (simp <;> omega)); done))) | ((with_reducible refine bl_set ?_ _ ?_); (focus ((first | omega | (simp <;> omega)); done))) | (with_reducible refine below_drewN ?_ _) | (with_reducible refine Below.drew ?_))⟩
  · rw [rangeOfLossM_no (fun h => dec_no u0 h.2.1)]
    go_enter Tryd.func28, Tryd.ntmps28
    go_wp2_with (first | (go_at_call 61; go_in) | (go_at_call 49; go_in) | (go_at_call 50; go_in))
    all_goals go_ret2
    all_goals exact ⟨rfl, by repeat (first | (with_reducible exact Below.refl _ _) | (with_reducible assumption) | ((with_reducible refine bl_alloc ?_ _ ?_); (focus ((first | omega | (simp <;> omega)); done))) | ((with_reducible refine bl_set ?_ _ ?_); (focus ((first | omega | (simp <;> omega)); done))) | (with_reducible refine below_drewN ?_ _) | (with_reducible refine Below.drew ?_))⟩
set_option maxRecDepth 20000 in
set_option maxHeartbeats 4000000 in
theorem walk (w : World) (hT : PowTab w) (a0 : Int) (ia0 : In64 a0) (a1 : Int) (ia1 : In64 a1) :
    Calls Tryd.prog 9 #[.int .i64 a0, .int .i64 a1] w fun e w' => e = .returned (.bool true) ∧ Below w.heap.size w w' := by
  have HTab := Lib.hid hT
  clear hT
  go_enter Tryd.func9, Tryd.ntmps9
  go_wp2_with fail
  refine (spec_any _ a0 ia0 a1 ia1).mono ?_
  rintro e w1 ⟨rfl, hb⟩
  have zz1 : w.heap.size ≤ w1.heap.size := (by have := hb.size; ((try simp at this) <;> omega))
  have H1 := Lib.hid (show Below w.heap.size w w1 by repeat (first | (with_reducible exact Below.refl _ _) | (with_reducible assumption) | ((with_reducible refine bl_alloc ?_ _ ?_); (focus ((first | omega | (simp <;> omega)); done))) | ((with_reducible refine bl_set ?_ _ ?_); (focus ((first | omega | (simp <;> omega)); done))) | (with_reducible refine below_drewN ?_ _) | (with_reducible refine Below.drew ?_) | ((with_reducible refine bl_trans ?_ hb ?_); (focus ((first | omega | (simp <;> omega)); done)))))
  clear hb
  go_wp2_with fail
  refine (impl_any _ (PowTab.below HTab.out (by repeat (first | (with_reducible exact Below.refl _ _) | (with_reducible assumption) | ((with_reducible refine bl_alloc ?_ _ ?_); (focus ((first | omega | (simp <;> omega)); done))) | ((with_reducible refine bl_set ?_ _ ?_); (focus ((first | omega | (simp <;> omega)); done))) | (with_reducible refine below_drewN ?_ _) | (with_reducible refine Below.drew ?_) | ((with_reducible refine bl_trans ?_ H1.out ?_); (focus ((first | omega | (simp <;> omega)); done)))))) a0 ia0 a1 ia1).mono ?_
  rintro e w2 ⟨rfl, hb⟩
  have zz2 : w1.heap.size ≤ w2.heap.size := (by have := hb.size; ((try simp at this) <;> omega))
  have H2 := Lib.hid (show Below w.heap.size w w2 by repeat (first | (with_reducible exact Below.refl _ _) | (with_reducible assumption) | ((with_reducible refine bl_alloc ?_ _ ?_); (focus ((first | omega | (simp <;> omega)); done))) | ((with_reducible refine bl_set ?_ _ ?_); (focus ((first | omega | (simp <;> omega)); done))) | (with_reducible refine below_drewN ?_ _) | (with_reducible refine Below.drew ?_) | ((with_reducible refine bl_trans ?_ hb ?_); (focus ((first | omega | (simp <;> omega)); done))) | ((with_reducible refine bl_trans ?_ H1.out ?_); (focus ((first | omega | (simp <;> omega)); done)))))
  clear hb H1
  go_wp2_with fail
  go_ret
  exact ⟨rfl, (by repeat (first | (with_reducible exact Below.refl _ _) | (with_reducible assumption) | ((with_reducible refine bl_alloc ?_ _ ?_); (focus ((first | omega | (simp <;> omega)); done))) | ((with_reducible refine bl_set ?_ _ ?_); (focus ((first | omega | (simp <;> omega)); done))) | (with_reducible refine below_drewN ?_ _) | (with_reducible refine Below.drew ?_) | ((with_reducible refine bl_trans ?_ H2.out ?_); (focus ((first | omega | (simp <;> omega)); done)))))⟩
end Go.Proofs.YtbmmgkicgcdpmaaDoor.fnExactRangeOfLoss
