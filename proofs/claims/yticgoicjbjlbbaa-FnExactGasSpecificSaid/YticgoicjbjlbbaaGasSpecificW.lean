/-
  The walk of FnExactGasSpecific: it returns true, and of what was there nothing has turned. The conditions are what its arguments' readings give.
-/
import Derived.Test.YticgoicjbjlbbaaRows
import Derived.Test.YticgoicjbjlbbaaLib
import Derived.Test.YticgoicjbjlbbaaGas
namespace Go.Proofs.Yticgoicjbjlbbaa.fnExactGasSpecific
open Go.RowKit Go.ChangeShapes Go.WideShapes Go.ChangeAt
set_option linter.unusedVariables false
set_option linter.unusedSimpArgs false

def gasOk (f : Int) : Prop := 1 ≤ f ∧ f ≤ 100000000
instance (f : Int) : Decidable (gasOk f) := by unfold gasOk; infer_instance
def gasM (f : Int) : Int × Int := if gasOk f then (tabAt (f / 1000) gasTab, 0) else (0, 2)
theorem gas_yes {f : Int} (h : gasOk f) : gasM f = (tabAt (f / 1000) gasTab, 0) := if_pos h
theorem gas_no {f : Int} (h : ¬ gasOk f) : gasM f = (0, 2) := if_neg h
theorem impl_any (w : World) (f : Int) (hf : In64 f) :
    Calls Try.prog 16 #[.int .i64 f] w fun e w' => e = .returned (.tuple #[.int .i64 (gasM f).1, .int .i64 (gasM f).2]) ∧ Below w.heap.size w w' := by
  rcases in_cases f 1 100000000 with ⟨h1, h2⟩ | h1 | ⟨h1, h2⟩
  · rw [gas_yes ⟨h1, h2⟩]
    go_enter Try.func16, Try.ntmps16
    go_wp2_with (first | (go_at_call 76; go_in) | (go_at_call 54; go_in))
    refine (gasSpecific_any _ f h1 h2).mono ?_
    rintro e w1 ⟨rfl, hb⟩
    go_wp2_with fail
    go_ret2
    exact ⟨rfl, by repeat (first | (with_reducible exact Below.refl _ _) | (with_reducible assumption) | ((with_reducible refine bl_alloc ?_ _ ?_); (focus ((first | omega | (simp <;> omega)); done))) | ((with_reducible refine bl_set ?_ _ ?_); (focus ((first | omega | (simp <;> omega)); done))) | (with_reducible refine below_drewN ?_ _) | (with_reducible refine Below.drew ?_) | ((with_reducible refine bl_trans ?_ hb ?_); (focus ((first | omega | (simp <;> omega)); done))))⟩
  · rw [gas_no (fun h => dec_no h1 h.1)]
    go_enter Try.func16, Try.ntmps16
    go_wp2
    go_ret2
    exact ⟨rfl, Below.refl _ _⟩
  · rw [gas_no (fun h => dec_no h2 h.2)]
    go_enter Try.func16, Try.ntmps16
    go_wp2
    go_ret2
    exact ⟨rfl, Below.refl _ _⟩
theorem spec_any (w : World) (f : Int) (hf : In64 f) :
    Calls Try.prog 15 #[.int .i64 f] w fun e w' => e = .returned (.tuple #[.int .i64 (gasM f).1, .int .i64 (gasM f).2]) ∧ Below w.heap.size w w' := by
  rcases in_cases f 1 100000000 with ⟨h1, h2⟩ | h1 | ⟨h1, h2⟩
  · rw [gas_yes ⟨h1, h2⟩]
    go_enter Try.func15, Try.ntmps15
    go_wp2_with (first | (go_at_call 81; go_in) | (go_at_call 52; go_in))
    refine (l11Gas_any _ f h1 h2).mono ?_
    rintro e w1 ⟨rfl, hb⟩
    go_wp2_with fail
    go_ret2
    exact ⟨rfl, by repeat (first | (with_reducible exact Below.refl _ _) | (with_reducible assumption) | ((with_reducible refine bl_alloc ?_ _ ?_); (focus ((first | omega | (simp <;> omega)); done))) | ((with_reducible refine bl_set ?_ _ ?_); (focus ((first | omega | (simp <;> omega)); done))) | (with_reducible refine below_drewN ?_ _) | (with_reducible refine Below.drew ?_) | ((with_reducible refine bl_trans ?_ hb ?_); (focus ((first | omega | (simp <;> omega)); done))))⟩
  · rw [gas_no (fun h => dec_no h1 h.1)]
    go_enter Try.func15, Try.ntmps15
    go_wp2
    go_ret2
    exact ⟨rfl, Below.refl _ _⟩
  · rw [gas_no (fun h => dec_no h2 h.2)]
    go_enter Try.func15, Try.ntmps15
    go_wp2
    go_ret2
    exact ⟨rfl, Below.refl _ _⟩
theorem walk (w : World) (a0 : Int) (ia0 : In64 a0) :
    Calls Try.prog 3 #[.int .i64 a0] w fun e w' => e = .returned (.bool true) ∧ Below w.heap.size w w' := by
  go_enter Try.func3, Try.ntmps3
  go_wp2_with fail
  refine (spec_any _ a0 ia0).mono ?_
  rintro e w1 ⟨rfl, hb⟩
  have zz1 : w.heap.size ≤ w1.heap.size := (by have := hb.size; ((try simp at this) <;> omega))
  have H1 := Lib.hid (show Below w.heap.size w w1 by repeat (first | (with_reducible exact Below.refl _ _) | (with_reducible assumption) | ((with_reducible refine bl_alloc ?_ _ ?_); (focus ((first | omega | (simp <;> omega)); done))) | ((with_reducible refine bl_set ?_ _ ?_); (focus ((first | omega | (simp <;> omega)); done))) | (with_reducible refine below_drewN ?_ _) | (with_reducible refine Below.drew ?_) | ((with_reducible refine bl_trans ?_ hb ?_); (focus ((first | omega | (simp <;> omega)); done)))))
  clear hb
  go_wp2_with fail
  refine (impl_any _ a0 ia0).mono ?_
  rintro e w2 ⟨rfl, hb⟩
  have zz2 : w1.heap.size ≤ w2.heap.size := (by have := hb.size; ((try simp at this) <;> omega))
  have H2 := Lib.hid (show Below w.heap.size w w2 by repeat (first | (with_reducible exact Below.refl _ _) | (with_reducible assumption) | ((with_reducible refine bl_alloc ?_ _ ?_); (focus ((first | omega | (simp <;> omega)); done))) | ((with_reducible refine bl_set ?_ _ ?_); (focus ((first | omega | (simp <;> omega)); done))) | (with_reducible refine below_drewN ?_ _) | (with_reducible refine Below.drew ?_) | ((with_reducible refine bl_trans ?_ hb ?_); (focus ((first | omega | (simp <;> omega)); done))) | ((with_reducible refine bl_trans ?_ H1.out ?_); (focus ((first | omega | (simp <;> omega)); done)))))
  clear hb H1
  go_wp2_with fail
  go_ret
  exact ⟨rfl, (by repeat (first | (with_reducible exact Below.refl _ _) | (with_reducible assumption) | ((with_reducible refine bl_alloc ?_ _ ?_); (focus ((first | omega | (simp <;> omega)); done))) | ((with_reducible refine bl_set ?_ _ ?_); (focus ((first | omega | (simp <;> omega)); done))) | (with_reducible refine below_drewN ?_ _) | (with_reducible refine Below.drew ?_) | ((with_reducible refine bl_trans ?_ H2.out ?_); (focus ((first | omega | (simp <;> omega)); done)))))⟩
end Go.Proofs.Yticgoicjbjlbbaa.fnExactGasSpecific
