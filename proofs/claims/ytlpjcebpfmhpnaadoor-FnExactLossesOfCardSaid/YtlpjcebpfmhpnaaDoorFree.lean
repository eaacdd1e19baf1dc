/-
  Contracts of the loss in free space: the program's and the reference's: one model. The conditions are the hypotheses.
-/
import Derived.Test.YtlpjcebpfmhpnaaDoorRows
import Derived.Test.YtlpjcebpfmhpnaaDoorLib
import Derived.Test.YtlpjcebpfmhpnaaDoorLogMath
import Derived.Test.YtlpjcebpfmhpnaaDoorLogS
import Derived.Test.YtlpjcebpfmhpnaaDoorLogI
namespace Go.Proofs.YtlpjcebpfmhpnaaDoor
open Go.RowKit
set_option linter.unusedSimpArgs false
set_option linter.unusedVariables false
def freeV (f d : Int) : Int := max (2 * logV d + 2 * logV f - 87552) 0
theorem freeV_bd {f d : Int} (h1 : f < 10000000000000000000) (h2 : d < 10000000000000000000) : 0 ≤ freeV f d ∧ freeV f d ≤ 800000 := by
  obtain ⟨a, b⟩ := logV_bd h1
  obtain ⟨c, e⟩ := logV_bd h2
  unfold freeV
  omega
theorem l00Max_any (w : World) (a b : Int) : Calls Tryd.prog 69 #[.int .i64 a, .int .i64 b] w fun e w' => e = .returned (.int .i64 (max a b)) ∧ w = w' := by
  by_cases h : b < a
  · have e : max a b = a := by omega
    rw [e]
    clear e
    go_enter Tryd.func69, Tryd.ntmps69
    go_wp2
    go_ret
    exact ⟨rfl, rfl⟩
  · have e : max a b = b := by omega
    have h' : a ≤ b := by omega
    rw [e]
    clear e h
    go_enter Tryd.func69, Tryd.ntmps69
    go_wp2
    go_ret
    exact ⟨rfl, rfl⟩
theorem freeLoss_any (w : World) (hT : PowTab w) (f d : Int) (f0 : 1 ≤ f) (f1 : f ≤ 100000000) (d0 : 1 ≤ d) (d1 : d ≤ 100000000) :
    Calls Tryd.prog 55 #[.int .i64 f, .int .i64 d] w fun e w' => e = .returned (.int .i64 (freeV f d)) ∧ Below w.heap.size w w' := by
  obtain ⟨k0, k1⟩ := logV_bd (n := f) (by omega)
  obtain ⟨k2, k3⟩ := logV_bd (n := d) (by omega)
  have HV : Hid (freeV f d = max (2 * logV d + 2 * logV f - 87552) 0) := rfl
  have HT := Lib.hid hT
  clear hT
  go_enter Tryd.func55, Tryd.ntmps55
  go_wp2_with fail
  refine (LogDb_any _ HT.out d ⟨by omega, by omega⟩).mono ?_
  rintro e w1 ⟨he, hb⟩
  have H1 := Lib.hid hb
  have HT1 := Lib.hid (HT.out.below hb)
  have zz : w.heap.size ≤ w1.heap.size := hb.size
  clear hb
  generalize logV d = D at *
  subst he
  go_wp2_with fail
  refine (LogDb_any _ HT1.out f ⟨by omega, by omega⟩).mono ?_
  rintro e w2 ⟨he, hb⟩
  have H2 := Lib.hid (show Below w.heap.size w w2 by repeat (first | (with_reducible exact Below.refl _ _) | (with_reducible assumption) | ((with_reducible refine bl_alloc ?_ _ ?_); (focus ((first | omega | (simp <;> omega)); done))) | ((with_reducible refine bl_set ?_ _ ?_); (focus ((first | omega | (simp <;> omega)); done))) | (with_reducible refine below_drewN ?_ _) | (with_reducible refine Below.drew ?_) | ((with_reducible refine bl_trans ?_ hb ?_); (focus ((first | omega | (simp <;> omega)); done))) | ((with_reducible refine bl_trans ?_ H1.out ?_); (focus ((first | omega | (simp <;> omega)); done)))))
  clear hb
  generalize logV f = F at *
  subst he
  go_wp2_with fail
  go_ret
  exact ⟨ret_int HV.out.symm, H2.out⟩
theorem l09Loss_any (w : World) (f d : Int) (f0 : 1 ≤ f) (f1 : f ≤ 100000000) (d0 : 1 ≤ d) (d1 : d ≤ 100000000) :
    Calls Tryd.prog 44 #[.int .i64 f, .int .i64 d] w fun e w' => e = .returned (.int .i64 (freeV f d)) ∧ w = w' := by
  obtain ⟨k0, k1⟩ := logV_bd (n := f) (by omega)
  obtain ⟨k2, k3⟩ := logV_bd (n := d) (by omega)
  have HV : Hid (freeV f d = max (2 * logV d + 2 * logV f - 87552) 0) := rfl
  go_enter Tryd.func44, Tryd.ntmps44
  go_wp2_with fail
  refine (l02Log_any _ d (by omega) (by omega)).mono ?_
  rintro e w1 ⟨he, rfl⟩
  generalize logV d = D at *
  subst he
  go_wp2_with fail
  refine (l02Log_any _ f (by omega) (by omega)).mono ?_
  rintro e w1 ⟨he, rfl⟩
  generalize logV f = F at *
  subst he
  go_wp2_with fail
  refine (l00Max_any _ _ _).mono ?_
  rintro e w1 ⟨rfl, rfl⟩
  go_wp2_with fail
  go_ret
  exact ⟨ret_int (by rw [HV.out]; omega), rfl⟩
end Go.Proofs.YtlpjcebpfmhpnaaDoor
