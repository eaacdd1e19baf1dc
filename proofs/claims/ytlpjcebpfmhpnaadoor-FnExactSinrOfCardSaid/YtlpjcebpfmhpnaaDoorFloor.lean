/-
  Contracts of the noise of a radio: the program's on the value, the reference's behind a pointer: one model. The conditions are the hypotheses.
-/
import Derived.Test.YtlpjcebpfmhpnaaDoorRows
import Derived.Test.YtlpjcebpfmhpnaaDoorLib
import Derived.Test.YtlpjcebpfmhpnaaDoorLogMath
import Derived.Test.YtlpjcebpfmhpnaaDoorLogS
import Derived.Test.YtlpjcebpfmhpnaaDoorLogI
import Derived.Deep.RegionHeld3
import Derived.Deep.DrawnRows
import Derived.Outline
namespace Go.Proofs.YtlpjcebpfmhpnaaDoor
open Go.RowKit
set_option linter.unusedSimpArgs false
set_option linter.unusedVariables false
def flV (wd n : Int) : Int := logV wd - 144000 + n
theorem flV_bd {wd n : Int} (h : wd ≤ 100000) (h0 : 0 ≤ n) (h1 : n ≤ 30000) : -144000 ≤ flV wd n ∧ flV wd n ≤ 80000 := by
  obtain ⟨a, b⟩ := logV_bd (n := wd) (by omega)
  unfold flV
  omega
attribute [local go_sem ↓] Go.wp_at_zero Go.wp_at_succ
set_option maxRecDepth 20000 in
theorem floor_any (w : World) (hT : PowTab w) (s : ByteArray) (p f n wd : Int) (v : Value) (d1 : 1 ≤ wd) (d2 : wd ≤ 100000) (n1 : 0 ≤ n) (n2 : n ≤ 30000) :
    Calls Tryd.prog 61 #[.agg #[.string s, .int .i64 p, .int .i64 f, .int .i64 n, .int .i64 wd, v]] w fun e w' => e = .returned (.int .i64 (flV wd n)) ∧ Below w.heap.size w w' := by
  obtain ⟨k0, k1⟩ := logV_bd (n := wd) (by omega)
  have HV : Hid (flV wd n = logV wd - 144000 + n) := rfl
  have HT := Lib.hid hT
  have HIW := Lib.hid (show In64 wd from ⟨by omega, by omega⟩)
  have i4 : IntKind.i64.wrap (logV wd - 144000) = logV wd - 144000 := by rw [IntKind.wrap_i64]; omega
  have i5 : IntKind.i64.wrap (logV wd - 144000 + n) = logV wd - 144000 + n := by rw [IntKind.wrap_i64]; omega
  clear hT
  go_enter Tryd.func61, Tryd.ntmps61
  go_wp2_with fail
  go_region_held3 (fun w' => w'.cell? ⟨w.heap.size, 4, none⟩ = some (.int .i64 wd) ∧ w'.cell? ⟨w.heap.size, 3, none⟩ = some (.int .i64 n))
    (first | (refine ⟨?_, ?_⟩ <;> assumption) | (go_split_ands; (refine ⟨?_, ?_⟩ <;> first | assumption | (refine keeps hb ?_; assumption))) | go_keep)
    (first | (go_at_call 75; ((with_reducible refine (LogDb_any _ (PowTab.below HT.out (by repeat (first | (with_reducible exact Below.refl _ _) | (with_reducible assumption) | ((with_reducible refine bl_alloc ?_ _ ?_); (focus ((first | omega | (simp <;> omega)); done))) | ((with_reducible refine bl_set ?_ _ ?_); (focus ((first | omega | (simp <;> omega)); done))) | (with_reducible refine below_drewN ?_ _) | (with_reducible refine Below.drew ?_)))) wd HIW.out).mono ?_); rintro e w1 ⟨rfl, hb⟩)))
  have HB := Lib.hid (show Below w.heap.size w w1 by repeat (first | (with_reducible exact Below.refl _ _) | (with_reducible assumption) | ((with_reducible refine bl_alloc ?_ _ ?_); (focus ((first | omega | (simp <;> omega)); done))) | ((with_reducible refine bl_set ?_ _ ?_); (focus ((first | omega | (simp <;> omega)); done))) | (with_reducible refine below_drewN ?_ _) | (with_reducible refine Below.drew ?_) | ((with_reducible refine bl_trans ?_ hb ?_); (focus ((first | omega | (simp <;> omega)); done)))))
  clear hb
  go_wp2_with fail
  go_ret
  exact ⟨ret_int HV.out.symm, HB.out⟩
set_option maxRecDepth 20000 in
theorem l07Floor_any (w : World) (o : Nat) (n wd : Int) (x3 : w.cell? ⟨o, 3, none⟩ = some (.int .i64 n)) (x4 : w.cell? ⟨o, 4, none⟩ = some (.int .i64 wd)) (d1 : 1 ≤ wd) (d2 : wd ≤ 100000) (n1 : 0 ≤ n) (n2 : n ≤ 30000) :
    Calls Tryd.prog 38 #[.pointer (some ⟨o, 0, none⟩)] w fun e w' => e = .returned (.int .i64 (flV wd n)) ∧ ∃ m, w' = w.drewN m := by
  obtain ⟨k0, k1⟩ := logV_bd (n := wd) (by omega)
  have HV : Hid (flV wd n = logV wd - 144000 + n) := rfl
  obtain ⟨K, hK⟩ : ∃ K, K = logV wd := ⟨_, rfl⟩
  have HK := Lib.hid hK
  rw [← hK] at k0 k1
  clear hK
  have i4 : IntKind.i64.wrap (K - 144000) = K - 144000 := by rw [IntKind.wrap_i64]; omega
  have i5 : IntKind.i64.wrap (K - 144000 + n) = K - 144000 + n := by rw [IntKind.wrap_i64]; omega
  have HC : Hid (∀ W : World, Calls Tryd.prog 68 #[.int .i64 wd] W fun e w' => e = .returned (.int .i64 K) ∧ W = w') := fun W => by
    rw [HK.out]
    exact l02Log_any W wd (by omega) (by omega)
  go_enter Tryd.func38, Tryd.ntmps38
  go_wp2_with fail
  go_quiet ((go_at_call 68; exact quiet_left (HC.out _)))
  go_wp2_with fail
  go_ret
  exact ⟨ret_int (by rw [HV.out, HK.out]), _, rfl⟩
end Go.Proofs.YtlpjcebpfmhpnaaDoor
