/-
  Contracts of the least level for a mode: the program's and the reference's: one model. The conditions are the hypotheses.
-/
import Derived.Test.YtlpjcebpfmhpnaaDoorRows
import Derived.Test.YtlpjcebpfmhpnaaDoorLib
import Derived.Test.YtlpjcebpfmhpnaaDoorModes
import Derived.Test.YtlpjcebpfmhpnaaDoorFloor
import Derived.Outline
import Derived.Deep.RegionHeld3
import Derived.Deep.DrawnRows
namespace Go.Proofs.YtlpjcebpfmhpnaaDoor
open Go.RowKit
set_option linter.unusedSimpArgs false
set_option linter.unusedVariables false
attribute [local go_sem ↓] Go.wp_at_zero Go.wp_at_succ
def leastV (ms : List (Int × Int)) (k : Nat) (f wd n : Int) : Int := (ms.getD k (0, 0)).1 + flV wd n + f
set_option maxRecDepth 20000 in
set_option maxHeartbeats 4000000 in
theorem leastLevel_any (w : World) (hT : PowTab w) (s : ByteArray) (p f n wd : Int) (g cap m : Nat) (ms : List (Int × Int)) (la : g < w.heap.size) (hc : ∀ k, k < m → w.cell? ⟨g, k * 2, none⟩ = some (.int .i64 (ms.getD k (0, 0)).1))
    (f0 : -300000 ≤ f) (f1 : f ≤ 300000) (d1 : 1 ≤ wd) (d2 : wd ≤ 100000) (n1 : 0 ≤ n) (n2 : n ≤ 30000) (k : Nat) (hk : k < m) (x0 : -50000 ≤ (ms.getD k (0, 0)).1) (x1 : (ms.getD k (0, 0)).1 ≤ 100000) :
    Calls Tryd.prog 31 #[.agg #[.string s, .int .i64 p, .int .i64 f, .int .i64 n, .int .i64 wd, .slice (some ⟨g, 0, none⟩) m cap], .int .i64 k] w fun e w' => e = .returned (.int .i64 (leastV ms k f wd n)) ∧ Below w.heap.size w w' := by
  obtain ⟨k0, k1⟩ := flV_bd (wd := wd) d2 n1 n2
  have HT := Lib.hid hT
  have c1 := hc k hk
  have HV : Hid (leastV ms k f wd n = (ms.getD k (0, 0)).1 + flV wd n + f) := rfl
  have HC : Hid (∀ W : World, Below w.heap.size w W → Calls Tryd.prog 61 #[.agg #[.string s, .int .i64 p, .int .i64 f, .int .i64 n, .int .i64 wd, .slice (some ⟨g, 0, none⟩) m cap]] W fun e w' => e = .returned (.int .i64 (flV wd n)) ∧ Below W.heap.size W w') := fun W hW =>
    floor_any W (PowTab.below HT.out hW) s p f n wd _ d1 d2 n1 n2
  obtain ⟨V, hV⟩ : ∃ V, V = leastV ms k f wd n := ⟨_, rfl⟩
  rw [← hV] at HV ⊢
  obtain ⟨x, hx⟩ : ∃ x, x = (ms.getD k (0, 0)).1 := ⟨_, rfl⟩
  rw [← hx] at HV c1 x0 x1
  obtain ⟨K, hK⟩ : ∃ K, K = flV wd n := ⟨_, rfl⟩
  rw [← hK] at HV HC k0 k1
  clear hT hV hx hK hc
  have i0 : (0 : Int) ≤ (k : Int) := Int.natCast_nonneg _
  have i1 : (k : Int) < (m : Int) := by omega
  have i2 : IntKind.i64.wrap (x + K) = x + K := by rw [IntKind.wrap_i64]; omega
  have i3 : IntKind.i64.wrap (x + K + f) = x + K + f := by rw [IntKind.wrap_i64]; omega
  go_enter Tryd.func31, Tryd.ntmps31
  go_wp2_with fail
  go_region_held3 (fun w' => w'.cell? ⟨w.heap.size, 0, none⟩ = some (.string s) ∧ w'.cell? ⟨w.heap.size, 1, none⟩ = some (.int .i64 p) ∧ w'.cell? ⟨w.heap.size, 2, none⟩ = some (.int .i64 f) ∧ w'.cell? ⟨w.heap.size, 3, none⟩ = some (.int .i64 n) ∧ w'.cell? ⟨w.heap.size, 4, none⟩ = some (.int .i64 wd) ∧ w'.cell? ⟨w.heap.size, 5, none⟩ = some (.slice (some ⟨g, 0, none⟩) m cap) ∧ w'.cell? ⟨g, k * 2, none⟩ = some (.int .i64 x))
    (first | (refine ⟨?_, ?_, ?_, ?_, ?_, ?_, ?_⟩ <;> first | assumption | exact cell_alloc c1 _) | (go_split_ands; (refine ⟨?_, ?_, ?_, ?_, ?_, ?_, ?_⟩ <;> first | assumption | (refine keeps hb ?_; assumption))) | go_keep)
    (first | (go_at_call 61; ((with_reducible refine (HC.out _ (by repeat (first | (with_reducible exact Below.refl _ _) | (with_reducible assumption) | ((with_reducible refine bl_alloc ?_ _ ?_); (focus ((first | omega | (simp <;> omega)); done))) | ((with_reducible refine bl_set ?_ _ ?_); (focus ((first | omega | (simp <;> omega)); done))) | (with_reducible refine below_drewN ?_ _) | (with_reducible refine Below.drew ?_)))).mono ?_); rintro e w1 ⟨rfl, hb⟩; have H1 := Lib.hid (show Below w.heap.size w w1 by repeat (first | (with_reducible exact Below.refl _ _) | (with_reducible assumption) | ((with_reducible refine bl_alloc ?_ _ ?_); (focus ((first | omega | (simp <;> omega)); done))) | ((with_reducible refine bl_set ?_ _ ?_); (focus ((first | omega | (simp <;> omega)); done))) | (with_reducible refine below_drewN ?_ _) | (with_reducible refine Below.drew ?_) | ((with_reducible refine bl_trans ?_ hb ?_); (focus ((first | omega | (simp <;> omega)); done))))))))
  go_wp2_with fail
  go_ret
  exact ⟨ret_int HV.out.symm, by repeat (first | (with_reducible exact Below.refl _ _) | (with_reducible assumption) | ((with_reducible refine bl_alloc ?_ _ ?_); (focus ((first | omega | (simp <;> omega)); done))) | ((with_reducible refine bl_set ?_ _ ?_); (focus ((first | omega | (simp <;> omega)); done))) | (with_reducible refine below_drewN ?_ _) | (with_reducible refine Below.drew ?_) | ((with_reducible refine bl_trans ?_ H1.out ?_); (focus ((first | omega | (simp <;> omega)); done))))⟩
set_option maxRecDepth 20000 in
set_option maxHeartbeats 4000000 in
theorem l07Least_any (w : World) (o : Nat) (f n wd : Int) (g cap m : Nat) (ms : List (Int × Int)) (hc : ∀ k, k < m → w.cell? ⟨g, k * 2, none⟩ = some (.int .i64 (ms.getD k (0, 0)).1))
    (c2 : w.cell? ⟨o, 2, none⟩ = some (.int .i64 f)) (c3 : w.cell? ⟨o, 3, none⟩ = some (.int .i64 n)) (c4 : w.cell? ⟨o, 4, none⟩ = some (.int .i64 wd)) (c5 : w.cell? ⟨o, 5, none⟩ = some (.slice (some ⟨g, 0, none⟩) m cap))
    (f0 : -300000 ≤ f) (f1 : f ≤ 300000) (d1 : 1 ≤ wd) (d2 : wd ≤ 100000) (n1 : 0 ≤ n) (n2 : n ≤ 30000) (k : Nat) (hk : k < m) (x0 : -50000 ≤ (ms.getD k (0, 0)).1) (x1 : (ms.getD k (0, 0)).1 ≤ 100000) :
    Calls Tryd.prog 27 #[.pointer (some ⟨o, 0, none⟩), .int .i64 k] w fun e w' => e = .returned (.int .i64 (leastV ms k f wd n)) ∧ ∃ q, w' = w.drewN q := by
  obtain ⟨k0, k1⟩ := flV_bd (wd := wd) d2 n1 n2
  have c1 := hc k hk
  have HV : Hid (leastV ms k f wd n = (ms.getD k (0, 0)).1 + flV wd n + f) := rfl
  have HC : Hid (∀ q : Nat, Calls Tryd.prog 38 #[.pointer (some ⟨o, 0, none⟩)] (w.drewN q) fun e w' => e = .returned (.int .i64 (flV wd n)) ∧ ∃ j, w' = (w.drewN q).drewN j) := fun q =>
    l07Floor_any (w.drewN q) o n wd c3 c4 d1 d2 n1 n2
  obtain ⟨V, hV⟩ : ∃ V, V = leastV ms k f wd n := ⟨_, rfl⟩
  rw [← hV] at HV ⊢
  obtain ⟨x, hx⟩ : ∃ x, x = (ms.getD k (0, 0)).1 := ⟨_, rfl⟩
  rw [← hx] at HV c1 x0 x1
  obtain ⟨K, hK⟩ : ∃ K, K = flV wd n := ⟨_, rfl⟩
  rw [← hK] at HV HC k0 k1
  clear hV hx hK hc
  have i0 : (0 : Int) ≤ (k : Int) := Int.natCast_nonneg _
  have i1 : (k : Int) < (m : Int) := by omega
  have i2 : IntKind.i64.wrap (x + K) = x + K := by rw [IntKind.wrap_i64]; omega
  have i3 : IntKind.i64.wrap (x + K + f) = x + K + f := by rw [IntKind.wrap_i64]; omega
  go_enter Tryd.func27, Tryd.ntmps27
  go_wp2_with fail
  go_quiet ((go_at_call 38; exact quiet_draws (HC.out _)))
  go_wp2_with fail
  go_ret
  exact ⟨ret_int HV.out.symm, _, rfl⟩
end Go.Proofs.YtlpjcebpfmhpnaaDoor
