/-
  Contracts of the functions that give the loss by gases per kilometre; the frequency is one.
-/
import Derived.Test.YtlpjcebpfmhpnaaDoorTab
import Derived.Test.YtlpjcebpfmhpnaaDoorLib
namespace Go.Proofs.YtlpjcebpfmhpnaaDoor
open Go.RowKit
set_option linter.unusedSimpArgs false
set_option linter.unusedVariables false
def gasTab : List (Int × Int) := [(1000, 5), (10000, 14), (20000, 110), (22000, 190), (30000, 90), (50000, 500), (60000, 15000), (70000, 450), (100000, 480)]
theorem gas_all {p : Int × Int} (hp : p ∈ gasTab) : (1000 ≤ p.1 ∧ p.1 ≤ 100000) ∧ (5 ≤ p.2 ∧ p.2 ≤ 15000) := by
  simp only [gasTab, List.mem_cons, List.not_mem_nil, or_false] at hp
  rcases hp with rfl | rfl | rfl | rfl | rfl | rfl | rfl | rfl | rfl <;> exact ⟨⟨by omega, by omega⟩, ⟨by omega, by omega⟩⟩
theorem gas_mid : ∀ p ∈ gasTab, Mid p.1 ∧ Mid p.2 := fun p hp => by
  have h := gas_all hp
  exact ⟨⟨by omega, by omega⟩, ⟨by omega, by omega⟩⟩
theorem gas_bd (x : Int) : 5 ≤ tabAt x gasTab ∧ tabAt x gasTab ≤ 15000 := tabAt_bd (by simp [gasTab]) fun p hp => (gas_all hp).2
theorem gas_nine {k : Nat} (h : k < 9) : k = 0 ∨ k = 1 ∨ k = 2 ∨ k = 3 ∨ k = 4 ∨ k = 5 ∨ k = 6 ∨ k = 7 ∨ k = 8 := by omega
theorem gas_rise : ∀ k, k + 1 < 9 → (gasTab.getD k (0, 0)).1 < (gasTab.getD (k + 1) (0, 0)).1 := by
  intro k hk
  have h : k = 0 ∨ k = 1 ∨ k = 2 ∨ k = 3 ∨ k = 4 ∨ k = 5 ∨ k = 6 ∨ k = 7 := by omega
  rcases h with rfl | rfl | rfl | rfl | rfl | rfl | rfl | rfl <;> decide
theorem gasSpecific_any (w : World) (f : Int) (h1 : 1 ≤ f) (h2 : f ≤ 100000000) :
    Calls Tryd.prog 77 #[.int .i64 f] w fun e w' => e = .returned (.int .i64 (tabAt (f / 1000) gasTab)) ∧ Below w.heap.size w w' := by
  go_enter Tryd.func77, Tryd.ntmps77
  go_wp2_with fail
  refine (rowsAt_any gasTab f (by omega) _ 9 _ rfl (by omega) (by omega) gas_mid _ ?_).mono ?_
  · intro k hk
    rcases gas_nine hk with rfl | rfl | rfl | rfl | rfl | rfl | rfl | rfl | rfl <;> simp [go_sem, gasTab]
  rintro e w1 ⟨rfl, n, rfl⟩
  go_wp2_with fail
  go_ret
  exact ⟨rfl, by repeat (first | (with_reducible exact Below.refl _ _) | (with_reducible assumption) | ((with_reducible refine bl_alloc ?_ _ ?_); (focus ((first | omega | (simp <;> omega)); done))) | ((with_reducible refine bl_set ?_ _ ?_); (focus ((first | omega | (simp <;> omega)); done))) | (with_reducible refine below_drewN ?_ _) | (with_reducible refine Below.drew ?_))⟩
theorem l11Gas_any (w : World) (f : Int) (h1 : 1 ≤ f) (h2 : f ≤ 100000000) :
    Calls Tryd.prog 46 #[.int .i64 f] w fun e w' => e = .returned (.int .i64 (tabAt (f / 1000) gasTab)) ∧ Below w.heap.size w w' := by
  go_enter Tryd.func46, Tryd.ntmps46
  go_wp2_with fail
  refine (l11Table_any gasTab (f / 1000) ⟨by omega, by omega⟩ _ _ 9 _ _ rfl (by omega) (by omega) gas_mid gas_rise _ ?_).mono ?_
  · intro k hk
    rcases gas_nine hk with rfl | rfl | rfl | rfl | rfl | rfl | rfl | rfl | rfl <;> simp [go_sem, gasTab]
  rintro e w1 ⟨rfl, n, rfl⟩
  go_wp2_with fail
  go_ret
  exact ⟨rfl, by repeat (first | (with_reducible exact Below.refl _ _) | (with_reducible assumption) | ((with_reducible refine bl_alloc ?_ _ ?_); (focus ((first | omega | (simp <;> omega)); done))) | ((with_reducible refine bl_set ?_ _ ?_); (focus ((first | omega | (simp <;> omega)); done))) | (with_reducible refine below_drewN ?_ _) | (with_reducible refine Below.drew ?_))⟩
end Go.Proofs.YtlpjcebpfmhpnaaDoor
