/-
  Contracts of copies of a row that is not empty: the program's (slices.Clone) and the reference's (l00Own). The conditions are the hypotheses.
-/
import Derived.Test.YtampjgfddakdoaaDoorRows
import Derived.Test.YtampjgfddakdoaaDoorLib
import Derived.Test.YtampjgfddakdoaaDoorInts
import Derived.OwnWalk
import Derived.WalkSpells
import Derived.Outline
namespace Go.Proofs.YtampjgfddakdoaaDoor
open Go.RowKit
set_option linter.unusedSimpArgs false
set_option linter.unusedVariables false
theorem Tryd.info_i64 : (Tryd.prog.info? 2).map (fun i => (i.zero, i.size, i.bytes)) = some (some (.int .i64 0), 1, 8) := by kernel_rfl
theorem news_row {w : World} {g n : Nat} {xs : List Int} (hn : n = xs.length) (hc : ∀ k, k < n → w.cell? ⟨g, k, none⟩ = some (.int .i64 (xs.getD k 0))) :
    ∀ (j : Nat) (u : Value), (xs.map (Value.int .i64))[j]? = some u → w.cell? ((⟨g, 0, none⟩ : Addr).add j) = some u := by
  intro j u hu
  rw [List.getElem?_map, Option.map_eq_some_iff] at hu
  obtain ⟨a, ha, rfl⟩ := hu
  obtain ⟨hj, rfl⟩ := List.getElem?_eq_some_iff.1 ha
  have hadd : (⟨g, 0, none⟩ : Addr).add j = ⟨g, j, none⟩ := by unfold Addr.add; split <;> simp_all
  rw [hadd, hc j (by omega)]
  simp [hj]
theorem news_one (xs : List Int) : ∀ u ∈ xs.map (Value.int .i64), u.oneCell' = true := by
  intro u hu
  obtain ⟨a, _, rfl⟩ := List.mem_map.1 hu
  rfl
theorem app_row {B m : Nat} {v' : Value} {ys : List Int} {x : Int} {w1 : World} (hm : ys.length = m) (ho : w1.ownsRow B 2 1 v' (m + 1) (ys.map (Value.int .i64) ++ [.int .i64 x])) : Row 2 w1 B v' (ys ++ [x]) := by
  subst hm
  unfold Row
  simpa using ho
theorem app_rows {B m n : Nat} {v' : Value} {ys xs : List Int} {w1 : World} (hm : ys.length = m) (hn : n = xs.length) (ho : w1.ownsRow B 2 1 v' (m + n) (ys.map (Value.int .i64) ++ xs.map (Value.int .i64))) : Row 2 w1 B v' (ys ++ xs) := by
  subst hm hn
  unfold Row
  simpa using ho
theorem app_all {B n : Nat} {v' : Value} {xs : List Int} {w1 : World} (hn : n = xs.length) (ho : w1.ownsRow B 2 1 v' n (xs.map (Value.int .i64))) : Row 2 w1 B v' xs := by
  subst hn
  exact ho
theorem app_below {B : Nat} {W w1 : World} {v : Value} {ys : List Int} (h : Row 2 W B v ys) (hg : W.grownBy w1 v.ownBlock) (hB : B ≤ W.heap.size) : Below B W w1 :=
  ⟨hg.os, hg.tape, hg.output, hg.size, fun k hk => hg.block k (by omega) (fun he => by have := (h.lt k he.symm).1; omega)⟩
theorem app_row0 (w : World) {B : Nat} (hB : B ≤ w.heap.size) : Row 2 (w.alloc (.cells #[] 2)) B (.slice (some ⟨w.heap.size, 0, none⟩) 0 0) [] := World.ownsRow_made w #[] 0 hB (by unfold maxLen; omega) rfl
end Go.Proofs.YtampjgfddakdoaaDoor
