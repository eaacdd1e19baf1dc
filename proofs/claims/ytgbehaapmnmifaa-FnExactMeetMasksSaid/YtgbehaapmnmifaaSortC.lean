/-
  slices.Sort and slices.Compact over a row of the call's own: what the row holds behind each. The conditions are the hypotheses.
-/
import Derived.Test.YtgbehaapmnmifaaRows
import Derived.Test.YtgbehaapmnmifaaLib
import Derived.Test.YtgbehaapmnmifaaMeetP
import Derived.Test.YtgbehaapmnmifaaShelf
import Derived.Sort.OwnSortedInts
import Derived.Lib.OwnBridge
namespace Go.Proofs.Ytgbehaapmnmifaa
open Go.RowKit Go.Lib Go.Sort
set_option linter.unusedVariables false
theorem sort_row (w : World) (base g cap n : Nat) (xs : List Int) (h : Row 2 w base (.slice (some ⟨g, 0, none⟩) n cap) xs) (hl : xs.length = n) (hn : n ≤ 1000000) :
    Calls Try.prog 20 #[.slice (some ⟨g, 0, none⟩) n cap] w fun e w' => e = .returned (.tuple #[]) ∧ Row 2 w' base (.slice (some ⟨g, 0, none⟩) n cap) (sortL xs) ∧ w.grownBy w' (some g) := by
  subst hl
  obtain ⟨g', cap', hv, hb0, hlt, _, _, _, hH⟩ := Lib.holds_of_ownsRow (enc := Value.int .i64) h (by simp)
  cases hv
  refine (Try.slices_Sort_int g 0 cap xs w hH hlt (by omega)).mono ?_
  rintro e w' ⟨rfl, k, os, rfl⟩
  refine ⟨rfl, ?_, grownBy_sortedI _⟩
  rcases h.2 with ⟨h0, _⟩ | ⟨g', cap', cur, hv, hbase, hb, h1, h2, h3, h4⟩
  · cases h0
  cases hv
  have hs := ownsRow_sortedI (n := k) (os := os) (ts := sortL xs) (sortL_len xs) hbase hb h1 h2 h3
  unfold Row
  rw [sortL_len]
  exact hs
theorem grownBy_put {w : World} {g q : Nat} (d : Array Int) : w.grownBy (putRow (Value.int .i64) (Sort.ahead w q) g 0 d) (some g) := by
  refine ⟨rfl, rfl, rfl, by simp [putRow, mapBlock, Sort.ahead], fun k hk hne => ?_⟩
  have : g ≠ k := fun e => hne (by rw [e])
  simp [putRow, mapBlock, Sort.ahead, Array.getElem?_modify, this]
theorem compact_row (w : World) (base g cap n : Nat) (xs : List Int) (h : Row 2 w base (.slice (some ⟨g, 0, none⟩) n cap) xs) (hl : xs.length = n) (hn : n ≤ 1000000) :
    Calls Try.prog 21 #[.slice (some ⟨g, 0, none⟩) n cap] w fun e w' => e = .returned (.slice (some ⟨g, 0, none⟩) (compactUpTo xs.toArray xs.toArray.size).length cap) ∧ Row 2 w' base (.slice (some ⟨g, 0, none⟩) (compactUpTo xs.toArray xs.toArray.size).length cap) (compactUpTo xs.toArray xs.toArray.size) ∧ w.grownBy w' (some g) := by
  subst hl
  obtain ⟨g', cap', hv, hb0, hlt, hcap, _, _, hH⟩ := Lib.holds_of_ownsRow (enc := Value.int .i64) h (by simp)
  cases hv
  have hle : (compactUpTo xs.toArray xs.length).length ≤ xs.length := Lib.compact_length_le xs
  have hc := Try.slices_Compact (Value.int .i64) (fun _ => rfl) (EqlAt.intD _ _ _) (NeqAt.intD _ _ _) 0 (fun w => Try.zeroValue2 w) g 0 cap xs.toArray w hH (by simp; omega) (by simpa using hcap)
  simp only [List.size_toArray] at hc ⊢
  refine hc.mono ?_
  rintro e w' ⟨rfl, q, rfl⟩
  refine ⟨rfl, ?_, grownBy_put _⟩
  have hp := Lib.ownsRow_putRow (q := q) (k := (compactUpTo xs.toArray xs.length).length) (ys := compactUpTo xs.toArray xs.length ++ List.replicate (xs.length - (compactUpTo xs.toArray xs.length).length) 0) h (by simp; omega) hle
  rw [List.take_left] at hp
  exact hp
end Go.Proofs.Ytgbehaapmnmifaa
