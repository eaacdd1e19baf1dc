/-
  Contracts of copies of a row that is not empty: the program's (slices.Clone) and the reference's (l00Own). The conditions are the hypotheses.
-/
import Derived.Test.YtgbehaapmnmifaaRows
import Derived.Test.YtgbehaapmnmifaaLib
import Derived.Test.YtgbehaapmnmifaaInts
import Derived.OwnWalk
import Derived.WalkSpells
import Derived.Outline
namespace Go.Proofs.Ytgbehaapmnmifaa
open Go.RowKit
set_option linter.unusedSimpArgs false
set_option linter.unusedVariables false
theorem Try.info_i64 : (Try.prog.info? 2).map (fun i => (i.zero, i.size, i.bytes)) = some (some (.int .i64 0), 1, 8) := by kernel_rfl
theorem news_row {w : World} {g n : Nat} {xs : List Int} (hn : n = xs.length) (hc : ∀ k, k < n → w.cell? ⟨g, k, none⟩ = some (.int .i64 (xs.getD k 0))) :
    ∀ (j : Nat) (u : Value), (xs.map (Value.int .i64))[j]? = some u → w.cell? ((⟨g, 0, none⟩ : Addr).add j) = some u := by
  intro j u hu
  rw [List.getElem?_map, Option.map_eq_some_iff] at hu
  obtain ⟨a, ha, rfl⟩ := hu
  obtain ⟨hj, rfl⟩ := List.getElem?_eq_some_iff.1 ha
  have hadd : (⟨g, 0, none⟩ : Addr).add j = ⟨g, j, none⟩ := by unfold Addr.add; split <;> simp_all
  rw [hadd, hc j (by omega)]
  simp [hj]
theorem news_one (xs : List Int) : ∀ u ∈ xs.map (Value.int .i64), u.oneCell' = true := by
  intro u hu
  obtain ⟨a, _, rfl⟩ := List.mem_map.1 hu
  rfl
theorem app_row {B m : Nat} {v' : Value} {ys : List Int} {x : Int} {w1 : World} (hm : ys.length = m) (ho : w1.ownsRow B 2 1 v' (m + 1) (ys.map (Value.int .i64) ++ [.int .i64 x])) : Row 2 w1 B v' (ys ++ [x]) := by
  subst hm
  unfold Row
  simpa using ho
theorem app_rows {B m n : Nat} {v' : Value} {ys xs : List Int} {w1 : World} (hm : ys.length = m) (hn : n = xs.length) (ho : w1.ownsRow B 2 1 v' (m + n) (ys.map (Value.int .i64) ++ xs.map (Value.int .i64))) : Row 2 w1 B v' (ys ++ xs) := by
  subst hm hn
  unfold Row
  simpa using ho
theorem app_all {B n : Nat} {v' : Value} {xs : List Int} {w1 : World} (hn : n = xs.length) (ho : w1.ownsRow B 2 1 v' n (xs.map (Value.int .i64))) : Row 2 w1 B v' xs := by
  subst hn
  exact ho
theorem app_below {B : Nat} {W w1 : World} {v : Value} {ys : List Int} (h : Row 2 W B v ys) (hg : W.grownBy w1 v.ownBlock) (hB : B ≤ W.heap.size) : Below B W w1 :=
  ⟨hg.os, hg.tape, hg.output, hg.size, fun k hk => hg.block k (by omega) (fun he => by have := (h.lt k he.symm).1; omega)⟩
theorem app_row0 (w : World) {B : Nat} (hB : B ≤ w.heap.size) : Row 2 (w.alloc (.cells #[] 2)) B (.slice (some ⟨w.heap.size, 0, none⟩) 0 0) [] := World.ownsRow_made w #[] 0 hB (by unfold maxLen; omega) rfl
set_option maxRecDepth 20000 in
theorem l00Own_any (w : World) (v : Value) (xs : List Int) (p : Nat) (h : Row 2 w p v xs) (h0 : 0 < xs.length) (h1 : xs.length ≤ 1000000) :
    Calls Try.prog 13 #[v] w fun e w' => ∃ A n c, e = .returned (.slice A n c) ∧ Row 2 w' w.heap.size (.slice A n c) xs ∧ Below w.heap.size w w' := by
  rcases h.forms with ⟨_, hz⟩ | ⟨g, cap, rfl, _, hlt, hc, _⟩
  · rw [hz] at h0; simp at h0
  have hl0 : xs ≠ [] := by rintro rfl; simp at h0
  obtain ⟨n, hn⟩ : ∃ n, n = xs.length := ⟨_, rfl⟩
  have HN := Lib.hid hn
  rw [← hn] at hc h0 h1 ⊢
  have HNW := Lib.hid (news_row (w := w.alloc (.cells #[] 2)) hn (fun k hk => cell_alloc (hc k hk) _))
  have HNE := Lib.hid hl0
  obtain ⟨i0, hi, hz0, hz1, hz2⟩ := info_parts Try.info_i64
  have HI := Lib.hid hi
  have HZ0 := Lib.hid hz0
  have HZ1 := Lib.hid hz1
  have HZ2 := Lib.hid hz2
  clear hi hz0 hz1 hz2 h hc hn hl0
  go_enter Try.func13, Try.ntmps13
  go_wp2_with (first | (at_builtin; refine wpList_append_own _ rfl _ _ 22 rfl w.heap.size 2 i0 (.int .i64 0) 1 8 Try.underlying22 HI.out HZ0.out HZ1.out HZ2.out rfl (by decide) _ 0 ([].map (Value.int .i64)) rfl (app_row0 w (Nat.le_refl _)) ⟨g, 0, none⟩ n cap (xs.map (Value.int .i64)) rfl (by rw [List.length_map, HN.out, Nat.mul_one]) HNW.out (news_one xs) (by unfold maxLen; omega) (by omega) (by simp) ?_))
  intro v' w1 hown hgrow _
  have hr : Hid (Row 2 w1 w.heap.size v' xs) := app_all HN.out hown
  have hb3 := app_below (app_row0 w (Nat.le_refl _)) hgrow (by simp)
  have H3 := Lib.hid (show Below w.heap.size w w1 from (bl_alloc (Nat.le_refl _) _ (Below.refl _ _)).trans hb3)
  clear hown hgrow hb3
  rcases hr.out.forms with ⟨_, hz⟩ | ⟨g', cap', rfl, _⟩
  · exact absurd hz HNE.out
  go_wp2
  go_ret
  exact ⟨_, _, _, rfl, hr.out, H3.out⟩
end Go.Proofs.Ytgbehaapmnmifaa
