/-
  Rows of any one-cell values that a call owns: bytes, strings. The conditions are the hypotheses.
-/
import Derived.Test.YtampjgfddakdoaaDoorRows
import Derived.Test.YtampjgfddakdoaaDoorLib
import Derived.OwnWalk
import Derived.Deep.AppendLies
namespace Go.Proofs.YtampjgfddakdoaaDoor
open Go.RowKit
set_option linter.unusedSimpArgs false
set_option linter.unusedVariables false
def GRow (e : TypeId) (w : World) (base : Nat) (v : Value) (us : List Value) : Prop := w.ownsRow base e 1 v us.length us
section
variable {e : TypeId} {w w' : World} {base B : Nat} {v : Value} {us : List Value}
theorem GRow.nil_ : GRow e w base (.slice none 0 0) [] := World.ownsRow_nil w base e 1
theorem GRow.lt (h : GRow e w base v us) : ∀ g, v.ownBlock = some g → base ≤ g ∧ g < w.heap.size := World.ownsRow.lt h
theorem GRow.kept {row : Option Nat} (h : GRow e w base v us) (hg : w.grownBy w' row) (hne : v.ownBlock = none ∨ v.ownBlock ≠ row) : GRow e w' base v us := World.ownsRow.kept h hg hne
theorem GRow.later (h : GRow e w base v us) (hb : Below w.heap.size w w') : GRow e w' base v us := h.kept (grown_of_below hb) (by cases hv : v.ownBlock <;> simp)
theorem GRow.below (h : GRow e w base v us) (hb : Below B w w') (hB : ∀ g, v.ownBlock = some g → g < B) : GRow e w' base v us := by
  refine ⟨h.1, ?_⟩
  rcases h.2 with hn | ⟨g, cap, cur, rfl, hb', hgg, rest⟩
  · exact .inl hn
  · exact .inr ⟨g, cap, cur, rfl, hb', by rw [hb.block g (hB g rfl)]; exact hgg, rest⟩
theorem GRow.alloc_ (h : GRow e w base v us) (o : Obj) : GRow e (w.alloc o) base v us := World.ownsRow.alloc h o
theorem GRow.drewN (h : GRow e w base v us) (n : Nat) : GRow e (w.drewN n) base v us := h
theorem GRow.len (h : GRow e w base v us) : us.length ≤ maxLen := by
  rcases h.2 with ⟨_, h0⟩ | ⟨g, cap, cur, _, _, _, h1, h2, _⟩
  · rw [h0]; exact Nat.zero_le _
  · exact Nat.le_trans h1 h2
theorem GRow.forms (h : GRow e w base v us) : (v = .slice none 0 0 ∧ us = []) ∨ ∃ g cap, v = .slice (some ⟨g, 0, none⟩) us.length cap ∧ base ≤ g ∧ g < w.heap.size ∧ us.length ≤ cap ∧
    (∀ k u, us[k]? = some u → w.cell? ⟨g, k, none⟩ = some u) ∧ (∀ k, w.frozen? ⟨g, k, none⟩ = false) := by
  have hl := h.len
  rcases h.2 with ⟨hv, h0⟩ | ⟨g, cap, cur, rfl, hb, hgg, h1, h2, h3, h4⟩
  · exact .inl ⟨hv, List.eq_nil_of_length_eq_zero h0⟩
  · have hlt : g < w.heap.size := (Array.getElem?_eq_some_iff.1 hgg).1
    refine .inr ⟨g, cap, rfl, hb, hlt, h1, fun k u hk => ?_, fun k => World.ownsRow.frozenAt h k⟩
    obtain ⟨hk', rfl⟩ := List.getElem?_eq_some_iff.1 hk
    rw [World.ownsRow.cellAt h k (by simpa using hk')]
    simp [hk']
end
theorem gapp_row {e : TypeId} {B m : Nat} {v' : Value} {us : List Value} {u : Value} {w1 : World} (hm : us.length = m) (ho : w1.ownsRow B e 1 v' (m + 1) (us ++ [u])) : GRow e w1 B v' (us ++ [u]) := by
  subst hm
  unfold GRow
  simpa using ho
theorem gapp_below {e : TypeId} {B : Nat} {W w1 : World} {v : Value} {us : List Value} (h : GRow e W B v us) (hg : W.grownBy w1 v.ownBlock) (hB : B ≤ W.heap.size) : Below B W w1 :=
  ⟨hg.os, hg.tape, hg.output, hg.size, fun k hk => hg.block k (by omega) (fun he => by have := (h.lt k he.symm).1; omega)⟩
theorem grow0 (w : World) (e : TypeId) {B : Nat} (hB : B ≤ w.heap.size) : GRow e (w.alloc (.cells #[] e)) B (.slice (some ⟨w.heap.size, 0, none⟩) 0 0) [] := World.ownsRow_made w #[] 0 hB (by unfold maxLen; omega) rfl
def encB (b : UInt8) : Value := .int .u8 (b.toNat : Int)
theorem encB_digit {d : Nat} (h : d < 10) : encB (UInt8.ofNat (48 + d)) = .int .u8 (48 + (d : Int)) := by
  unfold encB
  have : (UInt8.ofNat (48 + d)).toNat = 48 + d := by simp; omega
  rw [this]
  rfl
theorem encB_one (bs : List UInt8) : ∀ u ∈ bs.map encB, u.oneCell' = true := by
  intro u hu
  obtain ⟨b, _, rfl⟩ := List.mem_map.1 hu
  rfl
end Go.Proofs.YtampjgfddakdoaaDoor
