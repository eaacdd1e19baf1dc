/-
  A struct of the call's own, cell by cell, and a row in one of its fields that is appended to: what a round leaves. Over any program; no statement of the seat is proved here.
-/
import Derived.Test.YtampjgfddakdoaaDoorLib
import Derived.OwnWalk
import Derived.Deep.AppendLies
namespace Go.Proofs.YtampjgfddakdoaaDoor
open Go.RowKit
set_option linter.unusedVariables false
/-- The block O holds the cells C (at least), and may be written. -/
structure SInv (wr : World) (O : Nat) (C : List Value) : Prop where
  cell : ∀ (j : Nat) (u : Value), C[j]? = some u → wr.cell? ⟨O, j, none⟩ = some u
  free : ∀ j : Nat, wr.frozen? ⟨O, j, none⟩ = false
  lt : O < wr.heap.size
theorem SInv.writes {wr w' : World} {O : Nat} {C : List Value} {S : Nat → Prop} (h : SInv wr O C) (hw : Writes wr w' S) (hn : ¬ S O) : SInv w' O C :=
  ⟨fun j u hu => keepsW (p := ⟨O, j, none⟩) hw (h.cell j u hu) hn, fun j => (World.frozen?_of_block (a := ⟨O, j, none⟩) (hw.block O h.lt hn)).trans (h.free j), Nat.lt_of_lt_of_le h.lt hw.size⟩
theorem SInv.later {wr w' : World} {O : Nat} {C : List Value} (h : SInv wr O C) (hb : Below wr.heap.size wr w') : SInv w' O C := h.writes (S := fun _ => False) (Writes.of_below hb _) id
theorem SInv.alloc_ {wr : World} {O : Nat} {C : List Value} (h : SInv wr O C) (o : Obj) : SInv (wr.alloc o) O C := h.later ((Below.refl _ _).alloc (Nat.le_refl _) _)
theorem SInv.set {wr : World} {O : Nat} {C : List Value} (h : SInv wr O C) (j : Nat) (hj : j < C.length) (u : Value) : SInv (wr.setCell ⟨O, j, none⟩ u) O (C.set j u) := by
  refine ⟨fun k x hx => ?_, fun k => by rw [World.frozen?_setCell]; exact h.free k, by have := h.lt; simpa using this⟩
  rw [List.getElem?_set] at hx
  by_cases e : j = k
  · subst e
    simp [hj] at hx
    subst hx
    obtain ⟨old, ho⟩ : ∃ old, C[j]? = some old := ⟨C[j], List.getElem?_eq_getElem hj⟩
    exact World.cell?_setCell_same _ _ _ (h.cell j old ho)
  · rw [if_neg e] at hx
    exact (World.cell?_setCell_other _ _ _ _ (fun q => e (by injection q))).trans (h.cell k x hx)
theorem SInv.other {wr : World} {O : Nat} {C : List Value} (h : SInv wr O C) {p : Addr} (hp : p.block ≠ O) (u : Value) : SInv (wr.setCell p u) O C :=
  ⟨fun k x hx => (World.cell?_setCell_other _ _ _ _ (fun q => hp (by rw [q]))).trans (h.cell k x hx), fun k => by rw [World.frozen?_setCell]; exact h.free k, by have := h.lt; simpa using this⟩
/-- A new block. -/
theorem SInv.fresh (w : World) (cs : Array Value) (e : TypeId) : SInv (w.alloc (.cells cs e)) w.heap.size cs.toList :=
  ⟨fun j u hu => by
      rw [cell_of_row (w.alloc (.cells cs e)) w.heap.size j cs e (0, 0) (heap_alloc_new w _)]
      simpa using hu,
    fun j => by
      have hb : (w.alloc (.cells cs e)).heap[w.heap.size]? = some (.cells cs e (0, 0)) := heap_alloc_new w _
      unfold World.frozen?
      rw [show (w.alloc (.cells cs e)).heap[(⟨w.heap.size, j, none⟩ : Addr).block]? = some (.cells cs e (0, 0)) from hb]
      simp,
    by simp⟩
theorem SInv.draw {wr : World} {O : Nat} {C : List Value} (h : SInv wr O C) (n : Nat) : SInv (wr.drewN n) O C := ⟨h.cell, h.free, h.lt⟩
theorem cell_drew {w : World} {a : Addr} {v : Option Value} (h : w.cell? a = v) : w.drew.cell? a = v := h
theorem cell_drewN {w : World} {a : Addr} {v : Option Value} {n : Nat} (h : w.cell? a = v) : (w.drewN n).cell? a = v := h
theorem writes_set (w : World) (p : Addr) (u : Value) : Writes w (w.setCell p u) (fun b => b = p.block) := by
  refine ⟨?_, ?_, ?_, ?_, fun k _ hk => Below.heap_setCell w p u k hk⟩
  · exact (((Below.refl 0 w).setCell (Nat.zero_le _) u)).os
  · exact (((Below.refl 0 w).setCell (Nat.zero_le _) u)).tape
  · exact (((Below.refl 0 w).setCell (Nat.zero_le _) u)).output
  · exact (((Below.refl 0 w).setCell (Nat.zero_le _) u)).size
theorem Row.other {e : TypeId} {w : World} {base : Nat} {v : Value} {xs : List Int} (h : Row e w base v xs) {p : Addr} (hp : v.ownBlock ≠ some p.block) (u : Value) : Row e (w.setCell p u) base v xs := ownsRow_setCell_other h hp u
/-- Behind 'out.f = append(out.f, x)': the struct's cells, the field's row, and what else may have turned. -/
theorem push_row {e : TypeId} {wr W w3 : World} {O base g cap n H : Nat} {t : Value} {ys : List Int} {x : Int} {C : List Value} (j : Nat) (hj : j < C.length)
    (h : SInv wr O C) (hr : Row e wr base t ys) (ho : t.ownBlock ≠ some O) (h0 : Below wr.heap.size wr W) (hgr : W.grownBy w3 t.ownBlock) (hat : t.ownBlock = some g ∨ g = H) (hH : wr.heap.size ≤ H) (hn : ys.length = n)
    (hown : w3.ownsRow base e 1 (.slice (some ⟨g, 0, none⟩) (n + 1) cap) (n + 1) (ys.map (Value.int .i64) ++ [.int .i64 x])) :
    SInv (w3.setCell ⟨O, j, none⟩ (.slice (some ⟨g, 0, none⟩) (n + 1) cap)) O (C.set j (.slice (some ⟨g, 0, none⟩) (n + 1) cap)) ∧
    Row e (w3.setCell ⟨O, j, none⟩ (.slice (some ⟨g, 0, none⟩) (n + 1) cap)) base (.slice (some ⟨g, 0, none⟩) (n + 1) cap) (ys ++ [x]) ∧
    (Value.slice (some ⟨g, 0, none⟩) (n + 1) cap).ownBlock ≠ some O ∧
    Writes wr (w3.setCell ⟨O, j, none⟩ (.slice (some ⟨g, 0, none⟩) (n + 1) cap)) (fun b => t.ownBlock = some b ∨ b = O) ∧
    (∀ v : Value, (∀ b, v.ownBlock = some b → b < wr.heap.size) → Apart t v → Apart (.slice (some ⟨g, 0, none⟩) (n + 1) cap) v) := by
  have hw : Writes wr w3 (fun b => t.ownBlock = some b) := Writes.trans (Writes.of_below h0 _) (Writes.of_grown hgr (fun g h => h))
  have hne : g ≠ O := by
    rcases hat with hat | rfl
    · intro q; subst q; exact ho hat
    · have := h.lt; omega
  have hbk : (Value.slice (some ⟨g, 0, none⟩) (n + 1) cap).ownBlock ≠ some O := by
    intro q
    simp [Value.ownBlock] at q
    exact hne q
  refine ⟨(h.writes hw (fun q => ho q)).set j hj _, Row.other ?_ hbk _, hbk, ?_, ?_⟩
  · subst hn
    unfold Row
    simpa using hown
  · exact Writes.trans (hw.mono (fun b q => .inl q)) ((writes_set w3 _ _).mono (fun b q => .inr q))
  · intro v hv ha b hb hq
    simp [Value.ownBlock] at hb
    subst hb
    rcases hat with hat | rfl
    · exact ha _ hat hq
    · have := hv _ hq; omega
end Go.Proofs.YtampjgfddakdoaaDoor
