/-
  A radio read off a text: the model. The conditions are the hypotheses.
-/
import Derived.Test.YtampjgfddakdoaaDoorRows
import Derived.Test.YtampjgfddakdoaaDoorLib
import Derived.Test.YtampjgfddakdoaaDoorInt
import Derived.Test.YtampjgfddakdoaaDoorInts
import Derived.Test.YtampjgfddakdoaaDoorOwn
import Derived.Test.YtampjgfddakdoaaDoorField
import Derived.Test.YtampjgfddakdoaaDoorNames
import Derived.Test.YtampjgfddakdoaaDoorRadioB
import Derived.Test.YtampjgfddakdoaaDoorArgs
import Derived.Test.YtampjgfddakdoaaDoorModes
import Derived.Test.YtampjgfddakdoaaDoorRadios
import Derived.Test.YtampjgfddakdoaaDoorRadioS
import Derived.Test.YtampjgfddakdoaaDoorMk
import Derived.Test.YtampjgfddakdoaaDoorNumP
import Derived.Test.YtampjgfddakdoaaDoorNumS
import Derived.Test.YtampjgfddakdoaaDoorSplP
import Derived.Test.YtampjgfddakdoaaDoorSplS
import Derived.Test.YtampjgfddakdoaaDoorRdP
import Derived.Test.YtampjgfddakdoaaDoorRdS
import Derived.Test.YtampjgfddakdoaaDoorRdW
import Derived.Test.YtampjgfddakdoaaDoorRdD
import Derived.Test.YtampjgfddakdoaaDoorRdI
import Derived.Test.YtampjgfddakdoaaDoorRdC
import Derived.Test.YtampjgfddakdoaaDoorRadT
import Derived.Test.YtampjgfddakdoaaDoorRrP
import Derived.OwnWalk
import Derived.Outline
import Derived.Deep.AppendLies
import Derived.Deep.RegionLaw
import Derived.Deep.DeepCutAuto
import Derived.Deep.QuietTactic
import Derived.BigQuiet
import Derived.Deep.RegionHeld3
import Derived.Deep.DrawnRows
namespace Go.Proofs.YtampjgfddakdoaaDoor
open Go.RowKit ofRadioText
set_option linter.unusedSimpArgs false
set_option linter.unusedVariables false
attribute [local go_sem ↓] Go.wp_at_zero Go.wp_at_succ
def rrN (L : List UInt8) : ByteArray := if rrOk L = true then rrS L else ⟨#[]⟩
def rrV (k : Nat) (L : List UInt8) : Int := if rrOk L = true then numV (rrW k L) else 0
def rrMs (L : List UInt8) : List (Int × Int) := if rrOk L = true then rrM L else []
theorem rr_no {L : List UInt8} (h : rrOk L = false) : rrN L = ⟨#[]⟩ ∧ rrV 1 L = 0 ∧ rrV 2 L = 0 ∧ rrV 3 L = 0 ∧ rrV 4 L = 0 ∧ rrMs L = [] ∧ rrOk L = false := by
  have h2 : ¬ rrOk L = true := by rw [h]; simp
  exact ⟨if_neg h2, if_neg h2, if_neg h2, if_neg h2, if_neg h2, if_neg h2, h⟩
theorem rr_yes {L : List UInt8} (h : rrOk L = true) : rrN L = rrS L ∧ rrV 1 L = numV (rrW 1 L) ∧ rrV 2 L = numV (rrW 2 L) ∧ rrV 3 L = numV (rrW 3 L) ∧ rrV 4 L = numV (rrW 4 L) ∧ rrMs L = rrM L ∧ rrOk L = true := ⟨if_pos h, if_pos h, if_pos h, if_pos h, if_pos h, if_pos h, h⟩
theorem rrMs_len (L : List UInt8) : (rrMs L).length ≤ 9 := by
  unfold rrMs
  split
  · exact rrM_len L
  · simp
theorem not_true {b : Bool} (h : ¬ b = true) : b = false := by cases b <;> simp_all
theorem Tryd.info_md : (Tryd.prog.info? 57).map (fun i => (i.zero, i.size, i.bytes)) = some (some (.agg #[.int .i64 0, .int .i64 0]), 2, 16) := by kernel_rfl
theorem mapp_row {B m : Nat} {v' : Value} {ms : List (Int × Int)} {x y : Int} {w1 : World} (hm : ms.length = m) (ho : w1.ownsRow B 57 2 v' (m + 1) (flatM ms ++ [.int .i64 x, .int .i64 y])) : RowM 57 w1 B v' (ms ++ [(x, y)]) := by
  subst hm
  unfold RowM
  rw [flatM_append]
  simpa [flatM] using ho
theorem mowns {e : TypeId} {w : World} {b n : Nat} {v : Value} {ms : List (Int × Int)} (hn : ms.length = n) (h : RowM e w b v ms) : w.ownsRow b e 2 v n (flatM ms) := by
  subst hn
  exact h
theorem RowM.other {e : TypeId} {w : World} {base : Nat} {v : Value} {ms : List (Int × Int)} (h : RowM e w base v ms) {p : Addr} (hp : v.ownBlock ≠ some p.block) (u : Value) : RowM e (w.setCell p u) base v ms := ownsRow_setCell_other h hp u
theorem two_new (w : World) (x y : Int) (t : TypeId) : ∀ (j : Nat) (u : Value), [Value.int .i64 x, Value.int .i64 y][j]? = some u → (w.alloc (.cells #[.int .i64 x, .int .i64 y] t)).cell? ((⟨w.heap.size, 0, none⟩ : Addr).add j) = some u := fun j u hu =>
  World.news_of_block (cs := #[.int .i64 x, .int .i64 y]) (t := t) (fr := (0, 0)) (heap_alloc_new w _) j u (by simpa using hu)
theorem SInv.draw1 {wr : World} {O : Nat} {C : List Value} (h : SInv wr O C) : SInv wr.drew O C := ⟨h.cell, h.free, h.lt⟩
/-- Behind 'r.Modes = append(r.Modes, Mode{x, y})': what of the struct, of the modes, of the rest. -/
theorem push_modes {wr W w3 : World} {O B : Nat} {t : Value} {C : List Value} (h : SInv wr O C) (hO : O < B) (h0 : Below wr.heap.size wr W) (ht : ∀ g, t.ownBlock = some g → B ≤ g) (hg : W.grownBy w3 t.ownBlock) :
    SInv w3 O C ∧ Writes wr w3 (fun b => t.ownBlock = some b) := by
  have hw : Writes wr w3 (fun b => t.ownBlock = some b) := Writes.trans (Writes.of_below h0 _) (Writes.of_grown hg (fun g h => h))
  exact ⟨h.writes hw (fun q => by have := ht _ q; omega), hw⟩
end Go.Proofs.YtampjgfddakdoaaDoor
