/-
  Contract of the program's decimal form of a number. The condition is the row's own: the library's table of powers of ten reads as listed.
-/
import Derived.Test.YtampjgfddakdoaaDoorRows
import Derived.Test.YtampjgfddakdoaaDoorLib
import Derived.Test.YtampjgfddakdoaaDoorShelf
import Derived.Lib.LaidTab
import Derived.Lib.AppendIntMem
import Derived.Lib.ItoaLen
namespace Go.Proofs.YtampjgfddakdoaaDoor
open Go.RowKit
set_option linter.unusedVariables false
/-- The library's table of powers of ten reads as listed. -/
def PowTab (w : World) : Prop := Lib.TabIs Tryd.prog w "internal/strconv.uint64pow10" .u64 Lib.pow10Tab
theorem pow_tab_global : Tryd.prog.globalNamed "internal/strconv.uint64pow10" = some 5 := by kernel_rfl
theorem PowTab.below {w w' : World} (h : PowTab w) (hb : Below w.heap.size w w') : PowTab w' := by
  unfold PowTab Lib.TabIs World.var? at h ⊢
  rw [pow_tab_global] at h ⊢
  simp only [Option.bind_some] at h ⊢
  have hlt : 5 < w.heap.size := by
    rcases Nat.lt_or_ge 5 w.heap.size with hlt | hge
    · exact hlt
    · rw [Array.getElem?_eq_none hge] at h
      cases h
  rw [hb.block _ hlt]
  exact h
theorem PowTab.drewN {w : World} (h : PowTab w) (n : Nat) : PowTab (w.drewN n) := h
theorem PowTab.alloc {w : World} (h : PowTab w) (o : Obj) : PowTab (w.alloc o) := h.below ((Below.refl _ _).alloc (Nat.le_refl _) _)
theorem Decimal_any (w : World) (hT : PowTab w) (n : Int) (ia : -9223372036854775808 ≤ n ∧ n ≤ 9223372036854775807) :
    Calls Tryd.prog 52 #[.int .i64 n] w fun e w' => e = .returned (.string ⟨(Lib.itoa n).toArray⟩) ∧ Below w.heap.size w w' := by
  have HT := Lib.hid hT
  have HI := Lib.hid ia
  clear hT ia
  go_enter Tryd.func52, Tryd.ntmps52
  go_wp2_with fail
  refine (Tryd.strconv_FormatInt_10 n HI.out.1 HI.out.2 _ HT.out).mono ?_
  rintro e w1 ⟨rfl, k, os, rfl⟩
  have HB := Lib.hid (Lib.below_grow w.heap.size w (Nat.le_refl _) k os)
  go_wp2_with fail
  go_ret
  exact ⟨rfl, HB.out⟩
end Go.Proofs.YtampjgfddakdoaaDoor
