/-
  From the row's list of laid variables to the table of powers of ten as the library's contracts ask for it.
-/
import Derived.Test.YtampjgfddakdoaaDoorRows
import Derived.Test.YtampjgfddakdoaaDoorLib
import Derived.Test.YtampjgfddakdoaaDoorDec
import Derived.Lib.LaidTab
namespace Go.Proofs.YtampjgfddakdoaaDoor
open Go.RowKit
set_option linter.unusedVariables false
theorem laid_one {P : Program} {w : World} : ∀ {l : List (String × DataW Unit)} {ps : List MemPlace}, DataW.LaidVars P w l ps → ∀ n d, (n, d) ∈ l →
    ∃ g t cs fuel p, P.globalNamed n = some g ∧ (P.globals[g]?).map (·.type) = some t ∧ w.var? P n = some cs ∧ DataW.trod (fun _ => ()) P w 0 (fun _ => true) false fuel t cs.toList = some (d, p)
  | [], _, _, _, _, hm => by cases hm
  | (n', d') :: r, ps, h, n, d, hm => by
    obtain ⟨g, t, cs, fuel, p, q, h1, h2, h3, h4, h5, _⟩ := h
    rcases List.mem_cons.1 hm with e | e
    · cases e
      exact ⟨g, t, cs, fuel, p, h1, h2, h3, h4⟩
    · exact laid_one h5 n d e
theorem pow_type : (Tryd.prog.globals[5]?).map (·.type) = some 143 := by kernel_rfl
theorem pow_cells : Tryd.prog.cellsOf 143 = 20 := by kernel_rfl
theorem pow_cell : Tryd.prog.cellsOf 108 = 1 := by kernel_rfl
theorem pow_data : (Rows.laid_internal_strconv_uint64pow10 : DataW Unit) = Lib.tabData .u64 Lib.pow10Tab := by kernel_rfl
theorem pow_laid {W : World} {l : List (String × DataW Unit)} (h : laidMet Tryd.prog l W) (hm : ("internal/strconv.uint64pow10", Rows.laid_internal_strconv_uint64pow10) ∈ l) : PowTab W := by
  obtain ⟨ps, hv, _⟩ := h
  obtain ⟨g', t', cs, fuel, p, hg', ht', hvar, hd⟩ := laid_one hv _ _ hm
  obtain rfl := Option.some.inj (pow_tab_global.symm.trans hg')
  obtain rfl := Option.some.inj (pow_type.symm.trans ht')
  rw [pow_data] at hd
  unfold PowTab Lib.TabIs
  rw [hvar, ← Lib.cells_of_tab Tryd.underlying143 Tryd.underlying108 pow_cell pow_cells hd]
end Go.Proofs.YtampjgfddakdoaaDoor
