/-
  The package-level variables that the program's readers of numbers and texts read, as the row lists them or as the world's shape gives them. The conditions are the hypotheses.
-/
import Derived.Test.YtampjgfddakdoaaDoorRows
import Derived.Test.YtampjgfddakdoaaDoorLib
import Derived.Test.YtampjgfddakdoaaDoorDec
import Derived.Test.YtampjgfddakdoaaDoorPow
import Derived.LaidLaws
import Derived.Shelf.Vars
import Derived.Handed
namespace Go.Proofs.YtampjgfddakdoaaDoor
open Go.RowKit Go.ChangeShapes Go.WideShapes
set_option linter.unusedVariables false
/-- The table of powers of ten as listed; some number in internal/bytealg's MaxLen; an error that is not nil in each of strconv's two. -/
structure RdTab (w : World) : Prop where
  pow : PowTab w
  mx : ∃ m, w.cell? ⟨0, 0, none⟩ = some (.int .i64 m)
  es : ∃ tp p, w.var? Tryd.prog "strconv.ErrSyntax" = some #[.iface tp p]
  er : ∃ tp p, w.var? Tryd.prog "strconv.ErrRange" = some #[.iface tp p]
theorem es_global : Tryd.prog.globalNamed "strconv.ErrSyntax" = some 1 := by kernel_rfl
theorem er_global : Tryd.prog.globalNamed "strconv.ErrRange" = some 2 := by kernel_rfl
theorem var_below {P : Program} {n : String} {g : Nat} (hg : P.globalNamed n = some g) {w w' : World} {cs : Array Value} (h : w.var? P n = some cs) (hb : Below w.heap.size w w') : w'.var? P n = some cs := by
  unfold World.var? at h ⊢
  rw [hg] at h ⊢
  simp only [Option.bind_some] at h ⊢
  have hlt : g < w.heap.size := by
    rcases Nat.lt_or_ge g w.heap.size with hlt | hge
    · exact hlt
    · rw [Array.getElem?_eq_none hge] at h
      cases h
  rw [hb.block _ hlt]
  exact h
theorem RdTab.below {w w' : World} (h : RdTab w) (hb : Below w.heap.size w w') : RdTab w' := by
  obtain ⟨h1, ⟨m, h2⟩, ⟨t1, p1, h3⟩, ⟨t2, p2, h4⟩⟩ := h
  exact ⟨h1.below hb, ⟨m, keeps hb h2⟩, ⟨t1, p1, var_below es_global h3 hb⟩, ⟨t2, p2, var_below er_global h4 hb⟩⟩
theorem es_type : (Tryd.prog.globals[1]?).map (·.type) = some 77 := by kernel_rfl
theorem er_type : (Tryd.prog.globals[2]?).map (·.type) = some 77 := by kernel_rfl
theorem sent_laid {W : World} {l : List (String × DataW Unit)} (h : laidMet Tryd.prog l W) {n : String} {g : Nat} (hg : Tryd.prog.globalNamed n = some g) (ht : (Tryd.prog.globals[g]?).map (·.type) = some 77) {nm : String} {d : DataW Unit} (hm : (n, DataW.iface nm d) ∈ l) :
    ∃ tp p, W.var? Tryd.prog n = some #[.iface tp p] := by
  obtain ⟨ps, hv, _⟩ := h
  obtain ⟨g', t', cs, fuel, p, hg', ht', hvar, hd⟩ := laid_one hv _ _ hm
  obtain rfl := Option.some.inj (hg.symm.trans hg')
  obtain rfl := Option.some.inj (ht.symm.trans ht')
  obtain ⟨f2, u, v, hcs, _, _⟩ := iface_of_trod Tryd.underlying77 hd
  have hc : cs = #[.iface u v] := by
    apply Array.ext'
    simpa using hcs
  exact ⟨u, v, by rw [hvar, hc]⟩
theorem rdtab_laid {W : World} {l : List (String × DataW Unit)} (hL : laidMet Tryd.prog l W) (hS : W.ShapedOpen Tryd.prog) (h1 : ("internal/strconv.uint64pow10", Rows.laid_internal_strconv_uint64pow10) ∈ l) (h2 : ("strconv.ErrSyntax", Rows.laid_strconv_ErrSyntax) ∈ l) (h3 : ("strconv.ErrRange", Rows.laid_strconv_ErrRange) ∈ l) : RdTab W :=
  ⟨pow_laid hL h1, cell_of_shapedOpen_int hS (of_decide_eq_true (by kernel_rfl)) (zero := #[.int .i64 0]) (by kernel_rfl) rfl (by kernel_rfl) (by kernel_rfl) Tryd.underlying3, sent_laid hL es_global es_type h2, sent_laid hL er_global er_type h3⟩
end Go.Proofs.YtampjgfddakdoaaDoor
