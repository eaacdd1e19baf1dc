/-
  From the row's list of laid variables to both tables that LossesOf reads.
-/
import Derived.Test.YtlpjcebpfmhpnaaDoorRows
import Derived.Test.YtlpjcebpfmhpnaaDoorLib
import Derived.Test.YtlpjcebpfmhpnaaDoorPow
import Derived.Test.YtlpjcebpfmhpnaaDoorClutter
import Derived.Test.YtlpjcebpfmhpnaaDoorLosB
import Derived.Lib.LaidTab
import Derived.OpenShut
namespace Go.Proofs.YtlpjcebpfmhpnaaDoor
open Go.RowKit
set_option linter.unusedSimpArgs false
set_option linter.unusedVariables false
theorem clutter_laid2 {W : World} {l : List (String × DataW Unit)} (h : laidMet Tryd.prog l W) (hm : ("loop.example/g00925/impl.clutterTable", Rows.laid_loop_example_g00925_impl_clutterTable) ∈ l) : ClutterAt W := by
  obtain ⟨ps, hv, _⟩ := h
  obtain ⟨g', t', cs, fuel, p, hg', ht', hvar, hd⟩ := laid_one hv _ _ hm
  obtain rfl := Option.some.inj (Tryd.gTab.symm.trans hg')
  obtain rfl := Option.some.inj (Tryd.gTabType.symm.trans ht')
  intro i x hx
  obtain ⟨h0, h1, h2⟩ := rows3_at (L := clutters) Tryd.underlying76 Tryd.underlying75 Tryd.cellsRow Tryd.underlying9 Tryd.underlying2 Tryd.underlying2 rfl rfl rfl
    Tryd.cellsStr Tryd.cellsInt Tryd.cellsInt rfl hd i x hx
  have hv := World.var?_cell Tryd.gTab hvar
  exact ⟨by rw [hv]; simpa using h0, by rw [hv]; simpa using h1, by rw [hv]; simpa using h2⟩
theorem los_laid {W : World} {l : List (String × DataW Unit)} (h : laidMet Tryd.prog l W) (h1 : ("internal/strconv.uint64pow10", Rows.laid_internal_strconv_uint64pow10) ∈ l) (h2 : ("loop.example/g00925/impl.clutterTable", Rows.laid_loop_example_g00925_impl_clutterTable) ∈ l) : ofLossesOf.LosTab W := ⟨pow_laid h h1, clutter_laid2 h h2⟩
end Go.Proofs.YtlpjcebpfmhpnaaDoor
