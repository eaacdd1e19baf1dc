/-
  DERIVED. GIVEN WITH THE SEED: THE CARDS: each row of YtlpjcebpfmhpnaaDoorRows.lean that lists a variable, with what it lists TIED to the program's text (the seventh form; the later family's looks); each row that meets fmt, with fmt's text TOLD by the authors' own Lean function (tested against real Go, not proved from fmt's source: count such statements apart). THE CARD IS WHAT COUNTS. Prove the row's statement (the work); the ties are given (YtlpjcebpfmhpnaaDoorTie.lean); close each card by the builder's one call (the guide's Derived/Test/ToyasCard.lean, 'card_holds'). Laid BY PROGRAM, IN A SANDBOX (cutbox-door.mjs). By AI agents, Wed Nov 11 2026. No macro, syntax, notation, axiom, sorry.
-/
import Derived.Test.YtlpjcebpfmhpnaaDoorRows
import GoSem.ClaimSeven
namespace Go.Proofs.YtlpjcebpfmhpnaaDoor
namespace Rows

/-- THE TIED CARD OF 'laws.FnExactLeastLevel'. -/
def fnExactLeastLevelCard : Claim7 := { stood := { row := fnExactLeastLevelRow, standIns := [], harness := (true, "d8072691c5739dadc1e1f70f92feb06942352783b27816f231f3e06547d23ffc"), looks := false }, kinds := [], alts := [], laidByText := true, laidKinds := [.data, .data, .data], laidTests := true, laidLooks := .later }
def FnExactLeastLevelCardSaid : Prop := Claim7.holds Tryd.pinned (.plain (OpenSpec.ofChange fnExactLeastLevelSpec)) fnExactLeastLevelCard

/-- THE TIED CARD OF 'laws.FnExactGreatestLoss'. -/
def fnExactGreatestLossCard : Claim7 := { stood := { row := fnExactGreatestLossRow, standIns := [], harness := (true, "d8072691c5739dadc1e1f70f92feb06942352783b27816f231f3e06547d23ffc"), looks := false }, kinds := [], alts := [], laidByText := true, laidKinds := [.data, .data, .data], laidTests := true, laidLooks := .later }
def FnExactGreatestLossCardSaid : Prop := Claim7.holds Tryd.pinned (.plain (OpenSpec.ofChange fnExactGreatestLossSpec)) fnExactGreatestLossCard

/-- THE TIED CARD OF 'laws.FnExactRateAt'. -/
def fnExactRateAtCard : Claim7 := { stood := { row := fnExactRateAtRow, standIns := [], harness := (true, "d8072691c5739dadc1e1f70f92feb06942352783b27816f231f3e06547d23ffc"), looks := false }, kinds := [], alts := [], laidByText := true, laidKinds := [.data, .data, .data], laidTests := true, laidLooks := .later }
def FnExactRateAtCardSaid : Prop := Claim7.holds Tryd.pinned (.plain (OpenSpec.ofChange fnExactRateAtSpec)) fnExactRateAtCard

/-- THE TIED CARD OF 'laws.FnExactLossesOf'. -/
def fnExactLossesOfCard : Claim7 := { stood := { row := fnExactLossesOfRow, standIns := [], harness := (true, "d8072691c5739dadc1e1f70f92feb06942352783b27816f231f3e06547d23ffc"), looks := false }, kinds := [], alts := [], laidByText := true, laidKinds := [.data, .data, .data, .data], laidTests := true, laidLooks := .later }
def FnExactLossesOfCardSaid : Prop := Claim7.holds Tryd.pinned (.plain (OpenSpec.ofChange fnExactLossesOfSpec)) fnExactLossesOfCard

/-- THE TIED CARD OF 'laws.FnExactSinrOf'. -/
def fnExactSinrOfCard : Claim7 := { stood := { row := fnExactSinrOfRow, standIns := [], harness := (true, "d8072691c5739dadc1e1f70f92feb06942352783b27816f231f3e06547d23ffc"), looks := false }, kinds := [], alts := [], laidByText := true, laidKinds := [.data, .data, .data], laidTests := true, laidLooks := .later }
def FnExactSinrOfCardSaid : Prop := Claim7.holds Tryd.pinned (.plain (OpenSpec.ofChange fnExactSinrOfSpec)) fnExactSinrOfCard

/-- THE SECOND FORM's CARD OF 'laws.FnExactLeastLevel'. -/
def fnExactLeastLevelUptoCard : Claim7 := { stood := { row := fnExactLeastLevelUptoRow, standIns := [], harness := (true, "d8072691c5739dadc1e1f70f92feb06942352783b27816f231f3e06547d23ffc"), looks := false }, kinds := [], alts := [], laidByText := true, laidKinds := [.data, .data, .data], laidTests := true, laidLooks := .later }
def FnExactLeastLevelUptoCardSaid : Prop := Claim7.holds Tryd.pinned (.plain (OpenSpec.upto fnExactLeastLevelSpec)) fnExactLeastLevelUptoCard

/-- THE SECOND FORM's CARD OF 'laws.FnExactGreatestLoss'. -/
def fnExactGreatestLossUptoCard : Claim7 := { stood := { row := fnExactGreatestLossUptoRow, standIns := [], harness := (true, "d8072691c5739dadc1e1f70f92feb06942352783b27816f231f3e06547d23ffc"), looks := false }, kinds := [], alts := [], laidByText := true, laidKinds := [.data, .data, .data], laidTests := true, laidLooks := .later }
def FnExactGreatestLossUptoCardSaid : Prop := Claim7.holds Tryd.pinned (.plain (OpenSpec.upto fnExactGreatestLossSpec)) fnExactGreatestLossUptoCard

/-- THE SECOND FORM's CARD OF 'laws.FnExactRateAt'. -/
def fnExactRateAtUptoCard : Claim7 := { stood := { row := fnExactRateAtUptoRow, standIns := [], harness := (true, "d8072691c5739dadc1e1f70f92feb06942352783b27816f231f3e06547d23ffc"), looks := false }, kinds := [], alts := [], laidByText := true, laidKinds := [.data, .data, .data], laidTests := true, laidLooks := .later }
def FnExactRateAtUptoCardSaid : Prop := Claim7.holds Tryd.pinned (.plain (OpenSpec.upto fnExactRateAtSpec)) fnExactRateAtUptoCard

/-- THE SECOND FORM's CARD OF 'laws.FnExactLossesOf'. -/
def fnExactLossesOfUptoCard : Claim7 := { stood := { row := fnExactLossesOfUptoRow, standIns := [], harness := (true, "d8072691c5739dadc1e1f70f92feb06942352783b27816f231f3e06547d23ffc"), looks := false }, kinds := [], alts := [], laidByText := true, laidKinds := [.data, .data, .data, .data], laidTests := true, laidLooks := .later }
def FnExactLossesOfUptoCardSaid : Prop := Claim7.holds Tryd.pinned (.plain (OpenSpec.upto fnExactLossesOfSpec)) fnExactLossesOfUptoCard

/-- THE SECOND FORM's CARD OF 'laws.FnExactSinrOf'. -/
def fnExactSinrOfUptoCard : Claim7 := { stood := { row := fnExactSinrOfUptoRow, standIns := [], harness := (true, "d8072691c5739dadc1e1f70f92feb06942352783b27816f231f3e06547d23ffc"), looks := false }, kinds := [], alts := [], laidByText := true, laidKinds := [.data, .data, .data], laidTests := true, laidLooks := .later }
def FnExactSinrOfUptoCardSaid : Prop := Claim7.holds Tryd.pinned (.plain (OpenSpec.upto fnExactSinrOfSpec)) fnExactSinrOfUptoCard
end Rows
end Go.Proofs.YtlpjcebpfmhpnaaDoor
