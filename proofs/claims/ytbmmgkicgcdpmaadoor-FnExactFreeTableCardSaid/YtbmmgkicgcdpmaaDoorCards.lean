/-
  DERIVED. GIVEN WITH THE SEED: THE CARDS: each row of YtbmmgkicgcdpmaaDoorRows.lean that lists a variable, with what it lists TIED to the program's text (the seventh form; the later family's looks); each row that meets fmt, with fmt's text TOLD by the authors' own Lean function (tested against real Go, not proved from fmt's source: count such statements apart). THE CARD IS WHAT COUNTS. Prove the row's statement (the work); the ties are given (YtbmmgkicgcdpmaaDoorTie.lean); close each card by the builder's one call (the guide's Derived/Test/ToyasCard.lean, 'card_holds'). Laid BY PROGRAM, IN A SANDBOX (cutbox-door.mjs). By AI agents, Wed Nov 11 2026. No macro, syntax, notation, axiom, sorry.
-/
import Derived.Test.YtbmmgkicgcdpmaaDoorRows
import GoSem.ClaimSeven
namespace Go.Proofs.YtbmmgkicgcdpmaaDoor
namespace Rows

/-- THE TIED CARD OF 'laws.FnExactFieldOfLevel'. -/
def fnExactFieldOfLevelCard : Claim7 := { stood := { row := fnExactFieldOfLevelRow, standIns := [], harness := (true, "55005625bb804592c0ee1a0eb6046d2b0d08ac94533a4fa7c8aa65e84dc186e6"), looks := false }, kinds := [], alts := [], laidByText := true, laidKinds := [.data, .data, .data], laidTests := true, laidLooks := .later }
def FnExactFieldOfLevelCardSaid : Prop := Claim7.holds Tryd.pinned (.plain (OpenSpec.ofChange fnExactFieldOfLevelSpec)) fnExactFieldOfLevelCard

/-- THE TIED CARD OF 'laws.FnExactLevelOfField'. -/
def fnExactLevelOfFieldCard : Claim7 := { stood := { row := fnExactLevelOfFieldRow, standIns := [], harness := (true, "55005625bb804592c0ee1a0eb6046d2b0d08ac94533a4fa7c8aa65e84dc186e6"), looks := false }, kinds := [], alts := [], laidByText := true, laidKinds := [.data, .data, .data], laidTests := true, laidLooks := .later }
def FnExactLevelOfFieldCardSaid : Prop := Claim7.holds Tryd.pinned (.plain (OpenSpec.ofChange fnExactLevelOfFieldSpec)) fnExactLevelOfFieldCard

/-- THE TIED CARD OF 'laws.FnExactFieldStrength'. -/
def fnExactFieldStrengthCard : Claim7 := { stood := { row := fnExactFieldStrengthRow, standIns := [], harness := (true, "55005625bb804592c0ee1a0eb6046d2b0d08ac94533a4fa7c8aa65e84dc186e6"), looks := false }, kinds := [], alts := [], laidByText := true, laidKinds := [.data, .data, .data], laidTests := true, laidLooks := .later }
def FnExactFieldStrengthCardSaid : Prop := Claim7.holds Tryd.pinned (.plain (OpenSpec.ofChange fnExactFieldStrengthSpec)) fnExactFieldStrengthCard

/-- THE TIED CARD OF 'laws.FnExactFreeLoss'. -/
def fnExactFreeLossCard : Claim7 := { stood := { row := fnExactFreeLossRow, standIns := [], harness := (true, "55005625bb804592c0ee1a0eb6046d2b0d08ac94533a4fa7c8aa65e84dc186e6"), looks := false }, kinds := [], alts := [], laidByText := true, laidKinds := [.data, .data, .data], laidTests := true, laidLooks := .later }
def FnExactFreeLossCardSaid : Prop := Claim7.holds Tryd.pinned (.plain (OpenSpec.ofChange fnExactFreeLossSpec)) fnExactFreeLossCard

/-- THE TIED CARD OF 'laws.FnExactRangeOfField'. -/
def fnExactRangeOfFieldCard : Claim7 := { stood := { row := fnExactRangeOfFieldRow, standIns := [], harness := (true, "55005625bb804592c0ee1a0eb6046d2b0d08ac94533a4fa7c8aa65e84dc186e6"), looks := false }, kinds := [], alts := [], laidByText := true, laidKinds := [.data, .data, .data], laidTests := true, laidLooks := .later }
def FnExactRangeOfFieldCardSaid : Prop := Claim7.holds Tryd.pinned (.plain (OpenSpec.ofChange fnExactRangeOfFieldSpec)) fnExactRangeOfFieldCard

/-- THE TIED CARD OF 'laws.FnExactEdgeLoss'. -/
def fnExactEdgeLossCard : Claim7 := { stood := { row := fnExactEdgeLossRow, standIns := [], harness := (true, "55005625bb804592c0ee1a0eb6046d2b0d08ac94533a4fa7c8aa65e84dc186e6"), looks := false }, kinds := [], alts := [], laidByText := true, laidKinds := [.data, .data, .data], laidTests := true, laidLooks := .later }
def FnExactEdgeLossCardSaid : Prop := Claim7.holds Tryd.pinned (.plain (OpenSpec.ofChange fnExactEdgeLossSpec)) fnExactEdgeLossCard

/-- THE TIED CARD OF 'laws.FnExactRangeOfLoss'. -/
def fnExactRangeOfLossCard : Claim7 := { stood := { row := fnExactRangeOfLossRow, standIns := [], harness := (true, "55005625bb804592c0ee1a0eb6046d2b0d08ac94533a4fa7c8aa65e84dc186e6"), looks := false }, kinds := [], alts := [], laidByText := true, laidKinds := [.data, .data, .data], laidTests := true, laidLooks := .later }
def FnExactRangeOfLossCardSaid : Prop := Claim7.holds Tryd.pinned (.plain (OpenSpec.ofChange fnExactRangeOfLossSpec)) fnExactRangeOfLossCard

/-- THE TIED CARD OF 'laws.FnExactFreeTable'. -/
def fnExactFreeTableCard : Claim7 := { stood := { row := fnExactFreeTableRow, standIns := [], harness := (true, "55005625bb804592c0ee1a0eb6046d2b0d08ac94533a4fa7c8aa65e84dc186e6"), looks := false }, kinds := [], alts := [], laidByText := true, laidKinds := [.data, .data, .data], laidTests := true, laidLooks := .later }
def FnExactFreeTableCardSaid : Prop := Claim7.holds Tryd.pinned (.plain (OpenSpec.ofChange fnExactFreeTableSpec)) fnExactFreeTableCard

/-- THE TIED CARD OF 'laws.FnExactRainSpecific'. -/
def fnExactRainSpecificCard : Claim7 := { stood := { row := fnExactRainSpecificRow, standIns := [], harness := (true, "55005625bb804592c0ee1a0eb6046d2b0d08ac94533a4fa7c8aa65e84dc186e6"), looks := false }, kinds := [], alts := [], laidByText := true, laidKinds := [.data, .data, .data], laidTests := true, laidLooks := .later }
def FnExactRainSpecificCardSaid : Prop := Claim7.holds Tryd.pinned (.plain (OpenSpec.ofChange fnExactRainSpecificSpec)) fnExactRainSpecificCard

/-- THE TIED CARD OF 'laws.FnExactRainLoss'. -/
def fnExactRainLossCard : Claim7 := { stood := { row := fnExactRainLossRow, standIns := [], harness := (true, "55005625bb804592c0ee1a0eb6046d2b0d08ac94533a4fa7c8aa65e84dc186e6"), looks := false }, kinds := [], alts := [], laidByText := true, laidKinds := [.data, .data, .data], laidTests := true, laidLooks := .later }
def FnExactRainLossCardSaid : Prop := Claim7.holds Tryd.pinned (.plain (OpenSpec.ofChange fnExactRainLossSpec)) fnExactRainLossCard

/-- THE TIED CARD OF 'laws.FnExactNoiseFloor'. -/
def fnExactNoiseFloorCard : Claim7 := { stood := { row := fnExactNoiseFloorRow, standIns := [], harness := (true, "55005625bb804592c0ee1a0eb6046d2b0d08ac94533a4fa7c8aa65e84dc186e6"), looks := false }, kinds := [], alts := [], laidByText := true, laidKinds := [.data, .data, .data], laidTests := true, laidLooks := .later }
def FnExactNoiseFloorCardSaid : Prop := Claim7.holds Tryd.pinned (.plain (OpenSpec.ofChange fnExactNoiseFloorSpec)) fnExactNoiseFloorCard

/-- THE TIED CARD OF 'laws.FnExactSnrOf'. -/
def fnExactSnrOfCard : Claim7 := { stood := { row := fnExactSnrOfRow, standIns := [], harness := (true, "55005625bb804592c0ee1a0eb6046d2b0d08ac94533a4fa7c8aa65e84dc186e6"), looks := false }, kinds := [], alts := [], laidByText := true, laidKinds := [.data, .data, .data], laidTests := true, laidLooks := .later }
def FnExactSnrOfCardSaid : Prop := Claim7.holds Tryd.pinned (.plain (OpenSpec.ofChange fnExactSnrOfSpec)) fnExactSnrOfCard

/-- THE SECOND FORM's CARD OF 'laws.FnExactFieldOfLevel'. -/
def fnExactFieldOfLevelUptoCard : Claim7 := { stood := { row := fnExactFieldOfLevelUptoRow, standIns := [], harness := (true, "55005625bb804592c0ee1a0eb6046d2b0d08ac94533a4fa7c8aa65e84dc186e6"), looks := false }, kinds := [], alts := [], laidByText := true, laidKinds := [.data, .data, .data], laidTests := true, laidLooks := .later }
def FnExactFieldOfLevelUptoCardSaid : Prop := Claim7.holds Tryd.pinned (.plain (OpenSpec.upto fnExactFieldOfLevelSpec)) fnExactFieldOfLevelUptoCard

/-- THE SECOND FORM's CARD OF 'laws.FnExactLevelOfField'. -/
def fnExactLevelOfFieldUptoCard : Claim7 := { stood := { row := fnExactLevelOfFieldUptoRow, standIns := [], harness := (true, "55005625bb804592c0ee1a0eb6046d2b0d08ac94533a4fa7c8aa65e84dc186e6"), looks := false }, kinds := [], alts := [], laidByText := true, laidKinds := [.data, .data, .data], laidTests := true, laidLooks := .later }
def FnExactLevelOfFieldUptoCardSaid : Prop := Claim7.holds Tryd.pinned (.plain (OpenSpec.upto fnExactLevelOfFieldSpec)) fnExactLevelOfFieldUptoCard

/-- THE SECOND FORM's CARD OF 'laws.FnExactFieldStrength'. -/
def fnExactFieldStrengthUptoCard : Claim7 := { stood := { row := fnExactFieldStrengthUptoRow, standIns := [], harness := (true, "55005625bb804592c0ee1a0eb6046d2b0d08ac94533a4fa7c8aa65e84dc186e6"), looks := false }, kinds := [], alts := [], laidByText := true, laidKinds := [.data, .data, .data], laidTests := true, laidLooks := .later }
def FnExactFieldStrengthUptoCardSaid : Prop := Claim7.holds Tryd.pinned (.plain (OpenSpec.upto fnExactFieldStrengthSpec)) fnExactFieldStrengthUptoCard

/-- THE SECOND FORM's CARD OF 'laws.FnExactFreeLoss'. -/
def fnExactFreeLossUptoCard : Claim7 := { stood := { row := fnExactFreeLossUptoRow, standIns := [], harness := (true, "55005625bb804592c0ee1a0eb6046d2b0d08ac94533a4fa7c8aa65e84dc186e6"), looks := false }, kinds := [], alts := [], laidByText := true, laidKinds := [.data, .data, .data], laidTests := true, laidLooks := .later }
def FnExactFreeLossUptoCardSaid : Prop := Claim7.holds Tryd.pinned (.plain (OpenSpec.upto fnExactFreeLossSpec)) fnExactFreeLossUptoCard

/-- THE SECOND FORM's CARD OF 'laws.FnExactRangeOfField'. -/
def fnExactRangeOfFieldUptoCard : Claim7 := { stood := { row := fnExactRangeOfFieldUptoRow, standIns := [], harness := (true, "55005625bb804592c0ee1a0eb6046d2b0d08ac94533a4fa7c8aa65e84dc186e6"), looks := false }, kinds := [], alts := [], laidByText := true, laidKinds := [.data, .data, .data], laidTests := true, laidLooks := .later }
def FnExactRangeOfFieldUptoCardSaid : Prop := Claim7.holds Tryd.pinned (.plain (OpenSpec.upto fnExactRangeOfFieldSpec)) fnExactRangeOfFieldUptoCard

/-- THE SECOND FORM's CARD OF 'laws.FnExactEdgeLoss'. -/
def fnExactEdgeLossUptoCard : Claim7 := { stood := { row := fnExactEdgeLossUptoRow, standIns := [], harness := (true, "55005625bb804592c0ee1a0eb6046d2b0d08ac94533a4fa7c8aa65e84dc186e6"), looks := false }, kinds := [], alts := [], laidByText := true, laidKinds := [.data, .data, .data], laidTests := true, laidLooks := .later }
def FnExactEdgeLossUptoCardSaid : Prop := Claim7.holds Tryd.pinned (.plain (OpenSpec.upto fnExactEdgeLossSpec)) fnExactEdgeLossUptoCard

/-- THE SECOND FORM's CARD OF 'laws.FnExactRangeOfLoss'. -/
def fnExactRangeOfLossUptoCard : Claim7 := { stood := { row := fnExactRangeOfLossUptoRow, standIns := [], harness := (true, "55005625bb804592c0ee1a0eb6046d2b0d08ac94533a4fa7c8aa65e84dc186e6"), looks := false }, kinds := [], alts := [], laidByText := true, laidKinds := [.data, .data, .data], laidTests := true, laidLooks := .later }
def FnExactRangeOfLossUptoCardSaid : Prop := Claim7.holds Tryd.pinned (.plain (OpenSpec.upto fnExactRangeOfLossSpec)) fnExactRangeOfLossUptoCard

/-- THE SECOND FORM's CARD OF 'laws.FnExactFreeTable'. -/
def fnExactFreeTableUptoCard : Claim7 := { stood := { row := fnExactFreeTableUptoRow, standIns := [], harness := (true, "55005625bb804592c0ee1a0eb6046d2b0d08ac94533a4fa7c8aa65e84dc186e6"), looks := false }, kinds := [], alts := [], laidByText := true, laidKinds := [.data, .data, .data], laidTests := true, laidLooks := .later }
def FnExactFreeTableUptoCardSaid : Prop := Claim7.holds Tryd.pinned (.plain (OpenSpec.upto fnExactFreeTableSpec)) fnExactFreeTableUptoCard

/-- THE SECOND FORM's CARD OF 'laws.FnExactRainSpecific'. -/
def fnExactRainSpecificUptoCard : Claim7 := { stood := { row := fnExactRainSpecificUptoRow, standIns := [], harness := (true, "55005625bb804592c0ee1a0eb6046d2b0d08ac94533a4fa7c8aa65e84dc186e6"), looks := false }, kinds := [], alts := [], laidByText := true, laidKinds := [.data, .data, .data], laidTests := true, laidLooks := .later }
def FnExactRainSpecificUptoCardSaid : Prop := Claim7.holds Tryd.pinned (.plain (OpenSpec.upto fnExactRainSpecificSpec)) fnExactRainSpecificUptoCard

/-- THE SECOND FORM's CARD OF 'laws.FnExactRainLoss'. -/
def fnExactRainLossUptoCard : Claim7 := { stood := { row := fnExactRainLossUptoRow, standIns := [], harness := (true, "55005625bb804592c0ee1a0eb6046d2b0d08ac94533a4fa7c8aa65e84dc186e6"), looks := false }, kinds := [], alts := [], laidByText := true, laidKinds := [.data, .data, .data], laidTests := true, laidLooks := .later }
def FnExactRainLossUptoCardSaid : Prop := Claim7.holds Tryd.pinned (.plain (OpenSpec.upto fnExactRainLossSpec)) fnExactRainLossUptoCard

/-- THE SECOND FORM's CARD OF 'laws.FnExactNoiseFloor'. -/
def fnExactNoiseFloorUptoCard : Claim7 := { stood := { row := fnExactNoiseFloorUptoRow, standIns := [], harness := (true, "55005625bb804592c0ee1a0eb6046d2b0d08ac94533a4fa7c8aa65e84dc186e6"), looks := false }, kinds := [], alts := [], laidByText := true, laidKinds := [.data, .data, .data], laidTests := true, laidLooks := .later }
def FnExactNoiseFloorUptoCardSaid : Prop := Claim7.holds Tryd.pinned (.plain (OpenSpec.upto fnExactNoiseFloorSpec)) fnExactNoiseFloorUptoCard

/-- THE SECOND FORM's CARD OF 'laws.FnExactSnrOf'. -/
def fnExactSnrOfUptoCard : Claim7 := { stood := { row := fnExactSnrOfUptoRow, standIns := [], harness := (true, "55005625bb804592c0ee1a0eb6046d2b0d08ac94533a4fa7c8aa65e84dc186e6"), looks := false }, kinds := [], alts := [], laidByText := true, laidKinds := [.data, .data, .data], laidTests := true, laidLooks := .later }
def FnExactSnrOfUptoCardSaid : Prop := Claim7.holds Tryd.pinned (.plain (OpenSpec.upto fnExactSnrOfSpec)) fnExactSnrOfUptoCard
end Rows
end Go.Proofs.YtbmmgkicgcdpmaaDoor
