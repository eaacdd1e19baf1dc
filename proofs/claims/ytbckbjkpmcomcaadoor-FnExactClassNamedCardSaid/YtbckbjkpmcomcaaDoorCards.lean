/-
  DERIVED. GIVEN WITH THE SEED: THE CARDS: each row of YtbckbjkpmcomcaaDoorRows.lean that lists a variable, with what it lists TIED to the program's text (the seventh form; the later family's looks); each row that meets fmt, with fmt's text TOLD by the authors' own Lean function (tested against real Go, not proved from fmt's source: count such statements apart). THE CARD IS WHAT COUNTS. Prove the row's statement (the work); the ties are given (YtbckbjkpmcomcaaDoorTie.lean); close each card by the builder's one call (the guide's Derived/Test/ToyasCard.lean, 'card_holds'). Laid BY PROGRAM, IN A SANDBOX (cutbox-door.mjs). By AI agents, Wed Nov 11 2026. No macro, syntax, notation, axiom, sorry.
-/
import Derived.Test.YtbckbjkpmcomcaaDoorRows
import GoSem.ClaimSeven
namespace Go.Proofs.YtbckbjkpmcomcaaDoor
namespace Rows

/-- THE TIED CARD OF 'laws.FnExactClassNamed'. -/
def fnExactClassNamedCard : Claim7 := { stood := { row := fnExactClassNamedRow, standIns := [], harness := (true, "a4bce13014fae45e11c68edd59b1091239cfab7a933a482e41895cdc11f5a4f6"), looks := false }, kinds := [], alts := [], laidByText := true, laidKinds := [.data], laidTests := true, laidLooks := .later }
def FnExactClassNamedCardSaid : Prop := Claim7.holds Tryd.pinned (.plain (OpenSpec.ofChange fnExactClassNamedSpec)) fnExactClassNamedCard

/-- THE TIED CARD OF 'laws.FnExactClutterName'. -/
def fnExactClutterNameCard : Claim7 := { stood := { row := fnExactClutterNameRow, standIns := [], harness := (true, "a4bce13014fae45e11c68edd59b1091239cfab7a933a482e41895cdc11f5a4f6"), looks := false }, kinds := [], alts := [], laidByText := true, laidKinds := [.data], laidTests := true, laidLooks := .later }
def FnExactClutterNameCardSaid : Prop := Claim7.holds Tryd.pinned (.plain (OpenSpec.ofChange fnExactClutterNameSpec)) fnExactClutterNameCard

/-- THE TIED CARD OF 'laws.FnExactClutterHeight'. -/
def fnExactClutterHeightCard : Claim7 := { stood := { row := fnExactClutterHeightRow, standIns := [], harness := (true, "a4bce13014fae45e11c68edd59b1091239cfab7a933a482e41895cdc11f5a4f6"), looks := false }, kinds := [], alts := [], laidByText := true, laidKinds := [.data], laidTests := true, laidLooks := .later }
def FnExactClutterHeightCardSaid : Prop := Claim7.holds Tryd.pinned (.plain (OpenSpec.ofChange fnExactClutterHeightSpec)) fnExactClutterHeightCard

/-- THE TIED CARD OF 'laws.FnExactClutterLoss'. -/
def fnExactClutterLossCard : Claim7 := { stood := { row := fnExactClutterLossRow, standIns := [], harness := (true, "a4bce13014fae45e11c68edd59b1091239cfab7a933a482e41895cdc11f5a4f6"), looks := false }, kinds := [], alts := [], laidByText := true, laidKinds := [.data], laidTests := true, laidLooks := .later }
def FnExactClutterLossCardSaid : Prop := Claim7.holds Tryd.pinned (.plain (OpenSpec.ofChange fnExactClutterLossSpec)) fnExactClutterLossCard

/-- THE SECOND FORM's CARD OF 'laws.FnExactClassNamed'. -/
def fnExactClassNamedUptoCard : Claim7 := { stood := { row := fnExactClassNamedUptoRow, standIns := [], harness := (true, "a4bce13014fae45e11c68edd59b1091239cfab7a933a482e41895cdc11f5a4f6"), looks := false }, kinds := [], alts := [], laidByText := true, laidKinds := [.data], laidTests := true, laidLooks := .later }
def FnExactClassNamedUptoCardSaid : Prop := Claim7.holds Tryd.pinned (.plain (OpenSpec.upto fnExactClassNamedSpec)) fnExactClassNamedUptoCard

/-- THE SECOND FORM's CARD OF 'laws.FnExactClutterName'. -/
def fnExactClutterNameUptoCard : Claim7 := { stood := { row := fnExactClutterNameUptoRow, standIns := [], harness := (true, "a4bce13014fae45e11c68edd59b1091239cfab7a933a482e41895cdc11f5a4f6"), looks := false }, kinds := [], alts := [], laidByText := true, laidKinds := [.data], laidTests := true, laidLooks := .later }
def FnExactClutterNameUptoCardSaid : Prop := Claim7.holds Tryd.pinned (.plain (OpenSpec.upto fnExactClutterNameSpec)) fnExactClutterNameUptoCard

/-- THE SECOND FORM's CARD OF 'laws.FnExactClutterHeight'. -/
def fnExactClutterHeightUptoCard : Claim7 := { stood := { row := fnExactClutterHeightUptoRow, standIns := [], harness := (true, "a4bce13014fae45e11c68edd59b1091239cfab7a933a482e41895cdc11f5a4f6"), looks := false }, kinds := [], alts := [], laidByText := true, laidKinds := [.data], laidTests := true, laidLooks := .later }
def FnExactClutterHeightUptoCardSaid : Prop := Claim7.holds Tryd.pinned (.plain (OpenSpec.upto fnExactClutterHeightSpec)) fnExactClutterHeightUptoCard

/-- THE SECOND FORM's CARD OF 'laws.FnExactClutterLoss'. -/
def fnExactClutterLossUptoCard : Claim7 := { stood := { row := fnExactClutterLossUptoRow, standIns := [], harness := (true, "a4bce13014fae45e11c68edd59b1091239cfab7a933a482e41895cdc11f5a4f6"), looks := false }, kinds := [], alts := [], laidByText := true, laidKinds := [.data], laidTests := true, laidLooks := .later }
def FnExactClutterLossUptoCardSaid : Prop := Claim7.holds Tryd.pinned (.plain (OpenSpec.upto fnExactClutterLossSpec)) fnExactClutterLossUptoCard
end Rows
end Go.Proofs.YtbckbjkpmcomcaaDoor
