/-
  DERIVED. GIVEN WITH THE SEED: THE CARDS: each row of YtedpdcdmemenhaaDoorRows.lean that lists a variable, with what it lists TIED to the program's text (the seventh form; the later family's looks); each row that meets fmt, with fmt's text TOLD by the authors' own Lean function (tested against real Go, not proved from fmt's source: count such statements apart). THE CARD IS WHAT COUNTS. Prove the row's statement (the work); the ties are given (YtedpdcdmemenhaaDoorTie.lean); close each card by the builder's one call (the guide's Derived/Test/ToyasCard.lean, 'card_holds'). Laid BY PROGRAM, IN A SANDBOX (cutbox-door.mjs). By AI agents, Wed Nov 11 2026. No macro, syntax, notation, axiom, sorry.
-/
import Derived.Test.YtedpdcdmemenhaaDoorRows
import GoSem.ClaimSeven
namespace Go.Proofs.YtedpdcdmemenhaaDoor
namespace Rows

/-- THE TIED CARD OF 'laws.FnExactElevationOf'. -/
def fnExactElevationOfCard : Claim7 := { stood := { row := fnExactElevationOfRow, standIns := [], harness := (true, "a07977621d0e585562d70382fd7f734682778e3388c95d7e4569cad7a89900e3"), looks := false }, kinds := [], alts := [], laidByText := true, laidKinds := [.data], laidTests := true, laidLooks := .later }
def FnExactElevationOfCardSaid : Prop := Claim7.holds Tryd.pinned (.plain (OpenSpec.ofChange fnExactElevationOfSpec)) fnExactElevationOfCard

/-- THE SECOND FORM's CARD OF 'laws.FnExactElevationOf'. -/
def fnExactElevationOfUptoCard : Claim7 := { stood := { row := fnExactElevationOfUptoRow, standIns := [], harness := (true, "a07977621d0e585562d70382fd7f734682778e3388c95d7e4569cad7a89900e3"), looks := false }, kinds := [], alts := [], laidByText := true, laidKinds := [.data], laidTests := true, laidLooks := .later }
def FnExactElevationOfUptoCardSaid : Prop := Claim7.holds Tryd.pinned (.plain (OpenSpec.upto fnExactElevationOfSpec)) fnExactElevationOfUptoCard
end Rows
end Go.Proofs.YtedpdcdmemenhaaDoor
