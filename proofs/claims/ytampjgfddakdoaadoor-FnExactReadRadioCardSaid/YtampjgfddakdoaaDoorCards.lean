/-
  DERIVED. GIVEN WITH THE SEED: THE CARDS: each row of YtampjgfddakdoaaDoorRows.lean that lists a variable, with what it lists TIED to the program's text (the seventh form; the later family's looks); each row that meets fmt, with fmt's text TOLD by the authors' own Lean function (tested against real Go, not proved from fmt's source: count such statements apart). THE CARD IS WHAT COUNTS. Prove the row's statement (the work); the ties are given (YtampjgfddakdoaaDoorTie.lean); close each card by the builder's one call (the guide's Derived/Test/ToyasCard.lean, 'card_holds'). Laid BY PROGRAM, IN A SANDBOX (cutbox-door.mjs). By AI agents, Wed Nov 11 2026. No macro, syntax, notation, axiom, sorry.
-/
import Derived.Test.YtampjgfddakdoaaDoorRows
import GoSem.ClaimSeven
namespace Go.Proofs.YtampjgfddakdoaaDoor
namespace Rows

/-- THE TIED CARD OF 'laws.FnExactReadMask'. -/
def fnExactReadMaskCard : Claim7 := { stood := { row := fnExactReadMaskRow, standIns := [], harness := (true, "a89daea00eb57d33521f903159430714e14b32227c3081dbee618f8f295ed9f2"), looks := true }, kinds := [], alts := [], laidByText := true, laidKinds := [.data, .data, .data, .data, .sentinel, .sentinel, .pinned], laidTests := true, laidLooks := .later }
def FnExactReadMaskCardSaid : Prop := Claim7.holds Tryd.pinned (.plain (OpenSpec.ofChange fnExactReadMaskSpec)) fnExactReadMaskCard

/-- THE TIED CARD OF 'laws.FnExactReadRadio'. -/
def fnExactReadRadioCard : Claim7 := { stood := { row := fnExactReadRadioRow, standIns := [], harness := (true, "a89daea00eb57d33521f903159430714e14b32227c3081dbee618f8f295ed9f2"), looks := true }, kinds := [], alts := [], laidByText := true, laidKinds := [.data, .data, .data, .data, .sentinel, .sentinel, .pinned], laidTests := true, laidLooks := .later }
def FnExactReadRadioCardSaid : Prop := Claim7.holds Tryd.pinned (.plain (OpenSpec.ofChange fnExactReadRadioSpec)) fnExactReadRadioCard

/-- THE TIED CARD OF 'laws.FnExactReadAntenna'. -/
def fnExactReadAntennaCard : Claim7 := { stood := { row := fnExactReadAntennaRow, standIns := [], harness := (true, "a89daea00eb57d33521f903159430714e14b32227c3081dbee618f8f295ed9f2"), looks := true }, kinds := [], alts := [], laidByText := true, laidKinds := [.data, .data, .data, .data, .sentinel, .sentinel, .pinned], laidTests := true, laidLooks := .later }
def FnExactReadAntennaCardSaid : Prop := Claim7.holds Tryd.pinned (.plain (OpenSpec.ofChange fnExactReadAntennaSpec)) fnExactReadAntennaCard

/-- THE SECOND FORM's CARD OF 'laws.FnExactReadMask'. -/
def fnExactReadMaskUptoCard : Claim7 := { stood := { row := fnExactReadMaskUptoRow, standIns := [], harness := (true, "a89daea00eb57d33521f903159430714e14b32227c3081dbee618f8f295ed9f2"), looks := true }, kinds := [], alts := [], laidByText := true, laidKinds := [.data, .data, .data, .data, .sentinel, .sentinel, .pinned], laidTests := true, laidLooks := .later }
def FnExactReadMaskUptoCardSaid : Prop := Claim7.holds Tryd.pinned (.plain (OpenSpec.upto fnExactReadMaskSpec)) fnExactReadMaskUptoCard

/-- THE SECOND FORM's CARD OF 'laws.FnExactReadRadio'. -/
def fnExactReadRadioUptoCard : Claim7 := { stood := { row := fnExactReadRadioUptoRow, standIns := [], harness := (true, "a89daea00eb57d33521f903159430714e14b32227c3081dbee618f8f295ed9f2"), looks := true }, kinds := [], alts := [], laidByText := true, laidKinds := [.data, .data, .data, .data, .sentinel, .sentinel, .pinned], laidTests := true, laidLooks := .later }
def FnExactReadRadioUptoCardSaid : Prop := Claim7.holds Tryd.pinned (.plain (OpenSpec.upto fnExactReadRadioSpec)) fnExactReadRadioUptoCard

/-- THE SECOND FORM's CARD OF 'laws.FnExactReadAntenna'. -/
def fnExactReadAntennaUptoCard : Claim7 := { stood := { row := fnExactReadAntennaUptoRow, standIns := [], harness := (true, "a89daea00eb57d33521f903159430714e14b32227c3081dbee618f8f295ed9f2"), looks := true }, kinds := [], alts := [], laidByText := true, laidKinds := [.data, .data, .data, .data, .sentinel, .sentinel, .pinned], laidTests := true, laidLooks := .later }
def FnExactReadAntennaUptoCardSaid : Prop := Claim7.holds Tryd.pinned (.plain (OpenSpec.upto fnExactReadAntennaSpec)) fnExactReadAntennaUptoCard
end Rows
end Go.Proofs.YtampjgfddakdoaaDoor
