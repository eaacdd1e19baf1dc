/-
  DERIVED. GIVEN WITH THE SEED: THE CARDS: each row of YtboglgkaelbdcaaDoorRows.lean that lists a variable, with what it lists TIED to the program's text (the seventh form; the later family's looks); each row that meets fmt, with fmt's text TOLD by the authors' own Lean function (tested against real Go, not proved from fmt's source: count such statements apart). THE CARD IS WHAT COUNTS. Prove the row's statement (the work); the ties are given (YtboglgkaelbdcaaDoorTie.lean); close each card by the builder's one call (the guide's Derived/Test/ToyasCard.lean, 'card_holds'). Laid BY PROGRAM, IN A SANDBOX (cutbox-door.mjs). By AI agents, Wed Nov 11 2026. No macro, syntax, notation, axiom, sorry.
-/
import Derived.Test.YtboglgkaelbdcaaDoorRows
import GoSem.ClaimSeven
namespace Go.Proofs.YtboglgkaelbdcaaDoor
namespace Rows

/-- THE TIED CARD OF 'laws.FnExactPathText'. -/
def fnExactPathTextCard : Claim7 := { stood := { row := fnExactPathTextRow, standIns := [], harness := (true, "9acdcf8afc44f73aa7354917a51d6adaefd196086faa447bdbffd159aef8d6aa"), looks := true }, kinds := [], alts := [], laidByText := true, laidKinds := [.data, .data, .data], laidTests := true, laidLooks := .later }
def FnExactPathTextCardSaid : Prop := Claim7.holds Tryd.pinned (.plain (OpenSpec.ofChange fnExactPathTextSpec)) fnExactPathTextCard

/-- THE TIED CARD OF 'laws.FnExactMaskText'. -/
def fnExactMaskTextCard : Claim7 := { stood := { row := fnExactMaskTextRow, standIns := [], harness := (true, "9acdcf8afc44f73aa7354917a51d6adaefd196086faa447bdbffd159aef8d6aa"), looks := true }, kinds := [], alts := [], laidByText := true, laidKinds := [.data, .data, .data], laidTests := true, laidLooks := .later }
def FnExactMaskTextCardSaid : Prop := Claim7.holds Tryd.pinned (.plain (OpenSpec.ofChange fnExactMaskTextSpec)) fnExactMaskTextCard

/-- THE TIED CARD OF 'laws.FnExactRadioText'. -/
def fnExactRadioTextCard : Claim7 := { stood := { row := fnExactRadioTextRow, standIns := [], harness := (true, "9acdcf8afc44f73aa7354917a51d6adaefd196086faa447bdbffd159aef8d6aa"), looks := true }, kinds := [], alts := [], laidByText := true, laidKinds := [.data, .data, .data], laidTests := true, laidLooks := .later }
def FnExactRadioTextCardSaid : Prop := Claim7.holds Tryd.pinned (.plain (OpenSpec.ofChange fnExactRadioTextSpec)) fnExactRadioTextCard

/-- THE TIED CARD OF 'laws.FnExactAntennaText'. -/
def fnExactAntennaTextCard : Claim7 := { stood := { row := fnExactAntennaTextRow, standIns := [], harness := (true, "9acdcf8afc44f73aa7354917a51d6adaefd196086faa447bdbffd159aef8d6aa"), looks := true }, kinds := [], alts := [], laidByText := true, laidKinds := [.data, .data, .data], laidTests := true, laidLooks := .later }
def FnExactAntennaTextCardSaid : Prop := Claim7.holds Tryd.pinned (.plain (OpenSpec.ofChange fnExactAntennaTextSpec)) fnExactAntennaTextCard

/-- THE TIED CARD OF 'laws.FnExactReadMask'. -/
def fnExactReadMaskCard : Claim7 := { stood := { row := fnExactReadMaskRow, standIns := [], harness := (true, "9acdcf8afc44f73aa7354917a51d6adaefd196086faa447bdbffd159aef8d6aa"), looks := true }, kinds := [], alts := [], laidByText := true, laidKinds := [.data, .data, .data, .data, .sentinel, .sentinel, .pinned], laidTests := true, laidLooks := .later }
def FnExactReadMaskCardSaid : Prop := Claim7.holds Tryd.pinned (.plain (OpenSpec.ofChange fnExactReadMaskSpec)) fnExactReadMaskCard

/-- THE TIED CARD OF 'laws.FnExactReadRadio'. -/
def fnExactReadRadioCard : Claim7 := { stood := { row := fnExactReadRadioRow, standIns := [], harness := (true, "9acdcf8afc44f73aa7354917a51d6adaefd196086faa447bdbffd159aef8d6aa"), looks := true }, kinds := [], alts := [], laidByText := true, laidKinds := [.data, .data, .data, .data, .sentinel, .sentinel, .pinned], laidTests := true, laidLooks := .later }
def FnExactReadRadioCardSaid : Prop := Claim7.holds Tryd.pinned (.plain (OpenSpec.ofChange fnExactReadRadioSpec)) fnExactReadRadioCard

/-- THE TIED CARD OF 'laws.FnExactReadAntenna'. -/
def fnExactReadAntennaCard : Claim7 := { stood := { row := fnExactReadAntennaRow, standIns := [], harness := (true, "9acdcf8afc44f73aa7354917a51d6adaefd196086faa447bdbffd159aef8d6aa"), looks := true }, kinds := [], alts := [], laidByText := true, laidKinds := [.data, .data, .data, .data, .sentinel, .sentinel, .pinned], laidTests := true, laidLooks := .later }
def FnExactReadAntennaCardSaid : Prop := Claim7.holds Tryd.pinned (.plain (OpenSpec.ofChange fnExactReadAntennaSpec)) fnExactReadAntennaCard

/-- THE SECOND FORM's CARD OF 'laws.FnExactPathText'. -/
def fnExactPathTextUptoCard : Claim7 := { stood := { row := fnExactPathTextUptoRow, standIns := [], harness := (true, "9acdcf8afc44f73aa7354917a51d6adaefd196086faa447bdbffd159aef8d6aa"), looks := true }, kinds := [], alts := [], laidByText := true, laidKinds := [.data, .data, .data], laidTests := true, laidLooks := .later }
def FnExactPathTextUptoCardSaid : Prop := Claim7.holds Tryd.pinned (.plain (OpenSpec.upto fnExactPathTextSpec)) fnExactPathTextUptoCard

/-- THE SECOND FORM's CARD OF 'laws.FnExactMaskText'. -/
def fnExactMaskTextUptoCard : Claim7 := { stood := { row := fnExactMaskTextUptoRow, standIns := [], harness := (true, "9acdcf8afc44f73aa7354917a51d6adaefd196086faa447bdbffd159aef8d6aa"), looks := true }, kinds := [], alts := [], laidByText := true, laidKinds := [.data, .data, .data], laidTests := true, laidLooks := .later }
def FnExactMaskTextUptoCardSaid : Prop := Claim7.holds Tryd.pinned (.plain (OpenSpec.upto fnExactMaskTextSpec)) fnExactMaskTextUptoCard

/-- THE SECOND FORM's CARD OF 'laws.FnExactRadioText'. -/
def fnExactRadioTextUptoCard : Claim7 := { stood := { row := fnExactRadioTextUptoRow, standIns := [], harness := (true, "9acdcf8afc44f73aa7354917a51d6adaefd196086faa447bdbffd159aef8d6aa"), looks := true }, kinds := [], alts := [], laidByText := true, laidKinds := [.data, .data, .data], laidTests := true, laidLooks := .later }
def FnExactRadioTextUptoCardSaid : Prop := Claim7.holds Tryd.pinned (.plain (OpenSpec.upto fnExactRadioTextSpec)) fnExactRadioTextUptoCard

/-- THE SECOND FORM's CARD OF 'laws.FnExactAntennaText'. -/
def fnExactAntennaTextUptoCard : Claim7 := { stood := { row := fnExactAntennaTextUptoRow, standIns := [], harness := (true, "9acdcf8afc44f73aa7354917a51d6adaefd196086faa447bdbffd159aef8d6aa"), looks := true }, kinds := [], alts := [], laidByText := true, laidKinds := [.data, .data, .data], laidTests := true, laidLooks := .later }
def FnExactAntennaTextUptoCardSaid : Prop := Claim7.holds Tryd.pinned (.plain (OpenSpec.upto fnExactAntennaTextSpec)) fnExactAntennaTextUptoCard

/-- THE SECOND FORM's CARD OF 'laws.FnExactReadMask'. -/
def fnExactReadMaskUptoCard : Claim7 := { stood := { row := fnExactReadMaskUptoRow, standIns := [], harness := (true, "9acdcf8afc44f73aa7354917a51d6adaefd196086faa447bdbffd159aef8d6aa"), looks := true }, kinds := [], alts := [], laidByText := true, laidKinds := [.data, .data, .data, .data, .sentinel, .sentinel, .pinned], laidTests := true, laidLooks := .later }
def FnExactReadMaskUptoCardSaid : Prop := Claim7.holds Tryd.pinned (.plain (OpenSpec.upto fnExactReadMaskSpec)) fnExactReadMaskUptoCard

/-- THE SECOND FORM's CARD OF 'laws.FnExactReadRadio'. -/
def fnExactReadRadioUptoCard : Claim7 := { stood := { row := fnExactReadRadioUptoRow, standIns := [], harness := (true, "9acdcf8afc44f73aa7354917a51d6adaefd196086faa447bdbffd159aef8d6aa"), looks := true }, kinds := [], alts := [], laidByText := true, laidKinds := [.data, .data, .data, .data, .sentinel, .sentinel, .pinned], laidTests := true, laidLooks := .later }
def FnExactReadRadioUptoCardSaid : Prop := Claim7.holds Tryd.pinned (.plain (OpenSpec.upto fnExactReadRadioSpec)) fnExactReadRadioUptoCard

/-- THE SECOND FORM's CARD OF 'laws.FnExactReadAntenna'. -/
def fnExactReadAntennaUptoCard : Claim7 := { stood := { row := fnExactReadAntennaUptoRow, standIns := [], harness := (true, "9acdcf8afc44f73aa7354917a51d6adaefd196086faa447bdbffd159aef8d6aa"), looks := true }, kinds := [], alts := [], laidByText := true, laidKinds := [.data, .data, .data, .data, .sentinel, .sentinel, .pinned], laidTests := true, laidLooks := .later }
def FnExactReadAntennaUptoCardSaid : Prop := Claim7.holds Tryd.pinned (.plain (OpenSpec.upto fnExactReadAntennaSpec)) fnExactReadAntennaUptoCard
end Rows
end Go.Proofs.YtboglgkaelbdcaaDoor
