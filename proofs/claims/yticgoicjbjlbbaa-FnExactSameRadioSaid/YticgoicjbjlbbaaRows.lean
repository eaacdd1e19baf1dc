/-
  No cell of these rows narrows 'for every input' (looked for: loops, veiled, ifaces, maps, wideKeys, modest, calm, conditions, laid).
  DERIVED. THE GIVEN ROWS OF THIS SEAT. 12 by the template 'for every input the law returns true; each argument reads behind the call as it read before'; 0 by the template 'total and deterministic' (their statements: YticgoicjbjlbbaaTotals.lean).
  GIVEN WITH THE SEED: the statements are not yours to turn. If you find one false, say at which input.
  Laid BY PROGRAM, IN A SANDBOX (cutbox-rows.mjs): the forced cells as the released guide's own fill.sh prints them over the translation 17acd3795ac3770f… (all of the seat's roots in one cut). By AI agents, Wed Nov 11 2026. No macro, syntax, notation, axiom, sorry.
-/
import Derived.Test.YticgoicjbjlbbaaChecked
import GoSem.Claim
import GoSem.ClaimJoined
import GoSem.ClaimMapViews
import Derived.JoinedTies
import Derived.KernelRfl
namespace Go.Proofs.Yticgoicjbjlbbaa
/- THE CELL 'sum', in the pinned program and in every row, IS THE sha256 OF THE DUMP (.gsa) THAT YticgoicjbjlbbaaProg.lean LOADS. Nothing in Lean hashes anything: it is a label: what it is worth is what the hold of that sum in a sandbox is worth. -/
noncomputable def Try.pinned : Pinned := { name := "yticgoicjbjlbbaa", sum := "17acd3795ac3770f4c39090953e99d748474779c250bf2932509ecacdbebd5db", checked := Try.checked }
namespace Rows
def none {H : Type} : Left H := { results := [], args := [] }

/-- 'laws.FnExactGasSpecific': WHATEVER THE INPUT: true; the input reads as it did. -/
def fnExactGasSpecificSpec : ChangeSpec := { name := "fnExactGasSpecific", fn := fun _ => fun
  | [d] => { results := [.lit (.bool true)], args := [d] }
  | _ => none }
def fnExactGasSpecificRow : OpenClaim := { program := "yticgoicjbjlbbaa", sum := "17acd3795ac3770f4c39090953e99d748474779c250bf2932509ecacdbebd5db", func := "loop.example/g00925/laws.FnExactGasSpecific", spec := "fnExactGasSpecific", apart := false }
def FnExactGasSpecificSaid : Prop := fnExactGasSpecificRow.holds Try.pinned (OpenSpec.ofChange fnExactGasSpecificSpec)

/-- ITS FALSE NEIGHBOUR: 'it returns false'. Refute it at one input. -/
def fnExactGasSpecificWrong : ChangeSpec := { name := "fnExactGasSpecific", fn := fun _ => fun
  | [d] => { results := [.lit (.bool false)], args := [d] }
  | _ => none }
def FnExactGasSpecificWrongFalsely : Prop := fnExactGasSpecificRow.holds Try.pinned (OpenSpec.ofChange fnExactGasSpecificWrong)

/-- 'laws.FnExactStepsFor': WHATEVER THE INPUT: true; the input reads as it did. -/
def fnExactStepsForSpec : ChangeSpec := { name := "fnExactStepsFor", fn := fun _ => fun
  | [d1, d2] => { results := [.lit (.bool true)], args := [d1, d2] }
  | _ => none }
def fnExactStepsForRow : OpenClaim := { program := "yticgoicjbjlbbaa", sum := "17acd3795ac3770f4c39090953e99d748474779c250bf2932509ecacdbebd5db", func := "loop.example/g00925/laws.FnExactStepsFor", spec := "fnExactStepsFor", unfollowed := true, recurses := true, apart := false }
def FnExactStepsForSaid : Prop := fnExactStepsForRow.holds Try.pinned (OpenSpec.ofChange fnExactStepsForSpec)

/-- ITS FALSE NEIGHBOUR: 'it returns false'. Refute it at one input. -/
def fnExactStepsForWrong : ChangeSpec := { name := "fnExactStepsFor", fn := fun _ => fun
  | [d1, d2] => { results := [.lit (.bool false)], args := [d1, d2] }
  | _ => none }
def FnExactStepsForWrongFalsely : Prop := fnExactStepsForRow.holds Try.pinned (OpenSpec.ofChange fnExactStepsForWrong)

/-- 'laws.FnExactGasLoss': WHATEVER THE INPUT: true; the input reads as it did. -/
def fnExactGasLossSpec : ChangeSpec := { name := "fnExactGasLoss", fn := fun _ => fun
  | [d1, d2] => { results := [.lit (.bool true)], args := [d1, d2] }
  | _ => none }
def fnExactGasLossRow : OpenClaim := { program := "yticgoicjbjlbbaa", sum := "17acd3795ac3770f4c39090953e99d748474779c250bf2932509ecacdbebd5db", func := "loop.example/g00925/laws.FnExactGasLoss", spec := "fnExactGasLoss", apart := false }
def FnExactGasLossSaid : Prop := fnExactGasLossRow.holds Try.pinned (OpenSpec.ofChange fnExactGasLossSpec)

/-- ITS FALSE NEIGHBOUR: 'it returns false'. Refute it at one input. -/
def fnExactGasLossWrong : ChangeSpec := { name := "fnExactGasLoss", fn := fun _ => fun
  | [d1, d2] => { results := [.lit (.bool false)], args := [d1, d2] }
  | _ => none }
def FnExactGasLossWrongFalsely : Prop := fnExactGasLossRow.holds Try.pinned (OpenSpec.ofChange fnExactGasLossWrong)

/-- 'laws.FnExactValidMask': WHATEVER THE INPUT: true; the input reads as it did. -/
def fnExactValidMaskSpec : ChangeSpec := { name := "fnExactValidMask", fn := fun _ => fun
  | [d] => { results := [.lit (.bool true)], args := [d] }
  | _ => none }
def fnExactValidMaskRow : OpenClaim := { program := "yticgoicjbjlbbaa", sum := "17acd3795ac3770f4c39090953e99d748474779c250bf2932509ecacdbebd5db", func := "loop.example/g00925/laws.FnExactValidMask", spec := "fnExactValidMask", apart := false }
def FnExactValidMaskSaid : Prop := fnExactValidMaskRow.holds Try.pinned (OpenSpec.ofChange fnExactValidMaskSpec)

/-- ITS FALSE NEIGHBOUR: 'it returns false'. Refute it at one input. -/
def fnExactValidMaskWrong : ChangeSpec := { name := "fnExactValidMask", fn := fun _ => fun
  | [d] => { results := [.lit (.bool false)], args := [d] }
  | _ => none }
def FnExactValidMaskWrongFalsely : Prop := fnExactValidMaskRow.holds Try.pinned (OpenSpec.ofChange fnExactValidMaskWrong)

/-- 'laws.FnExactSameRadio': WHATEVER THE INPUT: true; the input reads as it did. -/
def fnExactSameRadioSpec : ChangeSpec := { name := "fnExactSameRadio", fn := fun _ => fun
  | [d1, d2] => { results := [.lit (.bool true)], args := [d1, d2] }
  | _ => none }
def fnExactSameRadioRow : OpenClaim := { program := "yticgoicjbjlbbaa", sum := "17acd3795ac3770f4c39090953e99d748474779c250bf2932509ecacdbebd5db", func := "loop.example/g00925/laws.FnExactSameRadio", spec := "fnExactSameRadio", apart := false }
def FnExactSameRadioSaid : Prop := fnExactSameRadioRow.holds Try.pinned (OpenSpec.ofChange fnExactSameRadioSpec)

/-- ITS FALSE NEIGHBOUR: 'it returns false'. Refute it at one input. -/
def fnExactSameRadioWrong : ChangeSpec := { name := "fnExactSameRadio", fn := fun _ => fun
  | [d1, d2] => { results := [.lit (.bool false)], args := [d1, d2] }
  | _ => none }
def FnExactSameRadioWrongFalsely : Prop := fnExactSameRadioRow.holds Try.pinned (OpenSpec.ofChange fnExactSameRadioWrong)

/-- 'laws.FnExactValidRadio': WHATEVER THE INPUT: true; the input reads as it did. -/
def fnExactValidRadioSpec : ChangeSpec := { name := "fnExactValidRadio", fn := fun _ => fun
  | [d] => { results := [.lit (.bool true)], args := [d] }
  | _ => none }
def fnExactValidRadioRow : OpenClaim := { program := "yticgoicjbjlbbaa", sum := "17acd3795ac3770f4c39090953e99d748474779c250bf2932509ecacdbebd5db", func := "loop.example/g00925/laws.FnExactValidRadio", spec := "fnExactValidRadio", apart := false }
def FnExactValidRadioSaid : Prop := fnExactValidRadioRow.holds Try.pinned (OpenSpec.ofChange fnExactValidRadioSpec)

/-- ITS FALSE NEIGHBOUR: 'it returns false'. Refute it at one input. -/
def fnExactValidRadioWrong : ChangeSpec := { name := "fnExactValidRadio", fn := fun _ => fun
  | [d] => { results := [.lit (.bool false)], args := [d] }
  | _ => none }
def FnExactValidRadioWrongFalsely : Prop := fnExactValidRadioRow.holds Try.pinned (OpenSpec.ofChange fnExactValidRadioWrong)

/-- 'laws.FnExactHorizontalLoss': WHATEVER THE INPUT: true; the input reads as it did. -/
def fnExactHorizontalLossSpec : ChangeSpec := { name := "fnExactHorizontalLoss", fn := fun _ => fun
  | [d1, d2] => { results := [.lit (.bool true)], args := [d1, d2] }
  | _ => none }
def fnExactHorizontalLossRow : OpenClaim := { program := "yticgoicjbjlbbaa", sum := "17acd3795ac3770f4c39090953e99d748474779c250bf2932509ecacdbebd5db", func := "loop.example/g00925/laws.FnExactHorizontalLoss", spec := "fnExactHorizontalLoss", unfollowed := true, recurses := true, apart := false }
def FnExactHorizontalLossSaid : Prop := fnExactHorizontalLossRow.holds Try.pinned (OpenSpec.ofChange fnExactHorizontalLossSpec)

/-- ITS FALSE NEIGHBOUR: 'it returns false'. Refute it at one input. -/
def fnExactHorizontalLossWrong : ChangeSpec := { name := "fnExactHorizontalLoss", fn := fun _ => fun
  | [d1, d2] => { results := [.lit (.bool false)], args := [d1, d2] }
  | _ => none }
def FnExactHorizontalLossWrongFalsely : Prop := fnExactHorizontalLossRow.holds Try.pinned (OpenSpec.ofChange fnExactHorizontalLossWrong)

/-- 'laws.FnExactVerticalLoss': WHATEVER THE INPUT: true; the input reads as it did. -/
def fnExactVerticalLossSpec : ChangeSpec := { name := "fnExactVerticalLoss", fn := fun _ => fun
  | [d1, d2] => { results := [.lit (.bool true)], args := [d1, d2] }
  | _ => none }
def fnExactVerticalLossRow : OpenClaim := { program := "yticgoicjbjlbbaa", sum := "17acd3795ac3770f4c39090953e99d748474779c250bf2932509ecacdbebd5db", func := "loop.example/g00925/laws.FnExactVerticalLoss", spec := "fnExactVerticalLoss", unfollowed := true, recurses := true, apart := false }
def FnExactVerticalLossSaid : Prop := fnExactVerticalLossRow.holds Try.pinned (OpenSpec.ofChange fnExactVerticalLossSpec)

/-- ITS FALSE NEIGHBOUR: 'it returns false'. Refute it at one input. -/
def fnExactVerticalLossWrong : ChangeSpec := { name := "fnExactVerticalLoss", fn := fun _ => fun
  | [d1, d2] => { results := [.lit (.bool false)], args := [d1, d2] }
  | _ => none }
def FnExactVerticalLossWrongFalsely : Prop := fnExactVerticalLossRow.holds Try.pinned (OpenSpec.ofChange fnExactVerticalLossWrong)

/-- 'laws.FnExactArrivingLevel': WHATEVER THE INPUT: true; the input reads as it did. -/
def fnExactArrivingLevelSpec : ChangeSpec := { name := "fnExactArrivingLevel", fn := fun _ => fun
  | [d1, d2, d3, d4] => { results := [.lit (.bool true)], args := [d1, d2, d3, d4] }
  | _ => none }
def fnExactArrivingLevelRow : OpenClaim := { program := "yticgoicjbjlbbaa", sum := "17acd3795ac3770f4c39090953e99d748474779c250bf2932509ecacdbebd5db", func := "loop.example/g00925/laws.FnExactArrivingLevel", spec := "fnExactArrivingLevel", apart := false }
def FnExactArrivingLevelSaid : Prop := fnExactArrivingLevelRow.holds Try.pinned (OpenSpec.ofChange fnExactArrivingLevelSpec)

/-- ITS FALSE NEIGHBOUR: 'it returns false'. Refute it at one input. -/
def fnExactArrivingLevelWrong : ChangeSpec := { name := "fnExactArrivingLevel", fn := fun _ => fun
  | [d1, d2, d3, d4] => { results := [.lit (.bool false)], args := [d1, d2, d3, d4] }
  | _ => none }
def FnExactArrivingLevelWrongFalsely : Prop := fnExactArrivingLevelRow.holds Try.pinned (OpenSpec.ofChange fnExactArrivingLevelWrong)

/-- 'laws.FnExactEirpOf': WHATEVER THE INPUT: true; the input reads as it did. -/
def fnExactEirpOfSpec : ChangeSpec := { name := "fnExactEirpOf", fn := fun _ => fun
  | [d1, d2] => { results := [.lit (.bool true)], args := [d1, d2] }
  | _ => none }
def fnExactEirpOfRow : OpenClaim := { program := "yticgoicjbjlbbaa", sum := "17acd3795ac3770f4c39090953e99d748474779c250bf2932509ecacdbebd5db", func := "loop.example/g00925/laws.FnExactEirpOf", spec := "fnExactEirpOf", apart := false }
def FnExactEirpOfSaid : Prop := fnExactEirpOfRow.holds Try.pinned (OpenSpec.ofChange fnExactEirpOfSpec)

/-- ITS FALSE NEIGHBOUR: 'it returns false'. Refute it at one input. -/
def fnExactEirpOfWrong : ChangeSpec := { name := "fnExactEirpOf", fn := fun _ => fun
  | [d1, d2] => { results := [.lit (.bool false)], args := [d1, d2] }
  | _ => none }
def FnExactEirpOfWrongFalsely : Prop := fnExactEirpOfRow.holds Try.pinned (OpenSpec.ofChange fnExactEirpOfWrong)

/-- 'laws.FnExactBeamAntenna': WHATEVER THE INPUT: true; the input reads as it did. -/
def fnExactBeamAntennaSpec : ChangeSpec := { name := "fnExactBeamAntenna", fn := fun _ => fun
  | [d1, d2, d3, d4] => { results := [.lit (.bool true)], args := [d1, d2, d3, d4] }
  | _ => none }
def fnExactBeamAntennaRow : OpenClaim := { program := "yticgoicjbjlbbaa", sum := "17acd3795ac3770f4c39090953e99d748474779c250bf2932509ecacdbebd5db", func := "loop.example/g00925/laws.FnExactBeamAntenna", spec := "fnExactBeamAntenna", apart := false }
def FnExactBeamAntennaSaid : Prop := fnExactBeamAntennaRow.holds Try.pinned (OpenSpec.ofChange fnExactBeamAntennaSpec)

/-- ITS FALSE NEIGHBOUR: 'it returns false'. Refute it at one input. -/
def fnExactBeamAntennaWrong : ChangeSpec := { name := "fnExactBeamAntenna", fn := fun _ => fun
  | [d1, d2, d3, d4] => { results := [.lit (.bool false)], args := [d1, d2, d3, d4] }
  | _ => none }
def FnExactBeamAntennaWrongFalsely : Prop := fnExactBeamAntennaRow.holds Try.pinned (OpenSpec.ofChange fnExactBeamAntennaWrong)

/-- 'laws.FnExactBeamWidth': WHATEVER THE INPUT: true; the input reads as it did. -/
def fnExactBeamWidthSpec : ChangeSpec := { name := "fnExactBeamWidth", fn := fun _ => fun
  | [d] => { results := [.lit (.bool true)], args := [d] }
  | _ => none }
def fnExactBeamWidthRow : OpenClaim := { program := "yticgoicjbjlbbaa", sum := "17acd3795ac3770f4c39090953e99d748474779c250bf2932509ecacdbebd5db", func := "loop.example/g00925/laws.FnExactBeamWidth", spec := "fnExactBeamWidth", unfollowed := true, recurses := true, apart := false }
def FnExactBeamWidthSaid : Prop := fnExactBeamWidthRow.holds Try.pinned (OpenSpec.ofChange fnExactBeamWidthSpec)

/-- ITS FALSE NEIGHBOUR: 'it returns false'. Refute it at one input. -/
def fnExactBeamWidthWrong : ChangeSpec := { name := "fnExactBeamWidth", fn := fun _ => fun
  | [d] => { results := [.lit (.bool false)], args := [d] }
  | _ => none }
def FnExactBeamWidthWrongFalsely : Prop := fnExactBeamWidthRow.holds Try.pinned (OpenSpec.ofChange fnExactBeamWidthWrong)

/- THE SECOND FORM. 'bulk': how many values and letters a reading holds, each counted each time it is reached (what is shared counts as often as it is met; a slice's spare places count too). A statement '..UptoSaid' is the law's where the arguments, and the package variables that the reading takes, are together of bulk at most 1048576: NARROWER than '..Said'. Prove '..Said' where nothing that the law and all that it calls make is longer than what came in: it says more and counts as full. Else prove '..UptoSaid'. A law counts once. -/
mutual
def uptoBulk {H : Type} : DataW H → Nat
  | .lit (.string bytes) => bytes.length + 1
  | .lit _ => 1
  | .nil => 1
  | .ptr d => uptoBulk d + 1
  | .slice elems spare => uptoBulkAll elems + uptoBulkAll spare + 1
  | .agg parts => uptoBulkAll parts + 1
  | .iface _ d => uptoBulk d + 1
  | .map entries => uptoBulkEntries entries + 1
  | .held _ => 1
def uptoBulkAll {H : Type} : List (DataW H) → Nat
  | [] => 0
  | d :: r => uptoBulk d + uptoBulkAll r
def uptoBulkEntries {H : Type} : List (Lit × DataW H) → Nat
  | [] => 0
  | x :: r => uptoBulkEntry x + uptoBulkEntries r
def uptoBulkEntry {H : Type} : Lit × DataW H → Nat
  | (.string bytes, d) => bytes.length + uptoBulk d + 1
  | (_, d) => uptoBulk d + 1
 end
def uptoSmall : (H : Type) → List (DataW H) → Bool := fun _ ds => decide (uptoBulkAll ds ≤ 1048576)
def OpenSpec.upto (s : _root_.Go.ChangeSpec) : _root_.Go.OpenSpec := { _root_.Go.OpenSpec.ofChange s with cond := some uptoSmall }

/-- 'laws.FnExactGasSpecific', WHERE WHAT IT READS IS OF BULK AT MOST 1048576: true; the input reads as it did. -/
def fnExactGasSpecificUptoRow : OpenClaim := { program := "yticgoicjbjlbbaa", sum := "17acd3795ac3770f4c39090953e99d748474779c250bf2932509ecacdbebd5db", func := "loop.example/g00925/laws.FnExactGasSpecific", spec := "fnExactGasSpecific", apart := false, narrowed := true }
def FnExactGasSpecificUptoSaid : Prop := fnExactGasSpecificUptoRow.holds Try.pinned (OpenSpec.upto fnExactGasSpecificSpec)

/-- 'laws.FnExactStepsFor', WHERE WHAT IT READS IS OF BULK AT MOST 1048576: true; the input reads as it did. -/
def fnExactStepsForUptoRow : OpenClaim := { program := "yticgoicjbjlbbaa", sum := "17acd3795ac3770f4c39090953e99d748474779c250bf2932509ecacdbebd5db", func := "loop.example/g00925/laws.FnExactStepsFor", spec := "fnExactStepsFor", unfollowed := true, recurses := true, apart := false, narrowed := true }
def FnExactStepsForUptoSaid : Prop := fnExactStepsForUptoRow.holds Try.pinned (OpenSpec.upto fnExactStepsForSpec)

/-- 'laws.FnExactGasLoss', WHERE WHAT IT READS IS OF BULK AT MOST 1048576: true; the input reads as it did. -/
def fnExactGasLossUptoRow : OpenClaim := { program := "yticgoicjbjlbbaa", sum := "17acd3795ac3770f4c39090953e99d748474779c250bf2932509ecacdbebd5db", func := "loop.example/g00925/laws.FnExactGasLoss", spec := "fnExactGasLoss", apart := false, narrowed := true }
def FnExactGasLossUptoSaid : Prop := fnExactGasLossUptoRow.holds Try.pinned (OpenSpec.upto fnExactGasLossSpec)

/-- 'laws.FnExactValidMask', WHERE WHAT IT READS IS OF BULK AT MOST 1048576: true; the input reads as it did. -/
def fnExactValidMaskUptoRow : OpenClaim := { program := "yticgoicjbjlbbaa", sum := "17acd3795ac3770f4c39090953e99d748474779c250bf2932509ecacdbebd5db", func := "loop.example/g00925/laws.FnExactValidMask", spec := "fnExactValidMask", apart := false, narrowed := true }
def FnExactValidMaskUptoSaid : Prop := fnExactValidMaskUptoRow.holds Try.pinned (OpenSpec.upto fnExactValidMaskSpec)

/-- 'laws.FnExactSameRadio', WHERE WHAT IT READS IS OF BULK AT MOST 1048576: true; the input reads as it did. -/
def fnExactSameRadioUptoRow : OpenClaim := { program := "yticgoicjbjlbbaa", sum := "17acd3795ac3770f4c39090953e99d748474779c250bf2932509ecacdbebd5db", func := "loop.example/g00925/laws.FnExactSameRadio", spec := "fnExactSameRadio", apart := false, narrowed := true }
def FnExactSameRadioUptoSaid : Prop := fnExactSameRadioUptoRow.holds Try.pinned (OpenSpec.upto fnExactSameRadioSpec)

/-- 'laws.FnExactValidRadio', WHERE WHAT IT READS IS OF BULK AT MOST 1048576: true; the input reads as it did. -/
def fnExactValidRadioUptoRow : OpenClaim := { program := "yticgoicjbjlbbaa", sum := "17acd3795ac3770f4c39090953e99d748474779c250bf2932509ecacdbebd5db", func := "loop.example/g00925/laws.FnExactValidRadio", spec := "fnExactValidRadio", apart := false, narrowed := true }
def FnExactValidRadioUptoSaid : Prop := fnExactValidRadioUptoRow.holds Try.pinned (OpenSpec.upto fnExactValidRadioSpec)

/-- 'laws.FnExactHorizontalLoss', WHERE WHAT IT READS IS OF BULK AT MOST 1048576: true; the input reads as it did. -/
def fnExactHorizontalLossUptoRow : OpenClaim := { program := "yticgoicjbjlbbaa", sum := "17acd3795ac3770f4c39090953e99d748474779c250bf2932509ecacdbebd5db", func := "loop.example/g00925/laws.FnExactHorizontalLoss", spec := "fnExactHorizontalLoss", unfollowed := true, recurses := true, apart := false, narrowed := true }
def FnExactHorizontalLossUptoSaid : Prop := fnExactHorizontalLossUptoRow.holds Try.pinned (OpenSpec.upto fnExactHorizontalLossSpec)

/-- 'laws.FnExactVerticalLoss', WHERE WHAT IT READS IS OF BULK AT MOST 1048576: true; the input reads as it did. -/
def fnExactVerticalLossUptoRow : OpenClaim := { program := "yticgoicjbjlbbaa", sum := "17acd3795ac3770f4c39090953e99d748474779c250bf2932509ecacdbebd5db", func := "loop.example/g00925/laws.FnExactVerticalLoss", spec := "fnExactVerticalLoss", unfollowed := true, recurses := true, apart := false, narrowed := true }
def FnExactVerticalLossUptoSaid : Prop := fnExactVerticalLossUptoRow.holds Try.pinned (OpenSpec.upto fnExactVerticalLossSpec)

/-- 'laws.FnExactArrivingLevel', WHERE WHAT IT READS IS OF BULK AT MOST 1048576: true; the input reads as it did. -/
def fnExactArrivingLevelUptoRow : OpenClaim := { program := "yticgoicjbjlbbaa", sum := "17acd3795ac3770f4c39090953e99d748474779c250bf2932509ecacdbebd5db", func := "loop.example/g00925/laws.FnExactArrivingLevel", spec := "fnExactArrivingLevel", apart := false, narrowed := true }
def FnExactArrivingLevelUptoSaid : Prop := fnExactArrivingLevelUptoRow.holds Try.pinned (OpenSpec.upto fnExactArrivingLevelSpec)

/-- 'laws.FnExactEirpOf', WHERE WHAT IT READS IS OF BULK AT MOST 1048576: true; the input reads as it did. -/
def fnExactEirpOfUptoRow : OpenClaim := { program := "yticgoicjbjlbbaa", sum := "17acd3795ac3770f4c39090953e99d748474779c250bf2932509ecacdbebd5db", func := "loop.example/g00925/laws.FnExactEirpOf", spec := "fnExactEirpOf", apart := false, narrowed := true }
def FnExactEirpOfUptoSaid : Prop := fnExactEirpOfUptoRow.holds Try.pinned (OpenSpec.upto fnExactEirpOfSpec)

/-- 'laws.FnExactBeamAntenna', WHERE WHAT IT READS IS OF BULK AT MOST 1048576: true; the input reads as it did. -/
def fnExactBeamAntennaUptoRow : OpenClaim := { program := "yticgoicjbjlbbaa", sum := "17acd3795ac3770f4c39090953e99d748474779c250bf2932509ecacdbebd5db", func := "loop.example/g00925/laws.FnExactBeamAntenna", spec := "fnExactBeamAntenna", apart := false, narrowed := true }
def FnExactBeamAntennaUptoSaid : Prop := fnExactBeamAntennaUptoRow.holds Try.pinned (OpenSpec.upto fnExactBeamAntennaSpec)

/-- 'laws.FnExactBeamWidth', WHERE WHAT IT READS IS OF BULK AT MOST 1048576: true; the input reads as it did. -/
def fnExactBeamWidthUptoRow : OpenClaim := { program := "yticgoicjbjlbbaa", sum := "17acd3795ac3770f4c39090953e99d748474779c250bf2932509ecacdbebd5db", func := "loop.example/g00925/laws.FnExactBeamWidth", spec := "fnExactBeamWidth", unfollowed := true, recurses := true, apart := false, narrowed := true }
def FnExactBeamWidthUptoSaid : Prop := fnExactBeamWidthUptoRow.holds Try.pinned (OpenSpec.upto fnExactBeamWidthSpec)

end Rows
end Go.Proofs.Yticgoicjbjlbbaa
