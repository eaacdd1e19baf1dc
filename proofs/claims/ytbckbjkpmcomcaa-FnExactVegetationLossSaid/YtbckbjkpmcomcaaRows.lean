/-
  No cell of these rows narrows 'for every input' (looked for: loops, veiled, ifaces, maps, wideKeys, modest, calm, conditions, laid).
  DERIVED. THE GIVEN ROWS OF THIS SEAT. 8 by the template 'for every input the law returns true; each argument reads behind the call as it read before'; 0 by the template 'total and deterministic' (their statements: YtbckbjkpmcomcaaTotals.lean).
  GIVEN WITH THE SEED: the statements are not yours to turn. If you find one false, say at which input.
  Laid BY PROGRAM, IN A SANDBOX (cutbox-rows.mjs): the forced cells as the released guide's own fill.sh prints them over the translation d2608753c5893815… (all of the seat's roots in one cut). By AI agents, Wed Nov 11 2026. No macro, syntax, notation, axiom, sorry.
-/
import Derived.Test.YtbckbjkpmcomcaaChecked
import GoSem.Claim
import GoSem.ClaimJoined
import GoSem.ClaimMapViews
import Derived.JoinedTies
import Derived.KernelRfl
namespace Go.Proofs.Ytbckbjkpmcomcaa
/- THE CELL 'sum', in the pinned program and in every row, IS THE sha256 OF THE DUMP (.gsa) THAT YtbckbjkpmcomcaaProg.lean LOADS. Nothing in Lean hashes anything: it is a label: what it is worth is what the hold of that sum in a sandbox is worth. -/
noncomputable def Try.pinned : Pinned := { name := "ytbckbjkpmcomcaa", sum := "d2608753c58938152ec60786367bab385cf6fd0db0ec2a2d875d6319c654d9b2", checked := Try.checked }
namespace Rows
def none {H : Type} : Left H := { results := [], args := [] }

/-- 'laws.FnExactFarDistance': WHATEVER THE INPUT: true; the input reads as it did. -/
def fnExactFarDistanceSpec : ChangeSpec := { name := "fnExactFarDistance", fn := fun _ => fun
  | [d1, d2] => { results := [.lit (.bool true)], args := [d1, d2] }
  | _ => none }
def fnExactFarDistanceRow : OpenClaim := { program := "ytbckbjkpmcomcaa", sum := "d2608753c58938152ec60786367bab385cf6fd0db0ec2a2d875d6319c654d9b2", func := "loop.example/g00925/laws.FnExactFarDistance", spec := "fnExactFarDistance", apart := false }
def FnExactFarDistanceSaid : Prop := fnExactFarDistanceRow.holds Try.pinned (OpenSpec.ofChange fnExactFarDistanceSpec)

/-- ITS FALSE NEIGHBOUR: 'it returns false'. Refute it at one input. -/
def fnExactFarDistanceWrong : ChangeSpec := { name := "fnExactFarDistance", fn := fun _ => fun
  | [d1, d2] => { results := [.lit (.bool false)], args := [d1, d2] }
  | _ => none }
def FnExactFarDistanceWrongFalsely : Prop := fnExactFarDistanceRow.holds Try.pinned (OpenSpec.ofChange fnExactFarDistanceWrong)

/-- 'laws.FnExactWavelengthOf': WHATEVER THE INPUT: true; the input reads as it did. -/
def fnExactWavelengthOfSpec : ChangeSpec := { name := "fnExactWavelengthOf", fn := fun _ => fun
  | [d] => { results := [.lit (.bool true)], args := [d] }
  | _ => none }
def fnExactWavelengthOfRow : OpenClaim := { program := "ytbckbjkpmcomcaa", sum := "d2608753c58938152ec60786367bab385cf6fd0db0ec2a2d875d6319c654d9b2", func := "loop.example/g00925/laws.FnExactWavelengthOf", spec := "fnExactWavelengthOf", apart := false }
def FnExactWavelengthOfSaid : Prop := fnExactWavelengthOfRow.holds Try.pinned (OpenSpec.ofChange fnExactWavelengthOfSpec)

/-- ITS FALSE NEIGHBOUR: 'it returns false'. Refute it at one input. -/
def fnExactWavelengthOfWrong : ChangeSpec := { name := "fnExactWavelengthOf", fn := fun _ => fun
  | [d] => { results := [.lit (.bool false)], args := [d] }
  | _ => none }
def FnExactWavelengthOfWrongFalsely : Prop := fnExactWavelengthOfRow.holds Try.pinned (OpenSpec.ofChange fnExactWavelengthOfWrong)

/-- 'laws.FnExactNinesOf': WHATEVER THE INPUT: true; the input reads as it did. -/
def fnExactNinesOfSpec : ChangeSpec := { name := "fnExactNinesOf", fn := fun _ => fun
  | [d] => { results := [.lit (.bool true)], args := [d] }
  | _ => none }
def fnExactNinesOfRow : OpenClaim := { program := "ytbckbjkpmcomcaa", sum := "d2608753c58938152ec60786367bab385cf6fd0db0ec2a2d875d6319c654d9b2", func := "loop.example/g00925/laws.FnExactNinesOf", spec := "fnExactNinesOf", apart := false }
def FnExactNinesOfSaid : Prop := fnExactNinesOfRow.holds Try.pinned (OpenSpec.ofChange fnExactNinesOfSpec)

/-- ITS FALSE NEIGHBOUR: 'it returns false'. Refute it at one input. -/
def fnExactNinesOfWrong : ChangeSpec := { name := "fnExactNinesOf", fn := fun _ => fun
  | [d] => { results := [.lit (.bool false)], args := [d] }
  | _ => none }
def FnExactNinesOfWrongFalsely : Prop := fnExactNinesOfRow.holds Try.pinned (OpenSpec.ofChange fnExactNinesOfWrong)

/-- 'laws.FnExactValidEnd': WHATEVER THE INPUT: true; the input reads as it did. -/
def fnExactValidEndSpec : ChangeSpec := { name := "fnExactValidEnd", fn := fun _ => fun
  | [d] => { results := [.lit (.bool true)], args := [d] }
  | _ => none }
def fnExactValidEndRow : OpenClaim := { program := "ytbckbjkpmcomcaa", sum := "d2608753c58938152ec60786367bab385cf6fd0db0ec2a2d875d6319c654d9b2", func := "loop.example/g00925/laws.FnExactValidEnd", spec := "fnExactValidEnd", apart := false }
def FnExactValidEndSaid : Prop := fnExactValidEndRow.holds Try.pinned (OpenSpec.ofChange fnExactValidEndSpec)

/-- ITS FALSE NEIGHBOUR: 'it returns false'. Refute it at one input. -/
def fnExactValidEndWrong : ChangeSpec := { name := "fnExactValidEnd", fn := fun _ => fun
  | [d] => { results := [.lit (.bool false)], args := [d] }
  | _ => none }
def FnExactValidEndWrongFalsely : Prop := fnExactValidEndRow.holds Try.pinned (OpenSpec.ofChange fnExactValidEndWrong)

/-- 'laws.FnExactDownTime': WHATEVER THE INPUT: true; the input reads as it did. -/
def fnExactDownTimeSpec : ChangeSpec := { name := "fnExactDownTime", fn := fun _ => fun
  | [d] => { results := [.lit (.bool true)], args := [d] }
  | _ => none }
def fnExactDownTimeRow : OpenClaim := { program := "ytbckbjkpmcomcaa", sum := "d2608753c58938152ec60786367bab385cf6fd0db0ec2a2d875d6319c654d9b2", func := "loop.example/g00925/laws.FnExactDownTime", spec := "fnExactDownTime", apart := false }
def FnExactDownTimeSaid : Prop := fnExactDownTimeRow.holds Try.pinned (OpenSpec.ofChange fnExactDownTimeSpec)

/-- ITS FALSE NEIGHBOUR: 'it returns false'. Refute it at one input. -/
def fnExactDownTimeWrong : ChangeSpec := { name := "fnExactDownTime", fn := fun _ => fun
  | [d] => { results := [.lit (.bool false)], args := [d] }
  | _ => none }
def FnExactDownTimeWrongFalsely : Prop := fnExactDownTimeRow.holds Try.pinned (OpenSpec.ofChange fnExactDownTimeWrong)

/-- 'laws.FnExactChannelMask': WHATEVER THE INPUT: true; the input reads as it did. -/
def fnExactChannelMaskSpec : ChangeSpec := { name := "fnExactChannelMask", fn := fun _ => fun
  | [d1, d2] => { results := [.lit (.bool true)], args := [d1, d2] }
  | _ => none }
def fnExactChannelMaskRow : OpenClaim := { program := "ytbckbjkpmcomcaa", sum := "d2608753c58938152ec60786367bab385cf6fd0db0ec2a2d875d6319c654d9b2", func := "loop.example/g00925/laws.FnExactChannelMask", spec := "fnExactChannelMask", apart := false }
def FnExactChannelMaskSaid : Prop := fnExactChannelMaskRow.holds Try.pinned (OpenSpec.ofChange fnExactChannelMaskSpec)

/-- ITS FALSE NEIGHBOUR: 'it returns false'. Refute it at one input. -/
def fnExactChannelMaskWrong : ChangeSpec := { name := "fnExactChannelMask", fn := fun _ => fun
  | [d1, d2] => { results := [.lit (.bool false)], args := [d1, d2] }
  | _ => none }
def FnExactChannelMaskWrongFalsely : Prop := fnExactChannelMaskRow.holds Try.pinned (OpenSpec.ofChange fnExactChannelMaskWrong)

/-- 'laws.FnExactSameMask': WHATEVER THE INPUT: true; the input reads as it did. -/
def fnExactSameMaskSpec : ChangeSpec := { name := "fnExactSameMask", fn := fun _ => fun
  | [d1, d2] => { results := [.lit (.bool true)], args := [d1, d2] }
  | _ => none }
def fnExactSameMaskRow : OpenClaim := { program := "ytbckbjkpmcomcaa", sum := "d2608753c58938152ec60786367bab385cf6fd0db0ec2a2d875d6319c654d9b2", func := "loop.example/g00925/laws.FnExactSameMask", spec := "fnExactSameMask", apart := false }
def FnExactSameMaskSaid : Prop := fnExactSameMaskRow.holds Try.pinned (OpenSpec.ofChange fnExactSameMaskSpec)

/-- ITS FALSE NEIGHBOUR: 'it returns false'. Refute it at one input. -/
def fnExactSameMaskWrong : ChangeSpec := { name := "fnExactSameMask", fn := fun _ => fun
  | [d1, d2] => { results := [.lit (.bool false)], args := [d1, d2] }
  | _ => none }
def FnExactSameMaskWrongFalsely : Prop := fnExactSameMaskRow.holds Try.pinned (OpenSpec.ofChange fnExactSameMaskWrong)

/-- 'laws.FnExactVegetationLoss': WHATEVER THE INPUT: true; the input reads as it did. -/
def fnExactVegetationLossSpec : ChangeSpec := { name := "fnExactVegetationLoss", fn := fun _ => fun
  | [d1, d2] => { results := [.lit (.bool true)], args := [d1, d2] }
  | _ => none }
def fnExactVegetationLossRow : OpenClaim := { program := "ytbckbjkpmcomcaa", sum := "d2608753c58938152ec60786367bab385cf6fd0db0ec2a2d875d6319c654d9b2", func := "loop.example/g00925/laws.FnExactVegetationLoss", spec := "fnExactVegetationLoss", apart := false }
def FnExactVegetationLossSaid : Prop := fnExactVegetationLossRow.holds Try.pinned (OpenSpec.ofChange fnExactVegetationLossSpec)

/-- ITS FALSE NEIGHBOUR: 'it returns false'. Refute it at one input. -/
def fnExactVegetationLossWrong : ChangeSpec := { name := "fnExactVegetationLoss", fn := fun _ => fun
  | [d1, d2] => { results := [.lit (.bool false)], args := [d1, d2] }
  | _ => none }
def FnExactVegetationLossWrongFalsely : Prop := fnExactVegetationLossRow.holds Try.pinned (OpenSpec.ofChange fnExactVegetationLossWrong)

/- THE SECOND FORM. 'bulk': how many values and letters a reading holds, each counted each time it is reached (what is shared counts as often as it is met; a slice's spare places count too). A statement '..UptoSaid' is the law's where the arguments, and the package variables that the reading takes, are together of bulk at most 1048576: NARROWER than '..Said'. Prove '..Said' where nothing that the law and all that it calls make is longer than what came in: it says more and counts as full. Else prove '..UptoSaid'. A law counts once. -/
mutual
def uptoBulk {H : Type} : DataW H → Nat
  | .lit (.string bytes) => bytes.length + 1
  | .lit _ => 1
  | .nil => 1
  | .ptr d => uptoBulk d + 1
  | .slice elems spare => uptoBulkAll elems + uptoBulkAll spare + 1
  | .agg parts => uptoBulkAll parts + 1
  | .iface _ d => uptoBulk d + 1
  | .map entries => uptoBulkEntries entries + 1
  | .held _ => 1
def uptoBulkAll {H : Type} : List (DataW H) → Nat
  | [] => 0
  | d :: r => uptoBulk d + uptoBulkAll r
def uptoBulkEntries {H : Type} : List (Lit × DataW H) → Nat
  | [] => 0
  | x :: r => uptoBulkEntry x + uptoBulkEntries r
def uptoBulkEntry {H : Type} : Lit × DataW H → Nat
  | (.string bytes, d) => bytes.length + uptoBulk d + 1
  | (_, d) => uptoBulk d + 1
 end
def uptoSmall : (H : Type) → List (DataW H) → Bool := fun _ ds => decide (uptoBulkAll ds ≤ 1048576)
def OpenSpec.upto (s : _root_.Go.ChangeSpec) : _root_.Go.OpenSpec := { _root_.Go.OpenSpec.ofChange s with cond := some uptoSmall }

/-- 'laws.FnExactFarDistance', WHERE WHAT IT READS IS OF BULK AT MOST 1048576: true; the input reads as it did. -/
def fnExactFarDistanceUptoRow : OpenClaim := { program := "ytbckbjkpmcomcaa", sum := "d2608753c58938152ec60786367bab385cf6fd0db0ec2a2d875d6319c654d9b2", func := "loop.example/g00925/laws.FnExactFarDistance", spec := "fnExactFarDistance", apart := false, narrowed := true }
def FnExactFarDistanceUptoSaid : Prop := fnExactFarDistanceUptoRow.holds Try.pinned (OpenSpec.upto fnExactFarDistanceSpec)

/-- 'laws.FnExactWavelengthOf', WHERE WHAT IT READS IS OF BULK AT MOST 1048576: true; the input reads as it did. -/
def fnExactWavelengthOfUptoRow : OpenClaim := { program := "ytbckbjkpmcomcaa", sum := "d2608753c58938152ec60786367bab385cf6fd0db0ec2a2d875d6319c654d9b2", func := "loop.example/g00925/laws.FnExactWavelengthOf", spec := "fnExactWavelengthOf", apart := false, narrowed := true }
def FnExactWavelengthOfUptoSaid : Prop := fnExactWavelengthOfUptoRow.holds Try.pinned (OpenSpec.upto fnExactWavelengthOfSpec)

/-- 'laws.FnExactNinesOf', WHERE WHAT IT READS IS OF BULK AT MOST 1048576: true; the input reads as it did. -/
def fnExactNinesOfUptoRow : OpenClaim := { program := "ytbckbjkpmcomcaa", sum := "d2608753c58938152ec60786367bab385cf6fd0db0ec2a2d875d6319c654d9b2", func := "loop.example/g00925/laws.FnExactNinesOf", spec := "fnExactNinesOf", apart := false, narrowed := true }
def FnExactNinesOfUptoSaid : Prop := fnExactNinesOfUptoRow.holds Try.pinned (OpenSpec.upto fnExactNinesOfSpec)

/-- 'laws.FnExactValidEnd', WHERE WHAT IT READS IS OF BULK AT MOST 1048576: true; the input reads as it did. -/
def fnExactValidEndUptoRow : OpenClaim := { program := "ytbckbjkpmcomcaa", sum := "d2608753c58938152ec60786367bab385cf6fd0db0ec2a2d875d6319c654d9b2", func := "loop.example/g00925/laws.FnExactValidEnd", spec := "fnExactValidEnd", apart := false, narrowed := true }
def FnExactValidEndUptoSaid : Prop := fnExactValidEndUptoRow.holds Try.pinned (OpenSpec.upto fnExactValidEndSpec)

/-- 'laws.FnExactDownTime', WHERE WHAT IT READS IS OF BULK AT MOST 1048576: true; the input reads as it did. -/
def fnExactDownTimeUptoRow : OpenClaim := { program := "ytbckbjkpmcomcaa", sum := "d2608753c58938152ec60786367bab385cf6fd0db0ec2a2d875d6319c654d9b2", func := "loop.example/g00925/laws.FnExactDownTime", spec := "fnExactDownTime", apart := false, narrowed := true }
def FnExactDownTimeUptoSaid : Prop := fnExactDownTimeUptoRow.holds Try.pinned (OpenSpec.upto fnExactDownTimeSpec)

/-- 'laws.FnExactChannelMask', WHERE WHAT IT READS IS OF BULK AT MOST 1048576: true; the input reads as it did. -/
def fnExactChannelMaskUptoRow : OpenClaim := { program := "ytbckbjkpmcomcaa", sum := "d2608753c58938152ec60786367bab385cf6fd0db0ec2a2d875d6319c654d9b2", func := "loop.example/g00925/laws.FnExactChannelMask", spec := "fnExactChannelMask", apart := false, narrowed := true }
def FnExactChannelMaskUptoSaid : Prop := fnExactChannelMaskUptoRow.holds Try.pinned (OpenSpec.upto fnExactChannelMaskSpec)

/-- 'laws.FnExactSameMask', WHERE WHAT IT READS IS OF BULK AT MOST 1048576: true; the input reads as it did. -/
def fnExactSameMaskUptoRow : OpenClaim := { program := "ytbckbjkpmcomcaa", sum := "d2608753c58938152ec60786367bab385cf6fd0db0ec2a2d875d6319c654d9b2", func := "loop.example/g00925/laws.FnExactSameMask", spec := "fnExactSameMask", apart := false, narrowed := true }
def FnExactSameMaskUptoSaid : Prop := fnExactSameMaskUptoRow.holds Try.pinned (OpenSpec.upto fnExactSameMaskSpec)

/-- 'laws.FnExactVegetationLoss', WHERE WHAT IT READS IS OF BULK AT MOST 1048576: true; the input reads as it did. -/
def fnExactVegetationLossUptoRow : OpenClaim := { program := "ytbckbjkpmcomcaa", sum := "d2608753c58938152ec60786367bab385cf6fd0db0ec2a2d875d6319c654d9b2", func := "loop.example/g00925/laws.FnExactVegetationLoss", spec := "fnExactVegetationLoss", apart := false, narrowed := true }
def FnExactVegetationLossUptoSaid : Prop := fnExactVegetationLossUptoRow.holds Try.pinned (OpenSpec.upto fnExactVegetationLossSpec)

end Rows
end Go.Proofs.Ytbckbjkpmcomcaa
