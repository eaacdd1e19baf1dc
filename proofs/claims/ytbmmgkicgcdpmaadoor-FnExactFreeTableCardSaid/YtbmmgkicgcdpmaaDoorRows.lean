/-
  NARROWER THAN 'FOR EVERY INPUT', by the rows' own cells (each row's printed sentence says how): FnExactFieldOfLevel: laid · FnExactLevelOfField: laid · FnExactFieldStrength: laid · FnExactFreeLoss: laid · FnExactRangeOfField: laid · FnExactEdgeLoss: laid · FnExactRangeOfLoss: laid · FnExactFreeTable: laid · FnExactRainSpecific: laid · FnExactRainLoss: laid · FnExactNoiseFloor: laid · FnExactSnrOf: laid.
  DERIVED. THE GIVEN ROWS OF THIS SEAT. 12 by the template 'for every input the law returns true; each argument reads behind the call as it read before'; 0 by the template 'total and deterministic' (their statements: YtbmmgkicgcdpmaaDoorTotals.lean).
  GIVEN WITH THE SEED: the statements are not yours to turn. If you find one false, say at which input.
  Laid BY PROGRAM, IN A SANDBOX (cutbox-rows.mjs): the forced cells as the released guide's own fill.sh prints them over the translation c67a3d0386d47030… (all of the seat's roots in one cut). By AI agents, Wed Nov 11 2026. No macro, syntax, notation, axiom, sorry.
-/
import Derived.Test.YtbmmgkicgcdpmaaDoorChecked
import GoSem.Claim
import GoSem.ClaimJoined
import GoSem.ClaimMapViews
import Derived.JoinedTies
import Derived.KernelRfl
namespace Go.Proofs.YtbmmgkicgcdpmaaDoor
/- THE CELL 'sum', in the pinned program and in every row, IS THE sha256 OF THE DUMP (.gsa) THAT YtbmmgkicgcdpmaaDoorProg.lean LOADS. Nothing in Lean hashes anything: it is a label: what it is worth is what the hold of that sum in a sandbox is worth. -/
noncomputable def Tryd.pinned : Pinned := { name := "ytbmmgkicgcdpmaadoor", sum := "c67a3d0386d47030ca627d43e7ec2a33e7de3b0c92b68bc0c3a0ba96aaa05b31", checked := Tryd.checked }
namespace Rows
def none {H : Type} : Left H := { results := [], args := [] }

/- WHAT THE LISTED PACKAGE-LEVEL VARIABLES READ AS WHEN THE CALL BEGINS. Each datum BY PROGRAM (the guide's laid-datum.mjs) off the statement by which the dump's own 'gosem.cut.vars' lays the variable. In a bare row this is a premise. The card (YtbmmgkicgcdpmaaDoorCards.lean) ties it to the program's text. -/
def laid_math_bits_deBruijn32tab {H : Type} : DataW H := .agg [.lit (.int .u8 0), .lit (.int .u8 1), .lit (.int .u8 28), .lit (.int .u8 2), .lit (.int .u8 29), .lit (.int .u8 14), .lit (.int .u8 24), .lit (.int .u8 3), .lit (.int .u8 30), .lit (.int .u8 22), .lit (.int .u8 20), .lit (.int .u8 15), .lit (.int .u8 25), .lit (.int .u8 17), .lit (.int .u8 4), .lit (.int .u8 8), .lit (.int .u8 31), .lit (.int .u8 27), .lit (.int .u8 13), .lit (.int .u8 23), .lit (.int .u8 21), .lit (.int .u8 19), .lit (.int .u8 16), .lit (.int .u8 7), .lit (.int .u8 26), .lit (.int .u8 12), .lit (.int .u8 18), .lit (.int .u8 6), .lit (.int .u8 11), .lit (.int .u8 5), .lit (.int .u8 10), .lit (.int .u8 9)]
def laid_math_bits_deBruijn64tab {H : Type} : DataW H := .agg [.lit (.int .u8 0), .lit (.int .u8 1), .lit (.int .u8 56), .lit (.int .u8 2), .lit (.int .u8 57), .lit (.int .u8 49), .lit (.int .u8 28), .lit (.int .u8 3), .lit (.int .u8 61), .lit (.int .u8 58), .lit (.int .u8 42), .lit (.int .u8 50), .lit (.int .u8 38), .lit (.int .u8 29), .lit (.int .u8 17), .lit (.int .u8 4), .lit (.int .u8 62), .lit (.int .u8 47), .lit (.int .u8 59), .lit (.int .u8 36), .lit (.int .u8 45), .lit (.int .u8 43), .lit (.int .u8 51), .lit (.int .u8 22), .lit (.int .u8 53), .lit (.int .u8 39), .lit (.int .u8 33), .lit (.int .u8 30), .lit (.int .u8 24), .lit (.int .u8 18), .lit (.int .u8 12), .lit (.int .u8 5), .lit (.int .u8 63), .lit (.int .u8 55), .lit (.int .u8 48), .lit (.int .u8 27), .lit (.int .u8 60), .lit (.int .u8 41), .lit (.int .u8 37), .lit (.int .u8 16), .lit (.int .u8 46), .lit (.int .u8 35), .lit (.int .u8 44), .lit (.int .u8 21), .lit (.int .u8 52), .lit (.int .u8 32), .lit (.int .u8 23), .lit (.int .u8 11), .lit (.int .u8 54), .lit (.int .u8 26), .lit (.int .u8 40), .lit (.int .u8 15), .lit (.int .u8 34), .lit (.int .u8 20), .lit (.int .u8 31), .lit (.int .u8 10), .lit (.int .u8 25), .lit (.int .u8 14), .lit (.int .u8 19), .lit (.int .u8 9), .lit (.int .u8 13), .lit (.int .u8 8), .lit (.int .u8 7), .lit (.int .u8 6)]
def laid_internal_strconv_uint64pow10 {H : Type} : DataW H := .agg [.lit (.int .u64 1), .lit (.int .u64 10), .lit (.int .u64 100), .lit (.int .u64 1000), .lit (.int .u64 10000), .lit (.int .u64 100000), .lit (.int .u64 1000000), .lit (.int .u64 10000000), .lit (.int .u64 100000000), .lit (.int .u64 1000000000), .lit (.int .u64 10000000000), .lit (.int .u64 100000000000), .lit (.int .u64 1000000000000), .lit (.int .u64 10000000000000), .lit (.int .u64 100000000000000), .lit (.int .u64 1000000000000000), .lit (.int .u64 10000000000000000), .lit (.int .u64 100000000000000000), .lit (.int .u64 1000000000000000000), .lit (.int .u64 10000000000000000000)]

/-- 'laws.FnExactFieldOfLevel': WHATEVER THE INPUT: true; the input reads as it did. -/
def fnExactFieldOfLevelSpec : ChangeSpec := { name := "fnExactFieldOfLevel", fn := fun _ => fun
  | [d1, d2] => { results := [.lit (.bool true)], args := [d1, d2] }
  | _ => none }
def fnExactFieldOfLevelRow : OpenClaim := { program := "ytbmmgkicgcdpmaadoor", sum := "c67a3d0386d47030ca627d43e7ec2a33e7de3b0c92b68bc0c3a0ba96aaa05b31", func := "loop.example/g00925/laws.FnExactFieldOfLevel", spec := "fnExactFieldOfLevel", named := ["internal/strconv.uint64pow10", "math/bits.deBruijn32tab", "math/bits.deBruijn64tab"], apart := false, laid := [("math/bits.deBruijn32tab", laid_math_bits_deBruijn32tab), ("math/bits.deBruijn64tab", laid_math_bits_deBruijn64tab), ("internal/strconv.uint64pow10", laid_internal_strconv_uint64pow10)] }
def FnExactFieldOfLevelSaid : Prop := fnExactFieldOfLevelRow.holds Tryd.pinned (OpenSpec.ofChange fnExactFieldOfLevelSpec)

/-- ITS FALSE NEIGHBOUR: 'it returns false'. Refute it at one input. -/
def fnExactFieldOfLevelWrong : ChangeSpec := { name := "fnExactFieldOfLevel", fn := fun _ => fun
  | [d1, d2] => { results := [.lit (.bool false)], args := [d1, d2] }
  | _ => none }
def FnExactFieldOfLevelWrongFalsely : Prop := fnExactFieldOfLevelRow.holds Tryd.pinned (OpenSpec.ofChange fnExactFieldOfLevelWrong)

/-- 'laws.FnExactLevelOfField': WHATEVER THE INPUT: true; the input reads as it did. -/
def fnExactLevelOfFieldSpec : ChangeSpec := { name := "fnExactLevelOfField", fn := fun _ => fun
  | [d1, d2] => { results := [.lit (.bool true)], args := [d1, d2] }
  | _ => none }
def fnExactLevelOfFieldRow : OpenClaim := { program := "ytbmmgkicgcdpmaadoor", sum := "c67a3d0386d47030ca627d43e7ec2a33e7de3b0c92b68bc0c3a0ba96aaa05b31", func := "loop.example/g00925/laws.FnExactLevelOfField", spec := "fnExactLevelOfField", named := ["internal/strconv.uint64pow10", "math/bits.deBruijn32tab", "math/bits.deBruijn64tab"], apart := false, laid := [("math/bits.deBruijn32tab", laid_math_bits_deBruijn32tab), ("math/bits.deBruijn64tab", laid_math_bits_deBruijn64tab), ("internal/strconv.uint64pow10", laid_internal_strconv_uint64pow10)] }
def FnExactLevelOfFieldSaid : Prop := fnExactLevelOfFieldRow.holds Tryd.pinned (OpenSpec.ofChange fnExactLevelOfFieldSpec)

/-- ITS FALSE NEIGHBOUR: 'it returns false'. Refute it at one input. -/
def fnExactLevelOfFieldWrong : ChangeSpec := { name := "fnExactLevelOfField", fn := fun _ => fun
  | [d1, d2] => { results := [.lit (.bool false)], args := [d1, d2] }
  | _ => none }
def FnExactLevelOfFieldWrongFalsely : Prop := fnExactLevelOfFieldRow.holds Tryd.pinned (OpenSpec.ofChange fnExactLevelOfFieldWrong)

/-- 'laws.FnExactFieldStrength': WHATEVER THE INPUT: true; the input reads as it did. -/
def fnExactFieldStrengthSpec : ChangeSpec := { name := "fnExactFieldStrength", fn := fun _ => fun
  | [d1, d2] => { results := [.lit (.bool true)], args := [d1, d2] }
  | _ => none }
def fnExactFieldStrengthRow : OpenClaim := { program := "ytbmmgkicgcdpmaadoor", sum := "c67a3d0386d47030ca627d43e7ec2a33e7de3b0c92b68bc0c3a0ba96aaa05b31", func := "loop.example/g00925/laws.FnExactFieldStrength", spec := "fnExactFieldStrength", named := ["internal/strconv.uint64pow10", "math/bits.deBruijn32tab", "math/bits.deBruijn64tab"], apart := false, laid := [("math/bits.deBruijn32tab", laid_math_bits_deBruijn32tab), ("math/bits.deBruijn64tab", laid_math_bits_deBruijn64tab), ("internal/strconv.uint64pow10", laid_internal_strconv_uint64pow10)] }
def FnExactFieldStrengthSaid : Prop := fnExactFieldStrengthRow.holds Tryd.pinned (OpenSpec.ofChange fnExactFieldStrengthSpec)

/-- ITS FALSE NEIGHBOUR: 'it returns false'. Refute it at one input. -/
def fnExactFieldStrengthWrong : ChangeSpec := { name := "fnExactFieldStrength", fn := fun _ => fun
  | [d1, d2] => { results := [.lit (.bool false)], args := [d1, d2] }
  | _ => none }
def FnExactFieldStrengthWrongFalsely : Prop := fnExactFieldStrengthRow.holds Tryd.pinned (OpenSpec.ofChange fnExactFieldStrengthWrong)

/-- 'laws.FnExactFreeLoss': WHATEVER THE INPUT: true; the input reads as it did. -/
def fnExactFreeLossSpec : ChangeSpec := { name := "fnExactFreeLoss", fn := fun _ => fun
  | [d1, d2] => { results := [.lit (.bool true)], args := [d1, d2] }
  | _ => none }
def fnExactFreeLossRow : OpenClaim := { program := "ytbmmgkicgcdpmaadoor", sum := "c67a3d0386d47030ca627d43e7ec2a33e7de3b0c92b68bc0c3a0ba96aaa05b31", func := "loop.example/g00925/laws.FnExactFreeLoss", spec := "fnExactFreeLoss", named := ["internal/strconv.uint64pow10", "math/bits.deBruijn32tab", "math/bits.deBruijn64tab"], apart := false, laid := [("math/bits.deBruijn32tab", laid_math_bits_deBruijn32tab), ("math/bits.deBruijn64tab", laid_math_bits_deBruijn64tab), ("internal/strconv.uint64pow10", laid_internal_strconv_uint64pow10)] }
def FnExactFreeLossSaid : Prop := fnExactFreeLossRow.holds Tryd.pinned (OpenSpec.ofChange fnExactFreeLossSpec)

/-- ITS FALSE NEIGHBOUR: 'it returns false'. Refute it at one input. -/
def fnExactFreeLossWrong : ChangeSpec := { name := "fnExactFreeLoss", fn := fun _ => fun
  | [d1, d2] => { results := [.lit (.bool false)], args := [d1, d2] }
  | _ => none }
def FnExactFreeLossWrongFalsely : Prop := fnExactFreeLossRow.holds Tryd.pinned (OpenSpec.ofChange fnExactFreeLossWrong)

/-- 'laws.FnExactRangeOfField': WHATEVER THE INPUT: true; the input reads as it did. -/
def fnExactRangeOfFieldSpec : ChangeSpec := { name := "fnExactRangeOfField", fn := fun _ => fun
  | [d1, d2] => { results := [.lit (.bool true)], args := [d1, d2] }
  | _ => none }
def fnExactRangeOfFieldRow : OpenClaim := { program := "ytbmmgkicgcdpmaadoor", sum := "c67a3d0386d47030ca627d43e7ec2a33e7de3b0c92b68bc0c3a0ba96aaa05b31", func := "loop.example/g00925/laws.FnExactRangeOfField", spec := "fnExactRangeOfField", unfollowed := true, recurses := true, named := ["internal/strconv.uint64pow10", "math/bits.deBruijn32tab", "math/bits.deBruijn64tab"], apart := false, laid := [("math/bits.deBruijn32tab", laid_math_bits_deBruijn32tab), ("math/bits.deBruijn64tab", laid_math_bits_deBruijn64tab), ("internal/strconv.uint64pow10", laid_internal_strconv_uint64pow10)] }
def FnExactRangeOfFieldSaid : Prop := fnExactRangeOfFieldRow.holds Tryd.pinned (OpenSpec.ofChange fnExactRangeOfFieldSpec)

/-- ITS FALSE NEIGHBOUR: 'it returns false'. Refute it at one input. -/
def fnExactRangeOfFieldWrong : ChangeSpec := { name := "fnExactRangeOfField", fn := fun _ => fun
  | [d1, d2] => { results := [.lit (.bool false)], args := [d1, d2] }
  | _ => none }
def FnExactRangeOfFieldWrongFalsely : Prop := fnExactRangeOfFieldRow.holds Tryd.pinned (OpenSpec.ofChange fnExactRangeOfFieldWrong)

/-- 'laws.FnExactEdgeLoss': WHATEVER THE INPUT: true; the input reads as it did. -/
def fnExactEdgeLossSpec : ChangeSpec := { name := "fnExactEdgeLoss", fn := fun _ => fun
  | [d] => { results := [.lit (.bool true)], args := [d] }
  | _ => none }
def fnExactEdgeLossRow : OpenClaim := { program := "ytbmmgkicgcdpmaadoor", sum := "c67a3d0386d47030ca627d43e7ec2a33e7de3b0c92b68bc0c3a0ba96aaa05b31", func := "loop.example/g00925/laws.FnExactEdgeLoss", spec := "fnExactEdgeLoss", unfollowed := true, recurses := true, named := ["internal/strconv.uint64pow10", "math/bits.deBruijn32tab", "math/bits.deBruijn64tab"], apart := false, laid := [("math/bits.deBruijn32tab", laid_math_bits_deBruijn32tab), ("math/bits.deBruijn64tab", laid_math_bits_deBruijn64tab), ("internal/strconv.uint64pow10", laid_internal_strconv_uint64pow10)] }
def FnExactEdgeLossSaid : Prop := fnExactEdgeLossRow.holds Tryd.pinned (OpenSpec.ofChange fnExactEdgeLossSpec)

/-- ITS FALSE NEIGHBOUR: 'it returns false'. Refute it at one input. -/
def fnExactEdgeLossWrong : ChangeSpec := { name := "fnExactEdgeLoss", fn := fun _ => fun
  | [d] => { results := [.lit (.bool false)], args := [d] }
  | _ => none }
def FnExactEdgeLossWrongFalsely : Prop := fnExactEdgeLossRow.holds Tryd.pinned (OpenSpec.ofChange fnExactEdgeLossWrong)

/-- 'laws.FnExactRangeOfLoss': WHATEVER THE INPUT: true; the input reads as it did. -/
def fnExactRangeOfLossSpec : ChangeSpec := { name := "fnExactRangeOfLoss", fn := fun _ => fun
  | [d1, d2] => { results := [.lit (.bool true)], args := [d1, d2] }
  | _ => none }
def fnExactRangeOfLossRow : OpenClaim := { program := "ytbmmgkicgcdpmaadoor", sum := "c67a3d0386d47030ca627d43e7ec2a33e7de3b0c92b68bc0c3a0ba96aaa05b31", func := "loop.example/g00925/laws.FnExactRangeOfLoss", spec := "fnExactRangeOfLoss", unfollowed := true, recurses := true, named := ["internal/strconv.uint64pow10", "math/bits.deBruijn32tab", "math/bits.deBruijn64tab"], apart := false, laid := [("math/bits.deBruijn32tab", laid_math_bits_deBruijn32tab), ("math/bits.deBruijn64tab", laid_math_bits_deBruijn64tab), ("internal/strconv.uint64pow10", laid_internal_strconv_uint64pow10)] }
def FnExactRangeOfLossSaid : Prop := fnExactRangeOfLossRow.holds Tryd.pinned (OpenSpec.ofChange fnExactRangeOfLossSpec)

/-- ITS FALSE NEIGHBOUR: 'it returns false'. Refute it at one input. -/
def fnExactRangeOfLossWrong : ChangeSpec := { name := "fnExactRangeOfLoss", fn := fun _ => fun
  | [d1, d2] => { results := [.lit (.bool false)], args := [d1, d2] }
  | _ => none }
def FnExactRangeOfLossWrongFalsely : Prop := fnExactRangeOfLossRow.holds Tryd.pinned (OpenSpec.ofChange fnExactRangeOfLossWrong)

/-- 'laws.FnExactFreeTable': WHATEVER THE INPUT: true; the input reads as it did. -/
def fnExactFreeTableSpec : ChangeSpec := { name := "fnExactFreeTable", fn := fun _ => fun
  | [d1, d2] => { results := [.lit (.bool true)], args := [d1, d2] }
  | _ => none }
def fnExactFreeTableRow : OpenClaim := { program := "ytbmmgkicgcdpmaadoor", sum := "c67a3d0386d47030ca627d43e7ec2a33e7de3b0c92b68bc0c3a0ba96aaa05b31", func := "loop.example/g00925/laws.FnExactFreeTable", spec := "fnExactFreeTable", unfollowed := true, recurses := true, named := ["internal/strconv.uint64pow10", "math/bits.deBruijn32tab", "math/bits.deBruijn64tab"], apart := false, laid := [("math/bits.deBruijn32tab", laid_math_bits_deBruijn32tab), ("math/bits.deBruijn64tab", laid_math_bits_deBruijn64tab), ("internal/strconv.uint64pow10", laid_internal_strconv_uint64pow10)] }
def FnExactFreeTableSaid : Prop := fnExactFreeTableRow.holds Tryd.pinned (OpenSpec.ofChange fnExactFreeTableSpec)

/-- ITS FALSE NEIGHBOUR: 'it returns false'. Refute it at one input. -/
def fnExactFreeTableWrong : ChangeSpec := { name := "fnExactFreeTable", fn := fun _ => fun
  | [d1, d2] => { results := [.lit (.bool false)], args := [d1, d2] }
  | _ => none }
def FnExactFreeTableWrongFalsely : Prop := fnExactFreeTableRow.holds Tryd.pinned (OpenSpec.ofChange fnExactFreeTableWrong)

/-- 'laws.FnExactRainSpecific': WHATEVER THE INPUT: true; the input reads as it did. -/
def fnExactRainSpecificSpec : ChangeSpec := { name := "fnExactRainSpecific", fn := fun _ => fun
  | [d1, d2] => { results := [.lit (.bool true)], args := [d1, d2] }
  | _ => none }
def fnExactRainSpecificRow : OpenClaim := { program := "ytbmmgkicgcdpmaadoor", sum := "c67a3d0386d47030ca627d43e7ec2a33e7de3b0c92b68bc0c3a0ba96aaa05b31", func := "loop.example/g00925/laws.FnExactRainSpecific", spec := "fnExactRainSpecific", named := ["internal/strconv.uint64pow10", "math/bits.deBruijn32tab", "math/bits.deBruijn64tab"], apart := false, laid := [("math/bits.deBruijn32tab", laid_math_bits_deBruijn32tab), ("math/bits.deBruijn64tab", laid_math_bits_deBruijn64tab), ("internal/strconv.uint64pow10", laid_internal_strconv_uint64pow10)] }
def FnExactRainSpecificSaid : Prop := fnExactRainSpecificRow.holds Tryd.pinned (OpenSpec.ofChange fnExactRainSpecificSpec)

/-- ITS FALSE NEIGHBOUR: 'it returns false'. Refute it at one input. -/
def fnExactRainSpecificWrong : ChangeSpec := { name := "fnExactRainSpecific", fn := fun _ => fun
  | [d1, d2] => { results := [.lit (.bool false)], args := [d1, d2] }
  | _ => none }
def FnExactRainSpecificWrongFalsely : Prop := fnExactRainSpecificRow.holds Tryd.pinned (OpenSpec.ofChange fnExactRainSpecificWrong)

/-- 'laws.FnExactRainLoss': WHATEVER THE INPUT: true; the input reads as it did. -/
def fnExactRainLossSpec : ChangeSpec := { name := "fnExactRainLoss", fn := fun _ => fun
  | [d1, d2, d3] => { results := [.lit (.bool true)], args := [d1, d2, d3] }
  | _ => none }
def fnExactRainLossRow : OpenClaim := { program := "ytbmmgkicgcdpmaadoor", sum := "c67a3d0386d47030ca627d43e7ec2a33e7de3b0c92b68bc0c3a0ba96aaa05b31", func := "loop.example/g00925/laws.FnExactRainLoss", spec := "fnExactRainLoss", named := ["internal/strconv.uint64pow10", "math/bits.deBruijn32tab", "math/bits.deBruijn64tab"], apart := false, laid := [("math/bits.deBruijn32tab", laid_math_bits_deBruijn32tab), ("math/bits.deBruijn64tab", laid_math_bits_deBruijn64tab), ("internal/strconv.uint64pow10", laid_internal_strconv_uint64pow10)] }
def FnExactRainLossSaid : Prop := fnExactRainLossRow.holds Tryd.pinned (OpenSpec.ofChange fnExactRainLossSpec)

/-- ITS FALSE NEIGHBOUR: 'it returns false'. Refute it at one input. -/
def fnExactRainLossWrong : ChangeSpec := { name := "fnExactRainLoss", fn := fun _ => fun
  | [d1, d2, d3] => { results := [.lit (.bool false)], args := [d1, d2, d3] }
  | _ => none }
def FnExactRainLossWrongFalsely : Prop := fnExactRainLossRow.holds Tryd.pinned (OpenSpec.ofChange fnExactRainLossWrong)

/-- 'laws.FnExactNoiseFloor': WHATEVER THE INPUT: true; the input reads as it did. -/
def fnExactNoiseFloorSpec : ChangeSpec := { name := "fnExactNoiseFloor", fn := fun _ => fun
  | [d] => { results := [.lit (.bool true)], args := [d] }
  | _ => none }
def fnExactNoiseFloorRow : OpenClaim := { program := "ytbmmgkicgcdpmaadoor", sum := "c67a3d0386d47030ca627d43e7ec2a33e7de3b0c92b68bc0c3a0ba96aaa05b31", func := "loop.example/g00925/laws.FnExactNoiseFloor", spec := "fnExactNoiseFloor", named := ["internal/strconv.uint64pow10", "math/bits.deBruijn32tab", "math/bits.deBruijn64tab"], apart := false, laid := [("math/bits.deBruijn32tab", laid_math_bits_deBruijn32tab), ("math/bits.deBruijn64tab", laid_math_bits_deBruijn64tab), ("internal/strconv.uint64pow10", laid_internal_strconv_uint64pow10)] }
def FnExactNoiseFloorSaid : Prop := fnExactNoiseFloorRow.holds Tryd.pinned (OpenSpec.ofChange fnExactNoiseFloorSpec)

/-- ITS FALSE NEIGHBOUR: 'it returns false'. Refute it at one input. -/
def fnExactNoiseFloorWrong : ChangeSpec := { name := "fnExactNoiseFloor", fn := fun _ => fun
  | [d] => { results := [.lit (.bool false)], args := [d] }
  | _ => none }
def FnExactNoiseFloorWrongFalsely : Prop := fnExactNoiseFloorRow.holds Tryd.pinned (OpenSpec.ofChange fnExactNoiseFloorWrong)

/-- 'laws.FnExactSnrOf': WHATEVER THE INPUT: true; the input reads as it did. -/
def fnExactSnrOfSpec : ChangeSpec := { name := "fnExactSnrOf", fn := fun _ => fun
  | [d1, d2] => { results := [.lit (.bool true)], args := [d1, d2] }
  | _ => none }
def fnExactSnrOfRow : OpenClaim := { program := "ytbmmgkicgcdpmaadoor", sum := "c67a3d0386d47030ca627d43e7ec2a33e7de3b0c92b68bc0c3a0ba96aaa05b31", func := "loop.example/g00925/laws.FnExactSnrOf", spec := "fnExactSnrOf", named := ["internal/strconv.uint64pow10", "math/bits.deBruijn32tab", "math/bits.deBruijn64tab"], apart := false, laid := [("math/bits.deBruijn32tab", laid_math_bits_deBruijn32tab), ("math/bits.deBruijn64tab", laid_math_bits_deBruijn64tab), ("internal/strconv.uint64pow10", laid_internal_strconv_uint64pow10)] }
def FnExactSnrOfSaid : Prop := fnExactSnrOfRow.holds Tryd.pinned (OpenSpec.ofChange fnExactSnrOfSpec)

/-- ITS FALSE NEIGHBOUR: 'it returns false'. Refute it at one input. -/
def fnExactSnrOfWrong : ChangeSpec := { name := "fnExactSnrOf", fn := fun _ => fun
  | [d1, d2] => { results := [.lit (.bool false)], args := [d1, d2] }
  | _ => none }
def FnExactSnrOfWrongFalsely : Prop := fnExactSnrOfRow.holds Tryd.pinned (OpenSpec.ofChange fnExactSnrOfWrong)

/- THE SECOND FORM. 'bulk': how many values and letters a reading holds, each counted each time it is reached (what is shared counts as often as it is met; a slice's spare places count too). A statement '..UptoSaid' is the law's where the arguments, and the package variables that the reading takes, are together of bulk at most 1048576: NARROWER than '..Said'. Prove '..Said' where nothing that the law and all that it calls make is longer than what came in: it says more and counts as full. Else prove '..UptoSaid'. A law counts once. -/
mutual
def uptoBulk {H : Type} : DataW H → Nat
  | .lit (.string bytes) => bytes.length + 1
  | .lit _ => 1
  | .nil => 1
  | .ptr d => uptoBulk d + 1
  | .slice elems spare => uptoBulkAll elems + uptoBulkAll spare + 1
  | .agg parts => uptoBulkAll parts + 1
  | .iface _ d => uptoBulk d + 1
  | .map entries => uptoBulkEntries entries + 1
  | .held _ => 1
def uptoBulkAll {H : Type} : List (DataW H) → Nat
  | [] => 0
  | d :: r => uptoBulk d + uptoBulkAll r
def uptoBulkEntries {H : Type} : List (Lit × DataW H) → Nat
  | [] => 0
  | x :: r => uptoBulkEntry x + uptoBulkEntries r
def uptoBulkEntry {H : Type} : Lit × DataW H → Nat
  | (.string bytes, d) => bytes.length + uptoBulk d + 1
  | (_, d) => uptoBulk d + 1
 end
def uptoSmall : (H : Type) → List (DataW H) → Bool := fun _ ds => decide (uptoBulkAll ds ≤ 1048576)
def OpenSpec.upto (s : _root_.Go.ChangeSpec) : _root_.Go.OpenSpec := { _root_.Go.OpenSpec.ofChange s with cond := some uptoSmall }

/-- 'laws.FnExactFieldOfLevel', WHERE WHAT IT READS IS OF BULK AT MOST 1048576: true; the input reads as it did. -/
def fnExactFieldOfLevelUptoRow : OpenClaim := { program := "ytbmmgkicgcdpmaadoor", sum := "c67a3d0386d47030ca627d43e7ec2a33e7de3b0c92b68bc0c3a0ba96aaa05b31", func := "loop.example/g00925/laws.FnExactFieldOfLevel", spec := "fnExactFieldOfLevel", named := ["internal/strconv.uint64pow10", "math/bits.deBruijn32tab", "math/bits.deBruijn64tab"], apart := false, laid := [("math/bits.deBruijn32tab", laid_math_bits_deBruijn32tab), ("math/bits.deBruijn64tab", laid_math_bits_deBruijn64tab), ("internal/strconv.uint64pow10", laid_internal_strconv_uint64pow10)], narrowed := true }
def FnExactFieldOfLevelUptoSaid : Prop := fnExactFieldOfLevelUptoRow.holds Tryd.pinned (OpenSpec.upto fnExactFieldOfLevelSpec)

/-- 'laws.FnExactLevelOfField', WHERE WHAT IT READS IS OF BULK AT MOST 1048576: true; the input reads as it did. -/
def fnExactLevelOfFieldUptoRow : OpenClaim := { program := "ytbmmgkicgcdpmaadoor", sum := "c67a3d0386d47030ca627d43e7ec2a33e7de3b0c92b68bc0c3a0ba96aaa05b31", func := "loop.example/g00925/laws.FnExactLevelOfField", spec := "fnExactLevelOfField", named := ["internal/strconv.uint64pow10", "math/bits.deBruijn32tab", "math/bits.deBruijn64tab"], apart := false, laid := [("math/bits.deBruijn32tab", laid_math_bits_deBruijn32tab), ("math/bits.deBruijn64tab", laid_math_bits_deBruijn64tab), ("internal/strconv.uint64pow10", laid_internal_strconv_uint64pow10)], narrowed := true }
def FnExactLevelOfFieldUptoSaid : Prop := fnExactLevelOfFieldUptoRow.holds Tryd.pinned (OpenSpec.upto fnExactLevelOfFieldSpec)

/-- 'laws.FnExactFieldStrength', WHERE WHAT IT READS IS OF BULK AT MOST 1048576: true; the input reads as it did. -/
def fnExactFieldStrengthUptoRow : OpenClaim := { program := "ytbmmgkicgcdpmaadoor", sum := "c67a3d0386d47030ca627d43e7ec2a33e7de3b0c92b68bc0c3a0ba96aaa05b31", func := "loop.example/g00925/laws.FnExactFieldStrength", spec := "fnExactFieldStrength", named := ["internal/strconv.uint64pow10", "math/bits.deBruijn32tab", "math/bits.deBruijn64tab"], apart := false, laid := [("math/bits.deBruijn32tab", laid_math_bits_deBruijn32tab), ("math/bits.deBruijn64tab", laid_math_bits_deBruijn64tab), ("internal/strconv.uint64pow10", laid_internal_strconv_uint64pow10)], narrowed := true }
def FnExactFieldStrengthUptoSaid : Prop := fnExactFieldStrengthUptoRow.holds Tryd.pinned (OpenSpec.upto fnExactFieldStrengthSpec)

/-- 'laws.FnExactFreeLoss', WHERE WHAT IT READS IS OF BULK AT MOST 1048576: true; the input reads as it did. -/
def fnExactFreeLossUptoRow : OpenClaim := { program := "ytbmmgkicgcdpmaadoor", sum := "c67a3d0386d47030ca627d43e7ec2a33e7de3b0c92b68bc0c3a0ba96aaa05b31", func := "loop.example/g00925/laws.FnExactFreeLoss", spec := "fnExactFreeLoss", named := ["internal/strconv.uint64pow10", "math/bits.deBruijn32tab", "math/bits.deBruijn64tab"], apart := false, laid := [("math/bits.deBruijn32tab", laid_math_bits_deBruijn32tab), ("math/bits.deBruijn64tab", laid_math_bits_deBruijn64tab), ("internal/strconv.uint64pow10", laid_internal_strconv_uint64pow10)], narrowed := true }
def FnExactFreeLossUptoSaid : Prop := fnExactFreeLossUptoRow.holds Tryd.pinned (OpenSpec.upto fnExactFreeLossSpec)

/-- 'laws.FnExactRangeOfField', WHERE WHAT IT READS IS OF BULK AT MOST 1048576: true; the input reads as it did. -/
def fnExactRangeOfFieldUptoRow : OpenClaim := { program := "ytbmmgkicgcdpmaadoor", sum := "c67a3d0386d47030ca627d43e7ec2a33e7de3b0c92b68bc0c3a0ba96aaa05b31", func := "loop.example/g00925/laws.FnExactRangeOfField", spec := "fnExactRangeOfField", unfollowed := true, recurses := true, named := ["internal/strconv.uint64pow10", "math/bits.deBruijn32tab", "math/bits.deBruijn64tab"], apart := false, laid := [("math/bits.deBruijn32tab", laid_math_bits_deBruijn32tab), ("math/bits.deBruijn64tab", laid_math_bits_deBruijn64tab), ("internal/strconv.uint64pow10", laid_internal_strconv_uint64pow10)], narrowed := true }
def FnExactRangeOfFieldUptoSaid : Prop := fnExactRangeOfFieldUptoRow.holds Tryd.pinned (OpenSpec.upto fnExactRangeOfFieldSpec)

/-- 'laws.FnExactEdgeLoss', WHERE WHAT IT READS IS OF BULK AT MOST 1048576: true; the input reads as it did. -/
def fnExactEdgeLossUptoRow : OpenClaim := { program := "ytbmmgkicgcdpmaadoor", sum := "c67a3d0386d47030ca627d43e7ec2a33e7de3b0c92b68bc0c3a0ba96aaa05b31", func := "loop.example/g00925/laws.FnExactEdgeLoss", spec := "fnExactEdgeLoss", unfollowed := true, recurses := true, named := ["internal/strconv.uint64pow10", "math/bits.deBruijn32tab", "math/bits.deBruijn64tab"], apart := false, laid := [("math/bits.deBruijn32tab", laid_math_bits_deBruijn32tab), ("math/bits.deBruijn64tab", laid_math_bits_deBruijn64tab), ("internal/strconv.uint64pow10", laid_internal_strconv_uint64pow10)], narrowed := true }
def FnExactEdgeLossUptoSaid : Prop := fnExactEdgeLossUptoRow.holds Tryd.pinned (OpenSpec.upto fnExactEdgeLossSpec)

/-- 'laws.FnExactRangeOfLoss', WHERE WHAT IT READS IS OF BULK AT MOST 1048576: true; the input reads as it did. -/
def fnExactRangeOfLossUptoRow : OpenClaim := { program := "ytbmmgkicgcdpmaadoor", sum := "c67a3d0386d47030ca627d43e7ec2a33e7de3b0c92b68bc0c3a0ba96aaa05b31", func := "loop.example/g00925/laws.FnExactRangeOfLoss", spec := "fnExactRangeOfLoss", unfollowed := true, recurses := true, named := ["internal/strconv.uint64pow10", "math/bits.deBruijn32tab", "math/bits.deBruijn64tab"], apart := false, laid := [("math/bits.deBruijn32tab", laid_math_bits_deBruijn32tab), ("math/bits.deBruijn64tab", laid_math_bits_deBruijn64tab), ("internal/strconv.uint64pow10", laid_internal_strconv_uint64pow10)], narrowed := true }
def FnExactRangeOfLossUptoSaid : Prop := fnExactRangeOfLossUptoRow.holds Tryd.pinned (OpenSpec.upto fnExactRangeOfLossSpec)

/-- 'laws.FnExactFreeTable', WHERE WHAT IT READS IS OF BULK AT MOST 1048576: true; the input reads as it did. -/
def fnExactFreeTableUptoRow : OpenClaim := { program := "ytbmmgkicgcdpmaadoor", sum := "c67a3d0386d47030ca627d43e7ec2a33e7de3b0c92b68bc0c3a0ba96aaa05b31", func := "loop.example/g00925/laws.FnExactFreeTable", spec := "fnExactFreeTable", unfollowed := true, recurses := true, named := ["internal/strconv.uint64pow10", "math/bits.deBruijn32tab", "math/bits.deBruijn64tab"], apart := false, laid := [("math/bits.deBruijn32tab", laid_math_bits_deBruijn32tab), ("math/bits.deBruijn64tab", laid_math_bits_deBruijn64tab), ("internal/strconv.uint64pow10", laid_internal_strconv_uint64pow10)], narrowed := true }
def FnExactFreeTableUptoSaid : Prop := fnExactFreeTableUptoRow.holds Tryd.pinned (OpenSpec.upto fnExactFreeTableSpec)

/-- 'laws.FnExactRainSpecific', WHERE WHAT IT READS IS OF BULK AT MOST 1048576: true; the input reads as it did. -/
def fnExactRainSpecificUptoRow : OpenClaim := { program := "ytbmmgkicgcdpmaadoor", sum := "c67a3d0386d47030ca627d43e7ec2a33e7de3b0c92b68bc0c3a0ba96aaa05b31", func := "loop.example/g00925/laws.FnExactRainSpecific", spec := "fnExactRainSpecific", named := ["internal/strconv.uint64pow10", "math/bits.deBruijn32tab", "math/bits.deBruijn64tab"], apart := false, laid := [("math/bits.deBruijn32tab", laid_math_bits_deBruijn32tab), ("math/bits.deBruijn64tab", laid_math_bits_deBruijn64tab), ("internal/strconv.uint64pow10", laid_internal_strconv_uint64pow10)], narrowed := true }
def FnExactRainSpecificUptoSaid : Prop := fnExactRainSpecificUptoRow.holds Tryd.pinned (OpenSpec.upto fnExactRainSpecificSpec)

/-- 'laws.FnExactRainLoss', WHERE WHAT IT READS IS OF BULK AT MOST 1048576: true; the input reads as it did. -/
def fnExactRainLossUptoRow : OpenClaim := { program := "ytbmmgkicgcdpmaadoor", sum := "c67a3d0386d47030ca627d43e7ec2a33e7de3b0c92b68bc0c3a0ba96aaa05b31", func := "loop.example/g00925/laws.FnExactRainLoss", spec := "fnExactRainLoss", named := ["internal/strconv.uint64pow10", "math/bits.deBruijn32tab", "math/bits.deBruijn64tab"], apart := false, laid := [("math/bits.deBruijn32tab", laid_math_bits_deBruijn32tab), ("math/bits.deBruijn64tab", laid_math_bits_deBruijn64tab), ("internal/strconv.uint64pow10", laid_internal_strconv_uint64pow10)], narrowed := true }
def FnExactRainLossUptoSaid : Prop := fnExactRainLossUptoRow.holds Tryd.pinned (OpenSpec.upto fnExactRainLossSpec)

/-- 'laws.FnExactNoiseFloor', WHERE WHAT IT READS IS OF BULK AT MOST 1048576: true; the input reads as it did. -/
def fnExactNoiseFloorUptoRow : OpenClaim := { program := "ytbmmgkicgcdpmaadoor", sum := "c67a3d0386d47030ca627d43e7ec2a33e7de3b0c92b68bc0c3a0ba96aaa05b31", func := "loop.example/g00925/laws.FnExactNoiseFloor", spec := "fnExactNoiseFloor", named := ["internal/strconv.uint64pow10", "math/bits.deBruijn32tab", "math/bits.deBruijn64tab"], apart := false, laid := [("math/bits.deBruijn32tab", laid_math_bits_deBruijn32tab), ("math/bits.deBruijn64tab", laid_math_bits_deBruijn64tab), ("internal/strconv.uint64pow10", laid_internal_strconv_uint64pow10)], narrowed := true }
def FnExactNoiseFloorUptoSaid : Prop := fnExactNoiseFloorUptoRow.holds Tryd.pinned (OpenSpec.upto fnExactNoiseFloorSpec)

/-- 'laws.FnExactSnrOf', WHERE WHAT IT READS IS OF BULK AT MOST 1048576: true; the input reads as it did. -/
def fnExactSnrOfUptoRow : OpenClaim := { program := "ytbmmgkicgcdpmaadoor", sum := "c67a3d0386d47030ca627d43e7ec2a33e7de3b0c92b68bc0c3a0ba96aaa05b31", func := "loop.example/g00925/laws.FnExactSnrOf", spec := "fnExactSnrOf", named := ["internal/strconv.uint64pow10", "math/bits.deBruijn32tab", "math/bits.deBruijn64tab"], apart := false, laid := [("math/bits.deBruijn32tab", laid_math_bits_deBruijn32tab), ("math/bits.deBruijn64tab", laid_math_bits_deBruijn64tab), ("internal/strconv.uint64pow10", laid_internal_strconv_uint64pow10)], narrowed := true }
def FnExactSnrOfUptoSaid : Prop := fnExactSnrOfUptoRow.holds Tryd.pinned (OpenSpec.upto fnExactSnrOfSpec)

end Rows
end Go.Proofs.YtbmmgkicgcdpmaaDoor
