/-
  NARROWER THAN 'FOR EVERY INPUT', by the rows' own cells (each row's printed sentence says how): FnExactLeastLevel: laid · FnExactGreatestLoss: laid · FnExactRateAt: laid · FnExactLossesOf: laid · FnExactSinrOf: laid.
  DERIVED. THE GIVEN ROWS OF THIS SEAT. 5 by the template 'for every input the law returns true; each argument reads behind the call as it read before'; 0 by the template 'total and deterministic' (their statements: YtlpjcebpfmhpnaaDoorTotals.lean).
  GIVEN WITH THE SEED: the statements are not yours to turn. If you find one false, say at which input.
  Laid BY PROGRAM, IN A SANDBOX (cutbox-rows.mjs): the forced cells as the released guide's own fill.sh prints them over the translation 80b2150c99382719… (all of the seat's roots in one cut). By AI agents, Wed Nov 11 2026. No macro, syntax, notation, axiom, sorry.
-/
import Derived.Test.YtlpjcebpfmhpnaaDoorChecked
import GoSem.Claim
import GoSem.ClaimJoined
import GoSem.ClaimMapViews
import Derived.JoinedTies
import Derived.KernelRfl
namespace Go.Proofs.YtlpjcebpfmhpnaaDoor
/- THE CELL 'sum', in the pinned program and in every row, IS THE sha256 OF THE DUMP (.gsa) THAT YtlpjcebpfmhpnaaDoorProg.lean LOADS. Nothing in Lean hashes anything: it is a label: what it is worth is what the hold of that sum in a sandbox is worth. -/
noncomputable def Tryd.pinned : Pinned := { name := "ytlpjcebpfmhpnaadoor", sum := "80b2150c99382719928597c2e4fb3d56c576882c78b480e265eb5e0f8de39f9c", checked := Tryd.checked }
namespace Rows
def none {H : Type} : Left H := { results := [], args := [] }

/- WHAT THE LISTED PACKAGE-LEVEL VARIABLES READ AS WHEN THE CALL BEGINS. Each datum BY PROGRAM (the guide's laid-datum.mjs) off the statement by which the dump's own 'gosem.cut.vars' lays the variable. In a bare row this is a premise. The card (YtlpjcebpfmhpnaaDoorCards.lean) ties it to the program's text. -/
def laid_math_bits_deBruijn32tab {H : Type} : DataW H := .agg [.lit (.int .u8 0), .lit (.int .u8 1), .lit (.int .u8 28), .lit (.int .u8 2), .lit (.int .u8 29), .lit (.int .u8 14), .lit (.int .u8 24), .lit (.int .u8 3), .lit (.int .u8 30), .lit (.int .u8 22), .lit (.int .u8 20), .lit (.int .u8 15), .lit (.int .u8 25), .lit (.int .u8 17), .lit (.int .u8 4), .lit (.int .u8 8), .lit (.int .u8 31), .lit (.int .u8 27), .lit (.int .u8 13), .lit (.int .u8 23), .lit (.int .u8 21), .lit (.int .u8 19), .lit (.int .u8 16), .lit (.int .u8 7), .lit (.int .u8 26), .lit (.int .u8 12), .lit (.int .u8 18), .lit (.int .u8 6), .lit (.int .u8 11), .lit (.int .u8 5), .lit (.int .u8 10), .lit (.int .u8 9)]
def laid_math_bits_deBruijn64tab {H : Type} : DataW H := .agg [.lit (.int .u8 0), .lit (.int .u8 1), .lit (.int .u8 56), .lit (.int .u8 2), .lit (.int .u8 57), .lit (.int .u8 49), .lit (.int .u8 28), .lit (.int .u8 3), .lit (.int .u8 61), .lit (.int .u8 58), .lit (.int .u8 42), .lit (.int .u8 50), .lit (.int .u8 38), .lit (.int .u8 29), .lit (.int .u8 17), .lit (.int .u8 4), .lit (.int .u8 62), .lit (.int .u8 47), .lit (.int .u8 59), .lit (.int .u8 36), .lit (.int .u8 45), .lit (.int .u8 43), .lit (.int .u8 51), .lit (.int .u8 22), .lit (.int .u8 53), .lit (.int .u8 39), .lit (.int .u8 33), .lit (.int .u8 30), .lit (.int .u8 24), .lit (.int .u8 18), .lit (.int .u8 12), .lit (.int .u8 5), .lit (.int .u8 63), .lit (.int .u8 55), .lit (.int .u8 48), .lit (.int .u8 27), .lit (.int .u8 60), .lit (.int .u8 41), .lit (.int .u8 37), .lit (.int .u8 16), .lit (.int .u8 46), .lit (.int .u8 35), .lit (.int .u8 44), .lit (.int .u8 21), .lit (.int .u8 52), .lit (.int .u8 32), .lit (.int .u8 23), .lit (.int .u8 11), .lit (.int .u8 54), .lit (.int .u8 26), .lit (.int .u8 40), .lit (.int .u8 15), .lit (.int .u8 34), .lit (.int .u8 20), .lit (.int .u8 31), .lit (.int .u8 10), .lit (.int .u8 25), .lit (.int .u8 14), .lit (.int .u8 19), .lit (.int .u8 9), .lit (.int .u8 13), .lit (.int .u8 8), .lit (.int .u8 7), .lit (.int .u8 6)]
def laid_internal_strconv_uint64pow10 {H : Type} : DataW H := .agg [.lit (.int .u64 1), .lit (.int .u64 10), .lit (.int .u64 100), .lit (.int .u64 1000), .lit (.int .u64 10000), .lit (.int .u64 100000), .lit (.int .u64 1000000), .lit (.int .u64 10000000), .lit (.int .u64 100000000), .lit (.int .u64 1000000000), .lit (.int .u64 10000000000), .lit (.int .u64 100000000000), .lit (.int .u64 1000000000000), .lit (.int .u64 10000000000000), .lit (.int .u64 100000000000000), .lit (.int .u64 1000000000000000), .lit (.int .u64 10000000000000000), .lit (.int .u64 100000000000000000), .lit (.int .u64 1000000000000000000), .lit (.int .u64 10000000000000000000)]
def laid_loop_example_g00925_impl_clutterTable {H : Type} : DataW H := .agg [.agg [.lit (.string [111, 112, 101, 110]), .lit (.int .i64 0), .lit (.int .i64 0)], .agg [.lit (.string [102, 105, 101, 108, 100]), .lit (.int .i64 20), .lit (.int .i64 1000)], .agg [.lit (.string [119, 97, 116, 101, 114]), .lit (.int .i64 10), .lit (.int .i64 500)], .agg [.lit (.string [116, 114, 101, 101, 115]), .lit (.int .i64 120), .lit (.int .i64 12000)], .agg [.lit (.string [118, 105, 108, 108, 97, 103, 101]), .lit (.int .i64 70), .lit (.int .i64 8000)], .agg [.lit (.string [115, 117, 98, 117, 114, 98]), .lit (.int .i64 90), .lit (.int .i64 10000)], .agg [.lit (.string [116, 111, 119, 110]), .lit (.int .i64 160), .lit (.int .i64 16000)], .agg [.lit (.string [99, 105, 116, 121]), .lit (.int .i64 240), .lit (.int .i64 20000)]]

/-- 'laws.FnExactLeastLevel': WHATEVER THE INPUT: true; the input reads as it did. -/
def fnExactLeastLevelSpec : ChangeSpec := { name := "fnExactLeastLevel", fn := fun _ => fun
  | [d1, d2] => { results := [.lit (.bool true)], args := [d1, d2] }
  | _ => none }
def fnExactLeastLevelRow : OpenClaim := { program := "ytlpjcebpfmhpnaadoor", sum := "80b2150c99382719928597c2e4fb3d56c576882c78b480e265eb5e0f8de39f9c", func := "loop.example/g00925/laws.FnExactLeastLevel", spec := "fnExactLeastLevel", named := ["internal/strconv.uint64pow10", "math/bits.deBruijn32tab", "math/bits.deBruijn64tab"], apart := false, laid := [("math/bits.deBruijn32tab", laid_math_bits_deBruijn32tab), ("math/bits.deBruijn64tab", laid_math_bits_deBruijn64tab), ("internal/strconv.uint64pow10", laid_internal_strconv_uint64pow10)] }
def FnExactLeastLevelSaid : Prop := fnExactLeastLevelRow.holds Tryd.pinned (OpenSpec.ofChange fnExactLeastLevelSpec)

/-- ITS FALSE NEIGHBOUR: 'it returns false'. Refute it at one input. -/
def fnExactLeastLevelWrong : ChangeSpec := { name := "fnExactLeastLevel", fn := fun _ => fun
  | [d1, d2] => { results := [.lit (.bool false)], args := [d1, d2] }
  | _ => none }
def FnExactLeastLevelWrongFalsely : Prop := fnExactLeastLevelRow.holds Tryd.pinned (OpenSpec.ofChange fnExactLeastLevelWrong)

/-- 'laws.FnExactGreatestLoss': WHATEVER THE INPUT: true; the input reads as it did. -/
def fnExactGreatestLossSpec : ChangeSpec := { name := "fnExactGreatestLoss", fn := fun _ => fun
  | [d1, d2, d3, d4, d5] => { results := [.lit (.bool true)], args := [d1, d2, d3, d4, d5] }
  | _ => none }
def fnExactGreatestLossRow : OpenClaim := { program := "ytlpjcebpfmhpnaadoor", sum := "80b2150c99382719928597c2e4fb3d56c576882c78b480e265eb5e0f8de39f9c", func := "loop.example/g00925/laws.FnExactGreatestLoss", spec := "fnExactGreatestLoss", named := ["internal/strconv.uint64pow10", "math/bits.deBruijn32tab", "math/bits.deBruijn64tab"], apart := false, laid := [("math/bits.deBruijn32tab", laid_math_bits_deBruijn32tab), ("math/bits.deBruijn64tab", laid_math_bits_deBruijn64tab), ("internal/strconv.uint64pow10", laid_internal_strconv_uint64pow10)] }
def FnExactGreatestLossSaid : Prop := fnExactGreatestLossRow.holds Tryd.pinned (OpenSpec.ofChange fnExactGreatestLossSpec)

/-- ITS FALSE NEIGHBOUR: 'it returns false'. Refute it at one input. -/
def fnExactGreatestLossWrong : ChangeSpec := { name := "fnExactGreatestLoss", fn := fun _ => fun
  | [d1, d2, d3, d4, d5] => { results := [.lit (.bool false)], args := [d1, d2, d3, d4, d5] }
  | _ => none }
def FnExactGreatestLossWrongFalsely : Prop := fnExactGreatestLossRow.holds Tryd.pinned (OpenSpec.ofChange fnExactGreatestLossWrong)

/-- 'laws.FnExactRateAt': WHATEVER THE INPUT: true; the input reads as it did. -/
def fnExactRateAtSpec : ChangeSpec := { name := "fnExactRateAt", fn := fun _ => fun
  | [d1, d2] => { results := [.lit (.bool true)], args := [d1, d2] }
  | _ => none }
def fnExactRateAtRow : OpenClaim := { program := "ytlpjcebpfmhpnaadoor", sum := "80b2150c99382719928597c2e4fb3d56c576882c78b480e265eb5e0f8de39f9c", func := "loop.example/g00925/laws.FnExactRateAt", spec := "fnExactRateAt", named := ["internal/strconv.uint64pow10", "math/bits.deBruijn32tab", "math/bits.deBruijn64tab"], apart := false, laid := [("math/bits.deBruijn32tab", laid_math_bits_deBruijn32tab), ("math/bits.deBruijn64tab", laid_math_bits_deBruijn64tab), ("internal/strconv.uint64pow10", laid_internal_strconv_uint64pow10)] }
def FnExactRateAtSaid : Prop := fnExactRateAtRow.holds Tryd.pinned (OpenSpec.ofChange fnExactRateAtSpec)

/-- ITS FALSE NEIGHBOUR: 'it returns false'. Refute it at one input. -/
def fnExactRateAtWrong : ChangeSpec := { name := "fnExactRateAt", fn := fun _ => fun
  | [d1, d2] => { results := [.lit (.bool false)], args := [d1, d2] }
  | _ => none }
def FnExactRateAtWrongFalsely : Prop := fnExactRateAtRow.holds Tryd.pinned (OpenSpec.ofChange fnExactRateAtWrong)

/-- 'laws.FnExactLossesOf': WHATEVER THE INPUT: true; the input reads as it did. -/
def fnExactLossesOfSpec : ChangeSpec := { name := "fnExactLossesOf", vars := ["loop.example/g00925/impl.clutterTable"], fn := fun _ => fun
  | [d1, d2, d3, d4, d5, g1] => { results := [.lit (.bool true)], args := [d1, d2, d3, d4, d5], vars := [g1] }
  | _ => none }
def fnExactLossesOfRow : OpenClaim := { program := "ytlpjcebpfmhpnaadoor", sum := "80b2150c99382719928597c2e4fb3d56c576882c78b480e265eb5e0f8de39f9c", func := "loop.example/g00925/laws.FnExactLossesOf", spec := "fnExactLossesOf", unfollowed := true, recurses := true, named := ["internal/strconv.uint64pow10", "math/bits.deBruijn32tab", "math/bits.deBruijn64tab", "loop.example/g00925/impl.clutterTable"], apart := false, laid := [("math/bits.deBruijn32tab", laid_math_bits_deBruijn32tab), ("math/bits.deBruijn64tab", laid_math_bits_deBruijn64tab), ("internal/strconv.uint64pow10", laid_internal_strconv_uint64pow10), ("loop.example/g00925/impl.clutterTable", laid_loop_example_g00925_impl_clutterTable)] }
def FnExactLossesOfSaid : Prop := fnExactLossesOfRow.holds Tryd.pinned (OpenSpec.ofChange fnExactLossesOfSpec)

/-- ITS FALSE NEIGHBOUR: 'it returns false'. Refute it at one input. -/
def fnExactLossesOfWrong : ChangeSpec := { name := "fnExactLossesOf", vars := ["loop.example/g00925/impl.clutterTable"], fn := fun _ => fun
  | [d1, d2, d3, d4, d5, g1] => { results := [.lit (.bool false)], args := [d1, d2, d3, d4, d5], vars := [g1] }
  | _ => none }
def FnExactLossesOfWrongFalsely : Prop := fnExactLossesOfRow.holds Tryd.pinned (OpenSpec.ofChange fnExactLossesOfWrong)

/-- 'laws.FnExactSinrOf': WHATEVER THE INPUT: true; the input reads as it did. -/
def fnExactSinrOfSpec : ChangeSpec := { name := "fnExactSinrOf", fn := fun _ => fun
  | [d1, d2, d3] => { results := [.lit (.bool true)], args := [d1, d2, d3] }
  | _ => none }
def fnExactSinrOfRow : OpenClaim := { program := "ytlpjcebpfmhpnaadoor", sum := "80b2150c99382719928597c2e4fb3d56c576882c78b480e265eb5e0f8de39f9c", func := "loop.example/g00925/laws.FnExactSinrOf", spec := "fnExactSinrOf", named := ["internal/strconv.uint64pow10", "math/bits.deBruijn32tab", "math/bits.deBruijn64tab"], apart := false, laid := [("math/bits.deBruijn32tab", laid_math_bits_deBruijn32tab), ("math/bits.deBruijn64tab", laid_math_bits_deBruijn64tab), ("internal/strconv.uint64pow10", laid_internal_strconv_uint64pow10)] }
def FnExactSinrOfSaid : Prop := fnExactSinrOfRow.holds Tryd.pinned (OpenSpec.ofChange fnExactSinrOfSpec)

/-- ITS FALSE NEIGHBOUR: 'it returns false'. Refute it at one input. -/
def fnExactSinrOfWrong : ChangeSpec := { name := "fnExactSinrOf", fn := fun _ => fun
  | [d1, d2, d3] => { results := [.lit (.bool false)], args := [d1, d2, d3] }
  | _ => none }
def FnExactSinrOfWrongFalsely : Prop := fnExactSinrOfRow.holds Tryd.pinned (OpenSpec.ofChange fnExactSinrOfWrong)

/- THE SECOND FORM. 'bulk': how many values and letters a reading holds, each counted each time it is reached (what is shared counts as often as it is met; a slice's spare places count too). A statement '..UptoSaid' is the law's where the arguments, and the package variables that the reading takes, are together of bulk at most 1048576: NARROWER than '..Said'. Prove '..Said' where nothing that the law and all that it calls make is longer than what came in: it says more and counts as full. Else prove '..UptoSaid'. A law counts once. -/
mutual
def uptoBulk {H : Type} : DataW H → Nat
  | .lit (.string bytes) => bytes.length + 1
  | .lit _ => 1
  | .nil => 1
  | .ptr d => uptoBulk d + 1
  | .slice elems spare => uptoBulkAll elems + uptoBulkAll spare + 1
  | .agg parts => uptoBulkAll parts + 1
  | .iface _ d => uptoBulk d + 1
  | .map entries => uptoBulkEntries entries + 1
  | .held _ => 1
def uptoBulkAll {H : Type} : List (DataW H) → Nat
  | [] => 0
  | d :: r => uptoBulk d + uptoBulkAll r
def uptoBulkEntries {H : Type} : List (Lit × DataW H) → Nat
  | [] => 0
  | x :: r => uptoBulkEntry x + uptoBulkEntries r
def uptoBulkEntry {H : Type} : Lit × DataW H → Nat
  | (.string bytes, d) => bytes.length + uptoBulk d + 1
  | (_, d) => uptoBulk d + 1
 end
def uptoSmall : (H : Type) → List (DataW H) → Bool := fun _ ds => decide (uptoBulkAll ds ≤ 1048576)
def OpenSpec.upto (s : _root_.Go.ChangeSpec) : _root_.Go.OpenSpec := { _root_.Go.OpenSpec.ofChange s with cond := some uptoSmall }

/-- 'laws.FnExactLeastLevel', WHERE WHAT IT READS IS OF BULK AT MOST 1048576: true; the input reads as it did. -/
def fnExactLeastLevelUptoRow : OpenClaim := { program := "ytlpjcebpfmhpnaadoor", sum := "80b2150c99382719928597c2e4fb3d56c576882c78b480e265eb5e0f8de39f9c", func := "loop.example/g00925/laws.FnExactLeastLevel", spec := "fnExactLeastLevel", named := ["internal/strconv.uint64pow10", "math/bits.deBruijn32tab", "math/bits.deBruijn64tab"], apart := false, laid := [("math/bits.deBruijn32tab", laid_math_bits_deBruijn32tab), ("math/bits.deBruijn64tab", laid_math_bits_deBruijn64tab), ("internal/strconv.uint64pow10", laid_internal_strconv_uint64pow10)], narrowed := true }
def FnExactLeastLevelUptoSaid : Prop := fnExactLeastLevelUptoRow.holds Tryd.pinned (OpenSpec.upto fnExactLeastLevelSpec)

/-- 'laws.FnExactGreatestLoss', WHERE WHAT IT READS IS OF BULK AT MOST 1048576: true; the input reads as it did. -/
def fnExactGreatestLossUptoRow : OpenClaim := { program := "ytlpjcebpfmhpnaadoor", sum := "80b2150c99382719928597c2e4fb3d56c576882c78b480e265eb5e0f8de39f9c", func := "loop.example/g00925/laws.FnExactGreatestLoss", spec := "fnExactGreatestLoss", named := ["internal/strconv.uint64pow10", "math/bits.deBruijn32tab", "math/bits.deBruijn64tab"], apart := false, laid := [("math/bits.deBruijn32tab", laid_math_bits_deBruijn32tab), ("math/bits.deBruijn64tab", laid_math_bits_deBruijn64tab), ("internal/strconv.uint64pow10", laid_internal_strconv_uint64pow10)], narrowed := true }
def FnExactGreatestLossUptoSaid : Prop := fnExactGreatestLossUptoRow.holds Tryd.pinned (OpenSpec.upto fnExactGreatestLossSpec)

/-- 'laws.FnExactRateAt', WHERE WHAT IT READS IS OF BULK AT MOST 1048576: true; the input reads as it did. -/
def fnExactRateAtUptoRow : OpenClaim := { program := "ytlpjcebpfmhpnaadoor", sum := "80b2150c99382719928597c2e4fb3d56c576882c78b480e265eb5e0f8de39f9c", func := "loop.example/g00925/laws.FnExactRateAt", spec := "fnExactRateAt", named := ["internal/strconv.uint64pow10", "math/bits.deBruijn32tab", "math/bits.deBruijn64tab"], apart := false, laid := [("math/bits.deBruijn32tab", laid_math_bits_deBruijn32tab), ("math/bits.deBruijn64tab", laid_math_bits_deBruijn64tab), ("internal/strconv.uint64pow10", laid_internal_strconv_uint64pow10)], narrowed := true }
def FnExactRateAtUptoSaid : Prop := fnExactRateAtUptoRow.holds Tryd.pinned (OpenSpec.upto fnExactRateAtSpec)

/-- 'laws.FnExactLossesOf', WHERE WHAT IT READS IS OF BULK AT MOST 1048576: true; the input reads as it did. -/
def fnExactLossesOfUptoRow : OpenClaim := { program := "ytlpjcebpfmhpnaadoor", sum := "80b2150c99382719928597c2e4fb3d56c576882c78b480e265eb5e0f8de39f9c", func := "loop.example/g00925/laws.FnExactLossesOf", spec := "fnExactLossesOf", unfollowed := true, recurses := true, named := ["internal/strconv.uint64pow10", "math/bits.deBruijn32tab", "math/bits.deBruijn64tab", "loop.example/g00925/impl.clutterTable"], apart := false, laid := [("math/bits.deBruijn32tab", laid_math_bits_deBruijn32tab), ("math/bits.deBruijn64tab", laid_math_bits_deBruijn64tab), ("internal/strconv.uint64pow10", laid_internal_strconv_uint64pow10), ("loop.example/g00925/impl.clutterTable", laid_loop_example_g00925_impl_clutterTable)], narrowed := true }
def FnExactLossesOfUptoSaid : Prop := fnExactLossesOfUptoRow.holds Tryd.pinned (OpenSpec.upto fnExactLossesOfSpec)

/-- 'laws.FnExactSinrOf', WHERE WHAT IT READS IS OF BULK AT MOST 1048576: true; the input reads as it did. -/
def fnExactSinrOfUptoRow : OpenClaim := { program := "ytlpjcebpfmhpnaadoor", sum := "80b2150c99382719928597c2e4fb3d56c576882c78b480e265eb5e0f8de39f9c", func := "loop.example/g00925/laws.FnExactSinrOf", spec := "fnExactSinrOf", named := ["internal/strconv.uint64pow10", "math/bits.deBruijn32tab", "math/bits.deBruijn64tab"], apart := false, laid := [("math/bits.deBruijn32tab", laid_math_bits_deBruijn32tab), ("math/bits.deBruijn64tab", laid_math_bits_deBruijn64tab), ("internal/strconv.uint64pow10", laid_internal_strconv_uint64pow10)], narrowed := true }
def FnExactSinrOfUptoSaid : Prop := fnExactSinrOfUptoRow.holds Tryd.pinned (OpenSpec.upto fnExactSinrOfSpec)

end Rows
end Go.Proofs.YtlpjcebpfmhpnaaDoor
