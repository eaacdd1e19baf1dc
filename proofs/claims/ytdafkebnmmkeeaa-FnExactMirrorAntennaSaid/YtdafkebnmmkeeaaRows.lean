/-
  No cell of these rows narrows 'for every input' (looked for: loops, veiled, ifaces, maps, wideKeys, modest, calm, conditions, laid).
  DERIVED. THE GIVEN ROWS OF THIS SEAT. 9 by the template 'for every input the law returns true; each argument reads behind the call as it read before'; 0 by the template 'total and deterministic' (their statements: YtdafkebnmmkeeaaTotals.lean).
  GIVEN WITH THE SEED: the statements are not yours to turn. If you find one false, say at which input.
  Laid BY PROGRAM, IN A SANDBOX (cutbox-rows.mjs): the forced cells as the released guide's own fill.sh prints them over the translation 9987886c5c9e71bf… (all of the seat's roots in one cut). By AI agents, Wed Nov 11 2026. No macro, syntax, notation, axiom, sorry.
-/
import Derived.Test.YtdafkebnmmkeeaaChecked
import GoSem.Claim
import GoSem.ClaimJoined
import GoSem.ClaimMapViews
import Derived.JoinedTies
import Derived.KernelRfl
namespace Go.Proofs.Ytdafkebnmmkeeaa
/- THE CELL 'sum', in the pinned program and in every row, IS THE sha256 OF THE DUMP (.gsa) THAT YtdafkebnmmkeeaaProg.lean LOADS. Nothing in Lean hashes anything: it is a label: what it is worth is what the hold of that sum in a sandbox is worth. -/
noncomputable def Try.pinned : Pinned := { name := "ytdafkebnmmkeeaa", sum := "9987886c5c9e71bf845325a6a9c76ea310053835f28c9e63fb4d228865f91e8a", checked := Try.checked }
namespace Rows
def none {H : Type} : Left H := { results := [], args := [] }

/-- 'laws.FnExactBestMode': WHATEVER THE INPUT: true; the input reads as it did. -/
def fnExactBestModeSpec : ChangeSpec := { name := "fnExactBestMode", fn := fun _ => fun
  | [d1, d2] => { results := [.lit (.bool true)], args := [d1, d2] }
  | _ => none }
def fnExactBestModeRow : OpenClaim := { program := "ytdafkebnmmkeeaa", sum := "9987886c5c9e71bf845325a6a9c76ea310053835f28c9e63fb4d228865f91e8a", func := "loop.example/g00925/laws.FnExactBestMode", spec := "fnExactBestMode", apart := false }
def FnExactBestModeSaid : Prop := fnExactBestModeRow.holds Try.pinned (OpenSpec.ofChange fnExactBestModeSpec)

/-- ITS FALSE NEIGHBOUR: 'it returns false'. Refute it at one input. -/
def fnExactBestModeWrong : ChangeSpec := { name := "fnExactBestMode", fn := fun _ => fun
  | [d1, d2] => { results := [.lit (.bool false)], args := [d1, d2] }
  | _ => none }
def FnExactBestModeWrongFalsely : Prop := fnExactBestModeRow.holds Try.pinned (OpenSpec.ofChange fnExactBestModeWrong)

/-- 'laws.FnExactLossAtOffset': WHATEVER THE INPUT: true; the input reads as it did. -/
def fnExactLossAtOffsetSpec : ChangeSpec := { name := "fnExactLossAtOffset", fn := fun _ => fun
  | [d1, d2] => { results := [.lit (.bool true)], args := [d1, d2] }
  | _ => none }
def fnExactLossAtOffsetRow : OpenClaim := { program := "ytdafkebnmmkeeaa", sum := "9987886c5c9e71bf845325a6a9c76ea310053835f28c9e63fb4d228865f91e8a", func := "loop.example/g00925/laws.FnExactLossAtOffset", spec := "fnExactLossAtOffset", apart := false }
def FnExactLossAtOffsetSaid : Prop := fnExactLossAtOffsetRow.holds Try.pinned (OpenSpec.ofChange fnExactLossAtOffsetSpec)

/-- ITS FALSE NEIGHBOUR: 'it returns false'. Refute it at one input. -/
def fnExactLossAtOffsetWrong : ChangeSpec := { name := "fnExactLossAtOffset", fn := fun _ => fun
  | [d1, d2] => { results := [.lit (.bool false)], args := [d1, d2] }
  | _ => none }
def FnExactLossAtOffsetWrongFalsely : Prop := fnExactLossAtOffsetRow.holds Try.pinned (OpenSpec.ofChange fnExactLossAtOffsetWrong)

/-- 'laws.FnExactGainToward': WHATEVER THE INPUT: true; the input reads as it did. -/
def fnExactGainTowardSpec : ChangeSpec := { name := "fnExactGainToward", fn := fun _ => fun
  | [d1, d2, d3, d4, d5] => { results := [.lit (.bool true)], args := [d1, d2, d3, d4, d5] }
  | _ => none }
def fnExactGainTowardRow : OpenClaim := { program := "ytdafkebnmmkeeaa", sum := "9987886c5c9e71bf845325a6a9c76ea310053835f28c9e63fb4d228865f91e8a", func := "loop.example/g00925/laws.FnExactGainToward", spec := "fnExactGainToward", unfollowed := true, recurses := true, apart := false }
def FnExactGainTowardSaid : Prop := fnExactGainTowardRow.holds Try.pinned (OpenSpec.ofChange fnExactGainTowardSpec)

/-- ITS FALSE NEIGHBOUR: 'it returns false'. Refute it at one input. -/
def fnExactGainTowardWrong : ChangeSpec := { name := "fnExactGainToward", fn := fun _ => fun
  | [d1, d2, d3, d4, d5] => { results := [.lit (.bool false)], args := [d1, d2, d3, d4, d5] }
  | _ => none }
def FnExactGainTowardWrongFalsely : Prop := fnExactGainTowardRow.holds Try.pinned (OpenSpec.ofChange fnExactGainTowardWrong)

/-- 'laws.FnExactMirrorAntenna': WHATEVER THE INPUT: true; the input reads as it did. -/
def fnExactMirrorAntennaSpec : ChangeSpec := { name := "fnExactMirrorAntenna", fn := fun _ => fun
  | [d] => { results := [.lit (.bool true)], args := [d] }
  | _ => none }
def fnExactMirrorAntennaRow : OpenClaim := { program := "ytdafkebnmmkeeaa", sum := "9987886c5c9e71bf845325a6a9c76ea310053835f28c9e63fb4d228865f91e8a", func := "loop.example/g00925/laws.FnExactMirrorAntenna", spec := "fnExactMirrorAntenna", unfollowed := true, recurses := true, apart := false }
def FnExactMirrorAntennaSaid : Prop := fnExactMirrorAntennaRow.holds Try.pinned (OpenSpec.ofChange fnExactMirrorAntennaSpec)

/-- ITS FALSE NEIGHBOUR: 'it returns false'. Refute it at one input. -/
def fnExactMirrorAntennaWrong : ChangeSpec := { name := "fnExactMirrorAntenna", fn := fun _ => fun
  | [d] => { results := [.lit (.bool false)], args := [d] }
  | _ => none }
def FnExactMirrorAntennaWrongFalsely : Prop := fnExactMirrorAntennaRow.holds Try.pinned (OpenSpec.ofChange fnExactMirrorAntennaWrong)

/-- 'laws.FnExactEndHeight': WHATEVER THE INPUT: true; the input reads as it did. -/
def fnExactEndHeightSpec : ChangeSpec := { name := "fnExactEndHeight", fn := fun _ => fun
  | [d1, d2] => { results := [.lit (.bool true)], args := [d1, d2] }
  | _ => none }
def fnExactEndHeightRow : OpenClaim := { program := "ytdafkebnmmkeeaa", sum := "9987886c5c9e71bf845325a6a9c76ea310053835f28c9e63fb4d228865f91e8a", func := "loop.example/g00925/laws.FnExactEndHeight", spec := "fnExactEndHeight", unfollowed := true, recurses := true, apart := false }
def FnExactEndHeightSaid : Prop := fnExactEndHeightRow.holds Try.pinned (OpenSpec.ofChange fnExactEndHeightSpec)

/-- ITS FALSE NEIGHBOUR: 'it returns false'. Refute it at one input. -/
def fnExactEndHeightWrong : ChangeSpec := { name := "fnExactEndHeight", fn := fun _ => fun
  | [d1, d2] => { results := [.lit (.bool false)], args := [d1, d2] }
  | _ => none }
def FnExactEndHeightWrongFalsely : Prop := fnExactEndHeightRow.holds Try.pinned (OpenSpec.ofChange fnExactEndHeightWrong)

/-- 'laws.FnExactEnvelopeOf': WHATEVER THE INPUT: true; the input reads as it did. -/
def fnExactEnvelopeOfSpec : ChangeSpec := { name := "fnExactEnvelopeOf", fn := fun _ => fun
  | [d1, d2, d3] => { results := [.lit (.bool true)], args := [d1, d2, d3] }
  | _ => none }
def fnExactEnvelopeOfRow : OpenClaim := { program := "ytdafkebnmmkeeaa", sum := "9987886c5c9e71bf845325a6a9c76ea310053835f28c9e63fb4d228865f91e8a", func := "loop.example/g00925/laws.FnExactEnvelopeOf", spec := "fnExactEnvelopeOf", unfollowed := true, recurses := true, apart := false }
def FnExactEnvelopeOfSaid : Prop := fnExactEnvelopeOfRow.holds Try.pinned (OpenSpec.ofChange fnExactEnvelopeOfSpec)

/-- ITS FALSE NEIGHBOUR: 'it returns false'. Refute it at one input. -/
def fnExactEnvelopeOfWrong : ChangeSpec := { name := "fnExactEnvelopeOf", fn := fun _ => fun
  | [d1, d2, d3] => { results := [.lit (.bool false)], args := [d1, d2, d3] }
  | _ => none }
def FnExactEnvelopeOfWrongFalsely : Prop := fnExactEnvelopeOfRow.holds Try.pinned (OpenSpec.ofChange fnExactEnvelopeOfWrong)

/-- 'laws.FnExactPartProfile': WHATEVER THE INPUT: true; the input reads as it did. -/
def fnExactPartProfileSpec : ChangeSpec := { name := "fnExactPartProfile", fn := fun _ => fun
  | [d1, d2, d3] => { results := [.lit (.bool true)], args := [d1, d2, d3] }
  | _ => none }
def fnExactPartProfileRow : OpenClaim := { program := "ytdafkebnmmkeeaa", sum := "9987886c5c9e71bf845325a6a9c76ea310053835f28c9e63fb4d228865f91e8a", func := "loop.example/g00925/laws.FnExactPartProfile", spec := "fnExactPartProfile", unfollowed := true, recurses := true, apart := false }
def FnExactPartProfileSaid : Prop := fnExactPartProfileRow.holds Try.pinned (OpenSpec.ofChange fnExactPartProfileSpec)

/-- ITS FALSE NEIGHBOUR: 'it returns false'. Refute it at one input. -/
def fnExactPartProfileWrong : ChangeSpec := { name := "fnExactPartProfile", fn := fun _ => fun
  | [d1, d2, d3] => { results := [.lit (.bool false)], args := [d1, d2, d3] }
  | _ => none }
def FnExactPartProfileWrongFalsely : Prop := fnExactPartProfileRow.holds Try.pinned (OpenSpec.ofChange fnExactPartProfileWrong)

/-- 'laws.FnExactProfileBetween': WHATEVER THE INPUT: true; the input reads as it did. -/
def fnExactProfileBetweenSpec : ChangeSpec := { name := "fnExactProfileBetween", fn := fun _ => fun
  | [d1, d2, d3] => { results := [.lit (.bool true)], args := [d1, d2, d3] }
  | _ => none }
def fnExactProfileBetweenRow : OpenClaim := { program := "ytdafkebnmmkeeaa", sum := "9987886c5c9e71bf845325a6a9c76ea310053835f28c9e63fb4d228865f91e8a", func := "loop.example/g00925/laws.FnExactProfileBetween", spec := "fnExactProfileBetween", unfollowed := true, recurses := true, apart := false }
def FnExactProfileBetweenSaid : Prop := fnExactProfileBetweenRow.holds Try.pinned (OpenSpec.ofChange fnExactProfileBetweenSpec)

/-- ITS FALSE NEIGHBOUR: 'it returns false'. Refute it at one input. -/
def fnExactProfileBetweenWrong : ChangeSpec := { name := "fnExactProfileBetween", fn := fun _ => fun
  | [d1, d2, d3] => { results := [.lit (.bool false)], args := [d1, d2, d3] }
  | _ => none }
def FnExactProfileBetweenWrongFalsely : Prop := fnExactProfileBetweenRow.holds Try.pinned (OpenSpec.ofChange fnExactProfileBetweenWrong)

/-- 'laws.FnExactMeetMasks': WHATEVER THE INPUT: true; the input reads as it did. -/
def fnExactMeetMasksSpec : ChangeSpec := { name := "fnExactMeetMasks", fn := fun _ => fun
  | [d1, d2] => { results := [.lit (.bool true)], args := [d1, d2] }
  | _ => none }
def fnExactMeetMasksRow : OpenClaim := { program := "ytdafkebnmmkeeaa", sum := "9987886c5c9e71bf845325a6a9c76ea310053835f28c9e63fb4d228865f91e8a", func := "loop.example/g00925/laws.FnExactMeetMasks", spec := "fnExactMeetMasks", recurses := true, apart := false }
def FnExactMeetMasksSaid : Prop := fnExactMeetMasksRow.holds Try.pinned (OpenSpec.ofChange fnExactMeetMasksSpec)

/-- ITS FALSE NEIGHBOUR: 'it returns false'. Refute it at one input. -/
def fnExactMeetMasksWrong : ChangeSpec := { name := "fnExactMeetMasks", fn := fun _ => fun
  | [d1, d2] => { results := [.lit (.bool false)], args := [d1, d2] }
  | _ => none }
def FnExactMeetMasksWrongFalsely : Prop := fnExactMeetMasksRow.holds Try.pinned (OpenSpec.ofChange fnExactMeetMasksWrong)

/- THE SECOND FORM. 'bulk': how many values and letters a reading holds, each counted each time it is reached (what is shared counts as often as it is met; a slice's spare places count too). A statement '..UptoSaid' is the law's where the arguments, and the package variables that the reading takes, are together of bulk at most 1048576: NARROWER than '..Said'. Prove '..Said' where nothing that the law and all that it calls make is longer than what came in: it says more and counts as full. Else prove '..UptoSaid'. A law counts once. -/
mutual
def uptoBulk {H : Type} : DataW H → Nat
  | .lit (.string bytes) => bytes.length + 1
  | .lit _ => 1
  | .nil => 1
  | .ptr d => uptoBulk d + 1
  | .slice elems spare => uptoBulkAll elems + uptoBulkAll spare + 1
  | .agg parts => uptoBulkAll parts + 1
  | .iface _ d => uptoBulk d + 1
  | .map entries => uptoBulkEntries entries + 1
  | .held _ => 1
def uptoBulkAll {H : Type} : List (DataW H) → Nat
  | [] => 0
  | d :: r => uptoBulk d + uptoBulkAll r
def uptoBulkEntries {H : Type} : List (Lit × DataW H) → Nat
  | [] => 0
  | x :: r => uptoBulkEntry x + uptoBulkEntries r
def uptoBulkEntry {H : Type} : Lit × DataW H → Nat
  | (.string bytes, d) => bytes.length + uptoBulk d + 1
  | (_, d) => uptoBulk d + 1
 end
def uptoSmall : (H : Type) → List (DataW H) → Bool := fun _ ds => decide (uptoBulkAll ds ≤ 1048576)
def OpenSpec.upto (s : _root_.Go.ChangeSpec) : _root_.Go.OpenSpec := { _root_.Go.OpenSpec.ofChange s with cond := some uptoSmall }

/-- 'laws.FnExactBestMode', WHERE WHAT IT READS IS OF BULK AT MOST 1048576: true; the input reads as it did. -/
def fnExactBestModeUptoRow : OpenClaim := { program := "ytdafkebnmmkeeaa", sum := "9987886c5c9e71bf845325a6a9c76ea310053835f28c9e63fb4d228865f91e8a", func := "loop.example/g00925/laws.FnExactBestMode", spec := "fnExactBestMode", apart := false, narrowed := true }
def FnExactBestModeUptoSaid : Prop := fnExactBestModeUptoRow.holds Try.pinned (OpenSpec.upto fnExactBestModeSpec)

/-- 'laws.FnExactLossAtOffset', WHERE WHAT IT READS IS OF BULK AT MOST 1048576: true; the input reads as it did. -/
def fnExactLossAtOffsetUptoRow : OpenClaim := { program := "ytdafkebnmmkeeaa", sum := "9987886c5c9e71bf845325a6a9c76ea310053835f28c9e63fb4d228865f91e8a", func := "loop.example/g00925/laws.FnExactLossAtOffset", spec := "fnExactLossAtOffset", apart := false, narrowed := true }
def FnExactLossAtOffsetUptoSaid : Prop := fnExactLossAtOffsetUptoRow.holds Try.pinned (OpenSpec.upto fnExactLossAtOffsetSpec)

/-- 'laws.FnExactGainToward', WHERE WHAT IT READS IS OF BULK AT MOST 1048576: true; the input reads as it did. -/
def fnExactGainTowardUptoRow : OpenClaim := { program := "ytdafkebnmmkeeaa", sum := "9987886c5c9e71bf845325a6a9c76ea310053835f28c9e63fb4d228865f91e8a", func := "loop.example/g00925/laws.FnExactGainToward", spec := "fnExactGainToward", unfollowed := true, recurses := true, apart := false, narrowed := true }
def FnExactGainTowardUptoSaid : Prop := fnExactGainTowardUptoRow.holds Try.pinned (OpenSpec.upto fnExactGainTowardSpec)

/-- 'laws.FnExactMirrorAntenna', WHERE WHAT IT READS IS OF BULK AT MOST 1048576: true; the input reads as it did. -/
def fnExactMirrorAntennaUptoRow : OpenClaim := { program := "ytdafkebnmmkeeaa", sum := "9987886c5c9e71bf845325a6a9c76ea310053835f28c9e63fb4d228865f91e8a", func := "loop.example/g00925/laws.FnExactMirrorAntenna", spec := "fnExactMirrorAntenna", unfollowed := true, recurses := true, apart := false, narrowed := true }
def FnExactMirrorAntennaUptoSaid : Prop := fnExactMirrorAntennaUptoRow.holds Try.pinned (OpenSpec.upto fnExactMirrorAntennaSpec)

/-- 'laws.FnExactEndHeight', WHERE WHAT IT READS IS OF BULK AT MOST 1048576: true; the input reads as it did. -/
def fnExactEndHeightUptoRow : OpenClaim := { program := "ytdafkebnmmkeeaa", sum := "9987886c5c9e71bf845325a6a9c76ea310053835f28c9e63fb4d228865f91e8a", func := "loop.example/g00925/laws.FnExactEndHeight", spec := "fnExactEndHeight", unfollowed := true, recurses := true, apart := false, narrowed := true }
def FnExactEndHeightUptoSaid : Prop := fnExactEndHeightUptoRow.holds Try.pinned (OpenSpec.upto fnExactEndHeightSpec)

/-- 'laws.FnExactEnvelopeOf', WHERE WHAT IT READS IS OF BULK AT MOST 1048576: true; the input reads as it did. -/
def fnExactEnvelopeOfUptoRow : OpenClaim := { program := "ytdafkebnmmkeeaa", sum := "9987886c5c9e71bf845325a6a9c76ea310053835f28c9e63fb4d228865f91e8a", func := "loop.example/g00925/laws.FnExactEnvelopeOf", spec := "fnExactEnvelopeOf", unfollowed := true, recurses := true, apart := false, narrowed := true }
def FnExactEnvelopeOfUptoSaid : Prop := fnExactEnvelopeOfUptoRow.holds Try.pinned (OpenSpec.upto fnExactEnvelopeOfSpec)

/-- 'laws.FnExactPartProfile', WHERE WHAT IT READS IS OF BULK AT MOST 1048576: true; the input reads as it did. -/
def fnExactPartProfileUptoRow : OpenClaim := { program := "ytdafkebnmmkeeaa", sum := "9987886c5c9e71bf845325a6a9c76ea310053835f28c9e63fb4d228865f91e8a", func := "loop.example/g00925/laws.FnExactPartProfile", spec := "fnExactPartProfile", unfollowed := true, recurses := true, apart := false, narrowed := true }
def FnExactPartProfileUptoSaid : Prop := fnExactPartProfileUptoRow.holds Try.pinned (OpenSpec.upto fnExactPartProfileSpec)

/-- 'laws.FnExactProfileBetween', WHERE WHAT IT READS IS OF BULK AT MOST 1048576: true; the input reads as it did. -/
def fnExactProfileBetweenUptoRow : OpenClaim := { program := "ytdafkebnmmkeeaa", sum := "9987886c5c9e71bf845325a6a9c76ea310053835f28c9e63fb4d228865f91e8a", func := "loop.example/g00925/laws.FnExactProfileBetween", spec := "fnExactProfileBetween", unfollowed := true, recurses := true, apart := false, narrowed := true }
def FnExactProfileBetweenUptoSaid : Prop := fnExactProfileBetweenUptoRow.holds Try.pinned (OpenSpec.upto fnExactProfileBetweenSpec)

/-- 'laws.FnExactMeetMasks', WHERE WHAT IT READS IS OF BULK AT MOST 1048576: true; the input reads as it did. -/
def fnExactMeetMasksUptoRow : OpenClaim := { program := "ytdafkebnmmkeeaa", sum := "9987886c5c9e71bf845325a6a9c76ea310053835f28c9e63fb4d228865f91e8a", func := "loop.example/g00925/laws.FnExactMeetMasks", spec := "fnExactMeetMasks", recurses := true, apart := false, narrowed := true }
def FnExactMeetMasksUptoSaid : Prop := fnExactMeetMasksUptoRow.holds Try.pinned (OpenSpec.upto fnExactMeetMasksSpec)

end Rows
end Go.Proofs.Ytdafkebnmmkeeaa
