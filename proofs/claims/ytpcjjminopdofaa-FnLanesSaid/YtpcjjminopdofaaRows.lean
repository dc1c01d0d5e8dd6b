/-
  No cell of these rows narrows 'for every input' (looked for: loops, veiled, ifaces, maps, wideKeys, modest, calm, conditions, laid).
  DERIVED. THE GIVEN ROWS OF THIS SEAT. 24 by the template 'for every input the law returns true; each argument reads behind the call as it read before'; 0 by the template 'total and deterministic' (their statements: YtpcjjminopdofaaTotals.lean).
  GIVEN WITH THE SEED: the statements are not yours to turn. If you find one false, say at which input.
  Laid BY PROGRAM, IN A SANDBOX (cutbox-rows.mjs): the forced cells as the released guide's own fill.sh prints them over the translation 273b5b2d71796e35… (all of the seat's roots in one cut). By AI agents, Wed Nov 11 2026. No macro, syntax, notation, axiom, sorry.
-/
import Derived.Test.YtpcjjminopdofaaChecked
import GoSem.Claim
import GoSem.ClaimJoined
import GoSem.ClaimMapViews
import Derived.JoinedTies
import Derived.KernelRfl
namespace Go.Proofs.Ytpcjjminopdofaa
/- THE CELL 'sum', in the pinned program and in every row, IS THE sha256 OF THE DUMP (.gsa) THAT YtpcjjminopdofaaProg.lean LOADS. Nothing in Lean hashes anything: it is a label: what it is worth is what the hold of that sum in a sandbox is worth. -/
noncomputable def Try.pinned : Pinned := { name := "ytpcjjminopdofaa", sum := "273b5b2d71796e351c5228269c41a6118af5fab6e69ed96516f3a7b3e6041d64", checked := Try.checked }
namespace Rows
def none {H : Type} : Left H := { results := [], args := [] }

/-- 'laws.FnExactIsMask': WHATEVER THE INPUT: true; the input reads as it did. -/
def fnExactIsMaskSpec : ChangeSpec := { name := "fnExactIsMask", fn := fun _ => fun
  | [d] => { results := [.lit (.bool true)], args := [d] }
  | _ => none }
def fnExactIsMaskRow : OpenClaim := { program := "ytpcjjminopdofaa", sum := "273b5b2d71796e351c5228269c41a6118af5fab6e69ed96516f3a7b3e6041d64", func := "loop.example/g01139/laws.FnExactIsMask", spec := "fnExactIsMask", unfollowed := true, recurses := true, apart := false }
def FnExactIsMaskSaid : Prop := fnExactIsMaskRow.holds Try.pinned (OpenSpec.ofChange fnExactIsMaskSpec)

/-- ITS FALSE NEIGHBOUR: 'it returns false'. Refute it at one input. -/
def fnExactIsMaskWrong : ChangeSpec := { name := "fnExactIsMask", fn := fun _ => fun
  | [d] => { results := [.lit (.bool false)], args := [d] }
  | _ => none }
def FnExactIsMaskWrongFalsely : Prop := fnExactIsMaskRow.holds Try.pinned (OpenSpec.ofChange fnExactIsMaskWrong)

/-- 'laws.FnExactIsVector': WHATEVER THE INPUT: true; the input reads as it did. -/
def fnExactIsVectorSpec : ChangeSpec := { name := "fnExactIsVector", fn := fun _ => fun
  | [d1, d2] => { results := [.lit (.bool true)], args := [d1, d2] }
  | _ => none }
def fnExactIsVectorRow : OpenClaim := { program := "ytpcjjminopdofaa", sum := "273b5b2d71796e351c5228269c41a6118af5fab6e69ed96516f3a7b3e6041d64", func := "loop.example/g01139/laws.FnExactIsVector", spec := "fnExactIsVector", unfollowed := true, recurses := true, apart := false }
def FnExactIsVectorSaid : Prop := fnExactIsVectorRow.holds Try.pinned (OpenSpec.ofChange fnExactIsVectorSpec)

/-- ITS FALSE NEIGHBOUR: 'it returns false'. Refute it at one input. -/
def fnExactIsVectorWrong : ChangeSpec := { name := "fnExactIsVector", fn := fun _ => fun
  | [d1, d2] => { results := [.lit (.bool false)], args := [d1, d2] }
  | _ => none }
def FnExactIsVectorWrongFalsely : Prop := fnExactIsVectorRow.holds Try.pinned (OpenSpec.ofChange fnExactIsVectorWrong)

/-- 'laws.FnExactRampLanes': WHATEVER THE INPUT: true; the input reads as it did. -/
def fnExactRampLanesSpec : ChangeSpec := { name := "fnExactRampLanes", fn := fun _ => fun
  | [d1, d2, d3, d4] => { results := [.lit (.bool true)], args := [d1, d2, d3, d4] }
  | _ => none }
def fnExactRampLanesRow : OpenClaim := { program := "ytpcjjminopdofaa", sum := "273b5b2d71796e351c5228269c41a6118af5fab6e69ed96516f3a7b3e6041d64", func := "loop.example/g01139/laws.FnExactRampLanes", spec := "fnExactRampLanes", unfollowed := true, recurses := true, apart := false }
def FnExactRampLanesSaid : Prop := fnExactRampLanesRow.holds Try.pinned (OpenSpec.ofChange fnExactRampLanesSpec)

/-- ITS FALSE NEIGHBOUR: 'it returns false'. Refute it at one input. -/
def fnExactRampLanesWrong : ChangeSpec := { name := "fnExactRampLanes", fn := fun _ => fun
  | [d1, d2, d3, d4] => { results := [.lit (.bool false)], args := [d1, d2, d3, d4] }
  | _ => none }
def FnExactRampLanesWrongFalsely : Prop := fnExactRampLanesRow.holds Try.pinned (OpenSpec.ofChange fnExactRampLanesWrong)

/-- 'laws.FnExactCountLanes': WHATEVER THE INPUT: true; the input reads as it did. -/
def fnExactCountLanesSpec : ChangeSpec := { name := "fnExactCountLanes", fn := fun _ => fun
  | [d] => { results := [.lit (.bool true)], args := [d] }
  | _ => none }
def fnExactCountLanesRow : OpenClaim := { program := "ytpcjjminopdofaa", sum := "273b5b2d71796e351c5228269c41a6118af5fab6e69ed96516f3a7b3e6041d64", func := "loop.example/g01139/laws.FnExactCountLanes", spec := "fnExactCountLanes", unfollowed := true, recurses := true, apart := false }
def FnExactCountLanesSaid : Prop := fnExactCountLanesRow.holds Try.pinned (OpenSpec.ofChange fnExactCountLanesSpec)

/-- ITS FALSE NEIGHBOUR: 'it returns false'. Refute it at one input. -/
def fnExactCountLanesWrong : ChangeSpec := { name := "fnExactCountLanes", fn := fun _ => fun
  | [d] => { results := [.lit (.bool false)], args := [d] }
  | _ => none }
def FnExactCountLanesWrongFalsely : Prop := fnExactCountLanesRow.holds Try.pinned (OpenSpec.ofChange fnExactCountLanesWrong)

/-- 'laws.FnExactFirstLane': WHATEVER THE INPUT: true; the input reads as it did. -/
def fnExactFirstLaneSpec : ChangeSpec := { name := "fnExactFirstLane", fn := fun _ => fun
  | [d] => { results := [.lit (.bool true)], args := [d] }
  | _ => none }
def fnExactFirstLaneRow : OpenClaim := { program := "ytpcjjminopdofaa", sum := "273b5b2d71796e351c5228269c41a6118af5fab6e69ed96516f3a7b3e6041d64", func := "loop.example/g01139/laws.FnExactFirstLane", spec := "fnExactFirstLane", unfollowed := true, recurses := true, apart := false }
def FnExactFirstLaneSaid : Prop := fnExactFirstLaneRow.holds Try.pinned (OpenSpec.ofChange fnExactFirstLaneSpec)

/-- ITS FALSE NEIGHBOUR: 'it returns false'. Refute it at one input. -/
def fnExactFirstLaneWrong : ChangeSpec := { name := "fnExactFirstLane", fn := fun _ => fun
  | [d] => { results := [.lit (.bool false)], args := [d] }
  | _ => none }
def FnExactFirstLaneWrongFalsely : Prop := fnExactFirstLaneRow.holds Try.pinned (OpenSpec.ofChange fnExactFirstLaneWrong)

/-- 'laws.FnExactConflictsOf': WHATEVER THE INPUT: true; the input reads as it did. -/
def fnExactConflictsOfSpec : ChangeSpec := { name := "fnExactConflictsOf", fn := fun _ => fun
  | [d] => { results := [.lit (.bool true)], args := [d] }
  | _ => none }
def fnExactConflictsOfRow : OpenClaim := { program := "ytpcjjminopdofaa", sum := "273b5b2d71796e351c5228269c41a6118af5fab6e69ed96516f3a7b3e6041d64", func := "loop.example/g01139/laws.FnExactConflictsOf", spec := "fnExactConflictsOf", unfollowed := true, recurses := true, apart := false }
def FnExactConflictsOfSaid : Prop := fnExactConflictsOfRow.holds Try.pinned (OpenSpec.ofChange fnExactConflictsOfSpec)

/-- ITS FALSE NEIGHBOUR: 'it returns false'. Refute it at one input. -/
def fnExactConflictsOfWrong : ChangeSpec := { name := "fnExactConflictsOf", fn := fun _ => fun
  | [d] => { results := [.lit (.bool false)], args := [d] }
  | _ => none }
def FnExactConflictsOfWrongFalsely : Prop := fnExactConflictsOfRow.holds Try.pinned (OpenSpec.ofChange fnExactConflictsOfWrong)

/-- 'laws.FnExactSlideLanes': WHATEVER THE INPUT: true; the input reads as it did. -/
def fnExactSlideLanesSpec : ChangeSpec := { name := "fnExactSlideLanes", fn := fun _ => fun
  | [d1, d2, d3, d4] => { results := [.lit (.bool true)], args := [d1, d2, d3, d4] }
  | _ => none }
def fnExactSlideLanesRow : OpenClaim := { program := "ytpcjjminopdofaa", sum := "273b5b2d71796e351c5228269c41a6118af5fab6e69ed96516f3a7b3e6041d64", func := "loop.example/g01139/laws.FnExactSlideLanes", spec := "fnExactSlideLanes", unfollowed := true, recurses := true, apart := false }
def FnExactSlideLanesSaid : Prop := fnExactSlideLanesRow.holds Try.pinned (OpenSpec.ofChange fnExactSlideLanesSpec)

/-- ITS FALSE NEIGHBOUR: 'it returns false'. Refute it at one input. -/
def fnExactSlideLanesWrong : ChangeSpec := { name := "fnExactSlideLanes", fn := fun _ => fun
  | [d1, d2, d3, d4] => { results := [.lit (.bool false)], args := [d1, d2, d3, d4] }
  | _ => none }
def FnExactSlideLanesWrongFalsely : Prop := fnExactSlideLanesRow.holds Try.pinned (OpenSpec.ofChange fnExactSlideLanesWrong)

/-- 'laws.FnExactExpandLanes': WHATEVER THE INPUT: true; the input reads as it did. -/
def fnExactExpandLanesSpec : ChangeSpec := { name := "fnExactExpandLanes", fn := fun _ => fun
  | [d1, d2, d3] => { results := [.lit (.bool true)], args := [d1, d2, d3] }
  | _ => none }
def fnExactExpandLanesRow : OpenClaim := { program := "ytpcjjminopdofaa", sum := "273b5b2d71796e351c5228269c41a6118af5fab6e69ed96516f3a7b3e6041d64", func := "loop.example/g01139/laws.FnExactExpandLanes", spec := "fnExactExpandLanes", unfollowed := true, recurses := true, apart := false }
def FnExactExpandLanesSaid : Prop := fnExactExpandLanesRow.holds Try.pinned (OpenSpec.ofChange fnExactExpandLanesSpec)

/-- ITS FALSE NEIGHBOUR: 'it returns false'. Refute it at one input. -/
def fnExactExpandLanesWrong : ChangeSpec := { name := "fnExactExpandLanes", fn := fun _ => fun
  | [d1, d2, d3] => { results := [.lit (.bool false)], args := [d1, d2, d3] }
  | _ => none }
def FnExactExpandLanesWrongFalsely : Prop := fnExactExpandLanesRow.holds Try.pinned (OpenSpec.ofChange fnExactExpandLanesWrong)

/-- 'laws.FnExactCompressLanes': WHATEVER THE INPUT: true; the input reads as it did. -/
def fnExactCompressLanesSpec : ChangeSpec := { name := "fnExactCompressLanes", fn := fun _ => fun
  | [d1, d2, d3] => { results := [.lit (.bool true)], args := [d1, d2, d3] }
  | _ => none }
def fnExactCompressLanesRow : OpenClaim := { program := "ytpcjjminopdofaa", sum := "273b5b2d71796e351c5228269c41a6118af5fab6e69ed96516f3a7b3e6041d64", func := "loop.example/g01139/laws.FnExactCompressLanes", spec := "fnExactCompressLanes", unfollowed := true, recurses := true, apart := false }
def FnExactCompressLanesSaid : Prop := fnExactCompressLanesRow.holds Try.pinned (OpenSpec.ofChange fnExactCompressLanesSpec)

/-- ITS FALSE NEIGHBOUR: 'it returns false'. Refute it at one input. -/
def fnExactCompressLanesWrong : ChangeSpec := { name := "fnExactCompressLanes", fn := fun _ => fun
  | [d1, d2, d3] => { results := [.lit (.bool false)], args := [d1, d2, d3] }
  | _ => none }
def FnExactCompressLanesWrongFalsely : Prop := fnExactCompressLanesRow.holds Try.pinned (OpenSpec.ofChange fnExactCompressLanesWrong)

/-- 'laws.FnExactInterleaveLanes': WHATEVER THE INPUT: true; the input reads as it did. -/
def fnExactInterleaveLanesSpec : ChangeSpec := { name := "fnExactInterleaveLanes", fn := fun _ => fun
  | [d1, d2, d3] => { results := [.lit (.bool true)], args := [d1, d2, d3] }
  | _ => none }
def fnExactInterleaveLanesRow : OpenClaim := { program := "ytpcjjminopdofaa", sum := "273b5b2d71796e351c5228269c41a6118af5fab6e69ed96516f3a7b3e6041d64", func := "loop.example/g01139/laws.FnExactInterleaveLanes", spec := "fnExactInterleaveLanes", unfollowed := true, recurses := true, apart := false }
def FnExactInterleaveLanesSaid : Prop := fnExactInterleaveLanesRow.holds Try.pinned (OpenSpec.ofChange fnExactInterleaveLanesSpec)

/-- ITS FALSE NEIGHBOUR: 'it returns false'. Refute it at one input. -/
def fnExactInterleaveLanesWrong : ChangeSpec := { name := "fnExactInterleaveLanes", fn := fun _ => fun
  | [d1, d2, d3] => { results := [.lit (.bool false)], args := [d1, d2, d3] }
  | _ => none }
def FnExactInterleaveLanesWrongFalsely : Prop := fnExactInterleaveLanesRow.holds Try.pinned (OpenSpec.ofChange fnExactInterleaveLanesWrong)

/-- 'laws.FnExactDeinterleaveLanes': WHATEVER THE INPUT: true; the input reads as it did. -/
def fnExactDeinterleaveLanesSpec : ChangeSpec := { name := "fnExactDeinterleaveLanes", fn := fun _ => fun
  | [d1, d2, d3] => { results := [.lit (.bool true)], args := [d1, d2, d3] }
  | _ => none }
def fnExactDeinterleaveLanesRow : OpenClaim := { program := "ytpcjjminopdofaa", sum := "273b5b2d71796e351c5228269c41a6118af5fab6e69ed96516f3a7b3e6041d64", func := "loop.example/g01139/laws.FnExactDeinterleaveLanes", spec := "fnExactDeinterleaveLanes", unfollowed := true, recurses := true, apart := false }
def FnExactDeinterleaveLanesSaid : Prop := fnExactDeinterleaveLanesRow.holds Try.pinned (OpenSpec.ofChange fnExactDeinterleaveLanesSpec)

/-- ITS FALSE NEIGHBOUR: 'it returns false'. Refute it at one input. -/
def fnExactDeinterleaveLanesWrong : ChangeSpec := { name := "fnExactDeinterleaveLanes", fn := fun _ => fun
  | [d1, d2, d3] => { results := [.lit (.bool false)], args := [d1, d2, d3] }
  | _ => none }
def FnExactDeinterleaveLanesWrongFalsely : Prop := fnExactDeinterleaveLanesRow.holds Try.pinned (OpenSpec.ofChange fnExactDeinterleaveLanesWrong)

/-- 'laws.FnExactSelectLanes': WHATEVER THE INPUT: true; the input reads as it did. -/
def fnExactSelectLanesSpec : ChangeSpec := { name := "fnExactSelectLanes", fn := fun _ => fun
  | [d1, d2, d3, d4] => { results := [.lit (.bool true)], args := [d1, d2, d3, d4] }
  | _ => none }
def fnExactSelectLanesRow : OpenClaim := { program := "ytpcjjminopdofaa", sum := "273b5b2d71796e351c5228269c41a6118af5fab6e69ed96516f3a7b3e6041d64", func := "loop.example/g01139/laws.FnExactSelectLanes", spec := "fnExactSelectLanes", unfollowed := true, recurses := true, apart := false }
def FnExactSelectLanesSaid : Prop := fnExactSelectLanesRow.holds Try.pinned (OpenSpec.ofChange fnExactSelectLanesSpec)

/-- ITS FALSE NEIGHBOUR: 'it returns false'. Refute it at one input. -/
def fnExactSelectLanesWrong : ChangeSpec := { name := "fnExactSelectLanes", fn := fun _ => fun
  | [d1, d2, d3, d4] => { results := [.lit (.bool false)], args := [d1, d2, d3, d4] }
  | _ => none }
def FnExactSelectLanesWrongFalsely : Prop := fnExactSelectLanesRow.holds Try.pinned (OpenSpec.ofChange fnExactSelectLanesWrong)

/-- 'laws.FnExactWidenLanes': WHATEVER THE INPUT: true; the input reads as it did. -/
def fnExactWidenLanesSpec : ChangeSpec := { name := "fnExactWidenLanes", fn := fun _ => fun
  | [d1, d2, d3] => { results := [.lit (.bool true)], args := [d1, d2, d3] }
  | _ => none }
def fnExactWidenLanesRow : OpenClaim := { program := "ytpcjjminopdofaa", sum := "273b5b2d71796e351c5228269c41a6118af5fab6e69ed96516f3a7b3e6041d64", func := "loop.example/g01139/laws.FnExactWidenLanes", spec := "fnExactWidenLanes", unfollowed := true, recurses := true, apart := false }
def FnExactWidenLanesSaid : Prop := fnExactWidenLanesRow.holds Try.pinned (OpenSpec.ofChange fnExactWidenLanesSpec)

/-- ITS FALSE NEIGHBOUR: 'it returns false'. Refute it at one input. -/
def fnExactWidenLanesWrong : ChangeSpec := { name := "fnExactWidenLanes", fn := fun _ => fun
  | [d1, d2, d3] => { results := [.lit (.bool false)], args := [d1, d2, d3] }
  | _ => none }
def FnExactWidenLanesWrongFalsely : Prop := fnExactWidenLanesRow.holds Try.pinned (OpenSpec.ofChange fnExactWidenLanesWrong)

/-- 'laws.FnExactCompareLanes': WHATEVER THE INPUT: true; the input reads as it did. -/
def fnExactCompareLanesSpec : ChangeSpec := { name := "fnExactCompareLanes", fn := fun _ => fun
  | [d1, d2, d3, d4] => { results := [.lit (.bool true)], args := [d1, d2, d3, d4] }
  | _ => none }
def fnExactCompareLanesRow : OpenClaim := { program := "ytpcjjminopdofaa", sum := "273b5b2d71796e351c5228269c41a6118af5fab6e69ed96516f3a7b3e6041d64", func := "loop.example/g01139/laws.FnExactCompareLanes", spec := "fnExactCompareLanes", unfollowed := true, recurses := true, apart := false }
def FnExactCompareLanesSaid : Prop := fnExactCompareLanesRow.holds Try.pinned (OpenSpec.ofChange fnExactCompareLanesSpec)

/-- ITS FALSE NEIGHBOUR: 'it returns false'. Refute it at one input. -/
def fnExactCompareLanesWrong : ChangeSpec := { name := "fnExactCompareLanes", fn := fun _ => fun
  | [d1, d2, d3, d4] => { results := [.lit (.bool false)], args := [d1, d2, d3, d4] }
  | _ => none }
def FnExactCompareLanesWrongFalsely : Prop := fnExactCompareLanesRow.holds Try.pinned (OpenSpec.ofChange fnExactCompareLanesWrong)

/-- 'laws.FnExactNarrowLanes': WHATEVER THE INPUT: true; the input reads as it did. -/
def fnExactNarrowLanesSpec : ChangeSpec := { name := "fnExactNarrowLanes", fn := fun _ => fun
  | [d1, d2, d3, d4] => { results := [.lit (.bool true)], args := [d1, d2, d3, d4] }
  | _ => none }
def fnExactNarrowLanesRow : OpenClaim := { program := "ytpcjjminopdofaa", sum := "273b5b2d71796e351c5228269c41a6118af5fab6e69ed96516f3a7b3e6041d64", func := "loop.example/g01139/laws.FnExactNarrowLanes", spec := "fnExactNarrowLanes", unfollowed := true, recurses := true, apart := false }
def FnExactNarrowLanesSaid : Prop := fnExactNarrowLanesRow.holds Try.pinned (OpenSpec.ofChange fnExactNarrowLanesSpec)

/-- ITS FALSE NEIGHBOUR: 'it returns false'. Refute it at one input. -/
def fnExactNarrowLanesWrong : ChangeSpec := { name := "fnExactNarrowLanes", fn := fun _ => fun
  | [d1, d2, d3, d4] => { results := [.lit (.bool false)], args := [d1, d2, d3, d4] }
  | _ => none }
def FnExactNarrowLanesWrongFalsely : Prop := fnExactNarrowLanesRow.holds Try.pinned (OpenSpec.ofChange fnExactNarrowLanesWrong)

/-- 'laws.FnExactReduceLanes': WHATEVER THE INPUT: true; the input reads as it did. -/
def fnExactReduceLanesSpec : ChangeSpec := { name := "fnExactReduceLanes", fn := fun _ => fun
  | [d1, d2, d3] => { results := [.lit (.bool true)], args := [d1, d2, d3] }
  | _ => none }
def fnExactReduceLanesRow : OpenClaim := { program := "ytpcjjminopdofaa", sum := "273b5b2d71796e351c5228269c41a6118af5fab6e69ed96516f3a7b3e6041d64", func := "loop.example/g01139/laws.FnExactReduceLanes", spec := "fnExactReduceLanes", unfollowed := true, recurses := true, apart := false }
def FnExactReduceLanesSaid : Prop := fnExactReduceLanesRow.holds Try.pinned (OpenSpec.ofChange fnExactReduceLanesSpec)

/-- ITS FALSE NEIGHBOUR: 'it returns false'. Refute it at one input. -/
def fnExactReduceLanesWrong : ChangeSpec := { name := "fnExactReduceLanes", fn := fun _ => fun
  | [d1, d2, d3] => { results := [.lit (.bool false)], args := [d1, d2, d3] }
  | _ => none }
def FnExactReduceLanesWrongFalsely : Prop := fnExactReduceLanesRow.holds Try.pinned (OpenSpec.ofChange fnExactReduceLanesWrong)

/-- 'laws.FnExactScanLanes': WHATEVER THE INPUT: true; the input reads as it did. -/
def fnExactScanLanesSpec : ChangeSpec := { name := "fnExactScanLanes", fn := fun _ => fun
  | [d1, d2, d3] => { results := [.lit (.bool true)], args := [d1, d2, d3] }
  | _ => none }
def fnExactScanLanesRow : OpenClaim := { program := "ytpcjjminopdofaa", sum := "273b5b2d71796e351c5228269c41a6118af5fab6e69ed96516f3a7b3e6041d64", func := "loop.example/g01139/laws.FnExactScanLanes", spec := "fnExactScanLanes", unfollowed := true, recurses := true, apart := false }
def FnExactScanLanesSaid : Prop := fnExactScanLanesRow.holds Try.pinned (OpenSpec.ofChange fnExactScanLanesSpec)

/-- ITS FALSE NEIGHBOUR: 'it returns false'. Refute it at one input. -/
def fnExactScanLanesWrong : ChangeSpec := { name := "fnExactScanLanes", fn := fun _ => fun
  | [d1, d2, d3] => { results := [.lit (.bool false)], args := [d1, d2, d3] }
  | _ => none }
def FnExactScanLanesWrongFalsely : Prop := fnExactScanLanesRow.holds Try.pinned (OpenSpec.ofChange fnExactScanLanesWrong)

/-- 'laws.FnExactLaneWise': WHATEVER THE INPUT: true; the input reads as it did. -/
def fnExactLaneWiseSpec : ChangeSpec := { name := "fnExactLaneWise", fn := fun _ => fun
  | [d1, d2, d3, d4] => { results := [.lit (.bool true)], args := [d1, d2, d3, d4] }
  | _ => none }
def fnExactLaneWiseRow : OpenClaim := { program := "ytpcjjminopdofaa", sum := "273b5b2d71796e351c5228269c41a6118af5fab6e69ed96516f3a7b3e6041d64", func := "loop.example/g01139/laws.FnExactLaneWise", spec := "fnExactLaneWise", unfollowed := true, recurses := true, apart := false }
def FnExactLaneWiseSaid : Prop := fnExactLaneWiseRow.holds Try.pinned (OpenSpec.ofChange fnExactLaneWiseSpec)

/-- ITS FALSE NEIGHBOUR: 'it returns false'. Refute it at one input. -/
def fnExactLaneWiseWrong : ChangeSpec := { name := "fnExactLaneWise", fn := fun _ => fun
  | [d1, d2, d3, d4] => { results := [.lit (.bool false)], args := [d1, d2, d3, d4] }
  | _ => none }
def FnExactLaneWiseWrongFalsely : Prop := fnExactLaneWiseRow.holds Try.pinned (OpenSpec.ofChange fnExactLaneWiseWrong)

/-- 'laws.FnExactStepScan': WHATEVER THE INPUT: true; the input reads as it did. -/
def fnExactStepScanSpec : ChangeSpec := { name := "fnExactStepScan", fn := fun _ => fun
  | [d1, d2, d3] => { results := [.lit (.bool true)], args := [d1, d2, d3] }
  | _ => none }
def fnExactStepScanRow : OpenClaim := { program := "ytpcjjminopdofaa", sum := "273b5b2d71796e351c5228269c41a6118af5fab6e69ed96516f3a7b3e6041d64", func := "loop.example/g01139/laws.FnExactStepScan", spec := "fnExactStepScan", unfollowed := true, recurses := true, apart := false }
def FnExactStepScanSaid : Prop := fnExactStepScanRow.holds Try.pinned (OpenSpec.ofChange fnExactStepScanSpec)

/-- ITS FALSE NEIGHBOUR: 'it returns false'. Refute it at one input. -/
def fnExactStepScanWrong : ChangeSpec := { name := "fnExactStepScan", fn := fun _ => fun
  | [d1, d2, d3] => { results := [.lit (.bool false)], args := [d1, d2, d3] }
  | _ => none }
def FnExactStepScanWrongFalsely : Prop := fnExactStepScanRow.holds Try.pinned (OpenSpec.ofChange fnExactStepScanWrong)

/-- 'laws.FnExactLaneWiseMasked': WHATEVER THE INPUT: true; the input reads as it did. -/
def fnExactLaneWiseMaskedSpec : ChangeSpec := { name := "fnExactLaneWiseMasked", fn := fun _ => fun
  | [d1, d2, d3, d4, d5, d6] => { results := [.lit (.bool true)], args := [d1, d2, d3, d4, d5, d6] }
  | _ => none }
def fnExactLaneWiseMaskedRow : OpenClaim := { program := "ytpcjjminopdofaa", sum := "273b5b2d71796e351c5228269c41a6118af5fab6e69ed96516f3a7b3e6041d64", func := "loop.example/g01139/laws.FnExactLaneWiseMasked", spec := "fnExactLaneWiseMasked", unfollowed := true, recurses := true, apart := false }
def FnExactLaneWiseMaskedSaid : Prop := fnExactLaneWiseMaskedRow.holds Try.pinned (OpenSpec.ofChange fnExactLaneWiseMaskedSpec)

/-- ITS FALSE NEIGHBOUR: 'it returns false'. Refute it at one input. -/
def fnExactLaneWiseMaskedWrong : ChangeSpec := { name := "fnExactLaneWiseMasked", fn := fun _ => fun
  | [d1, d2, d3, d4, d5, d6] => { results := [.lit (.bool false)], args := [d1, d2, d3, d4, d5, d6] }
  | _ => none }
def FnExactLaneWiseMaskedWrongFalsely : Prop := fnExactLaneWiseMaskedRow.holds Try.pinned (OpenSpec.ofChange fnExactLaneWiseMaskedWrong)

/-- 'laws.FnTurns': WHATEVER THE INPUT: true; the input reads as it did. -/
def fnTurnsSpec : ChangeSpec := { name := "fnTurns", fn := fun _ => fun
  | [d1, d2] => { results := [.lit (.bool true)], args := [d1, d2] }
  | _ => none }
def fnTurnsRow : OpenClaim := { program := "ytpcjjminopdofaa", sum := "273b5b2d71796e351c5228269c41a6118af5fab6e69ed96516f3a7b3e6041d64", func := "loop.example/g01139/laws.FnTurns", spec := "fnTurns", unfollowed := true, recurses := true, apart := false }
def FnTurnsSaid : Prop := fnTurnsRow.holds Try.pinned (OpenSpec.ofChange fnTurnsSpec)

/-- ITS FALSE NEIGHBOUR: 'it returns false'. Refute it at one input. -/
def fnTurnsWrong : ChangeSpec := { name := "fnTurns", fn := fun _ => fun
  | [d1, d2] => { results := [.lit (.bool false)], args := [d1, d2] }
  | _ => none }
def FnTurnsWrongFalsely : Prop := fnTurnsRow.holds Try.pinned (OpenSpec.ofChange fnTurnsWrong)

/-- 'laws.FnWidened': WHATEVER THE INPUT: true; the input reads as it did. -/
def fnWidenedSpec : ChangeSpec := { name := "fnWidened", fn := fun _ => fun
  | [d1, d2] => { results := [.lit (.bool true)], args := [d1, d2] }
  | _ => none }
def fnWidenedRow : OpenClaim := { program := "ytpcjjminopdofaa", sum := "273b5b2d71796e351c5228269c41a6118af5fab6e69ed96516f3a7b3e6041d64", func := "loop.example/g01139/laws.FnWidened", spec := "fnWidened", unfollowed := true, recurses := true, apart := false }
def FnWidenedSaid : Prop := fnWidenedRow.holds Try.pinned (OpenSpec.ofChange fnWidenedSpec)

/-- ITS FALSE NEIGHBOUR: 'it returns false'. Refute it at one input. -/
def fnWidenedWrong : ChangeSpec := { name := "fnWidened", fn := fun _ => fun
  | [d1, d2] => { results := [.lit (.bool false)], args := [d1, d2] }
  | _ => none }
def FnWidenedWrongFalsely : Prop := fnWidenedRow.holds Try.pinned (OpenSpec.ofChange fnWidenedWrong)

/-- 'laws.FnScans': WHATEVER THE INPUT: true; the input reads as it did. -/
def fnScansSpec : ChangeSpec := { name := "fnScans", fn := fun _ => fun
  | [d1, d2] => { results := [.lit (.bool true)], args := [d1, d2] }
  | _ => none }
def fnScansRow : OpenClaim := { program := "ytpcjjminopdofaa", sum := "273b5b2d71796e351c5228269c41a6118af5fab6e69ed96516f3a7b3e6041d64", func := "loop.example/g01139/laws.FnScans", spec := "fnScans", unfollowed := true, recurses := true, apart := false }
def FnScansSaid : Prop := fnScansRow.holds Try.pinned (OpenSpec.ofChange fnScansSpec)

/-- ITS FALSE NEIGHBOUR: 'it returns false'. Refute it at one input. -/
def fnScansWrong : ChangeSpec := { name := "fnScans", fn := fun _ => fun
  | [d1, d2] => { results := [.lit (.bool false)], args := [d1, d2] }
  | _ => none }
def FnScansWrongFalsely : Prop := fnScansRow.holds Try.pinned (OpenSpec.ofChange fnScansWrong)

/-- 'laws.FnLanes': WHATEVER THE INPUT: true; the input reads as it did. -/
def fnLanesSpec : ChangeSpec := { name := "fnLanes", fn := fun _ => fun
  | [d1, d2] => { results := [.lit (.bool true)], args := [d1, d2] }
  | _ => none }
def fnLanesRow : OpenClaim := { program := "ytpcjjminopdofaa", sum := "273b5b2d71796e351c5228269c41a6118af5fab6e69ed96516f3a7b3e6041d64", func := "loop.example/g01139/laws.FnLanes", spec := "fnLanes", unfollowed := true, recurses := true, apart := false }
def FnLanesSaid : Prop := fnLanesRow.holds Try.pinned (OpenSpec.ofChange fnLanesSpec)

/-- ITS FALSE NEIGHBOUR: 'it returns false'. Refute it at one input. -/
def fnLanesWrong : ChangeSpec := { name := "fnLanes", fn := fun _ => fun
  | [d1, d2] => { results := [.lit (.bool false)], args := [d1, d2] }
  | _ => none }
def FnLanesWrongFalsely : Prop := fnLanesRow.holds Try.pinned (OpenSpec.ofChange fnLanesWrong)

/- THE SECOND FORM. 'bulk': how many values and letters a reading holds, each counted each time it is reached (what is shared counts as often as it is met; a slice's spare places count too). A statement '..UptoSaid' is the law's where the arguments, and the package variables that the reading takes, are together of bulk at most 1048576: NARROWER than '..Said'. Prove '..Said' where nothing that the law and all that it calls make is longer than what came in: it says more and counts as full. Else prove '..UptoSaid'. A law counts once. -/
mutual
def uptoBulk {H : Type} : DataW H → Nat
  | .lit (.string bytes) => bytes.length + 1
  | .lit _ => 1
  | .nil => 1
  | .ptr d => uptoBulk d + 1
  | .slice elems spare => uptoBulkAll elems + uptoBulkAll spare + 1
  | .agg parts => uptoBulkAll parts + 1
  | .iface _ d => uptoBulk d + 1
  | .map entries => uptoBulkEntries entries + 1
  | .held _ => 1
def uptoBulkAll {H : Type} : List (DataW H) → Nat
  | [] => 0
  | d :: r => uptoBulk d + uptoBulkAll r
def uptoBulkEntries {H : Type} : List (Lit × DataW H) → Nat
  | [] => 0
  | x :: r => uptoBulkEntry x + uptoBulkEntries r
def uptoBulkEntry {H : Type} : Lit × DataW H → Nat
  | (.string bytes, d) => bytes.length + uptoBulk d + 1
  | (_, d) => uptoBulk d + 1
 end
def uptoSmall : (H : Type) → List (DataW H) → Bool := fun _ ds => decide (uptoBulkAll ds ≤ 1048576)
def OpenSpec.upto (s : _root_.Go.ChangeSpec) : _root_.Go.OpenSpec := { _root_.Go.OpenSpec.ofChange s with cond := some uptoSmall }

/-- 'laws.FnExactIsMask', WHERE WHAT IT READS IS OF BULK AT MOST 1048576: true; the input reads as it did. -/
def fnExactIsMaskUptoRow : OpenClaim := { program := "ytpcjjminopdofaa", sum := "273b5b2d71796e351c5228269c41a6118af5fab6e69ed96516f3a7b3e6041d64", func := "loop.example/g01139/laws.FnExactIsMask", spec := "fnExactIsMask", unfollowed := true, recurses := true, apart := false, narrowed := true }
def FnExactIsMaskUptoSaid : Prop := fnExactIsMaskUptoRow.holds Try.pinned (OpenSpec.upto fnExactIsMaskSpec)

/-- 'laws.FnExactIsVector', WHERE WHAT IT READS IS OF BULK AT MOST 1048576: true; the input reads as it did. -/
def fnExactIsVectorUptoRow : OpenClaim := { program := "ytpcjjminopdofaa", sum := "273b5b2d71796e351c5228269c41a6118af5fab6e69ed96516f3a7b3e6041d64", func := "loop.example/g01139/laws.FnExactIsVector", spec := "fnExactIsVector", unfollowed := true, recurses := true, apart := false, narrowed := true }
def FnExactIsVectorUptoSaid : Prop := fnExactIsVectorUptoRow.holds Try.pinned (OpenSpec.upto fnExactIsVectorSpec)

/-- 'laws.FnExactRampLanes', WHERE WHAT IT READS IS OF BULK AT MOST 1048576: true; the input reads as it did. -/
def fnExactRampLanesUptoRow : OpenClaim := { program := "ytpcjjminopdofaa", sum := "273b5b2d71796e351c5228269c41a6118af5fab6e69ed96516f3a7b3e6041d64", func := "loop.example/g01139/laws.FnExactRampLanes", spec := "fnExactRampLanes", unfollowed := true, recurses := true, apart := false, narrowed := true }
def FnExactRampLanesUptoSaid : Prop := fnExactRampLanesUptoRow.holds Try.pinned (OpenSpec.upto fnExactRampLanesSpec)

/-- 'laws.FnExactCountLanes', WHERE WHAT IT READS IS OF BULK AT MOST 1048576: true; the input reads as it did. -/
def fnExactCountLanesUptoRow : OpenClaim := { program := "ytpcjjminopdofaa", sum := "273b5b2d71796e351c5228269c41a6118af5fab6e69ed96516f3a7b3e6041d64", func := "loop.example/g01139/laws.FnExactCountLanes", spec := "fnExactCountLanes", unfollowed := true, recurses := true, apart := false, narrowed := true }
def FnExactCountLanesUptoSaid : Prop := fnExactCountLanesUptoRow.holds Try.pinned (OpenSpec.upto fnExactCountLanesSpec)

/-- 'laws.FnExactFirstLane', WHERE WHAT IT READS IS OF BULK AT MOST 1048576: true; the input reads as it did. -/
def fnExactFirstLaneUptoRow : OpenClaim := { program := "ytpcjjminopdofaa", sum := "273b5b2d71796e351c5228269c41a6118af5fab6e69ed96516f3a7b3e6041d64", func := "loop.example/g01139/laws.FnExactFirstLane", spec := "fnExactFirstLane", unfollowed := true, recurses := true, apart := false, narrowed := true }
def FnExactFirstLaneUptoSaid : Prop := fnExactFirstLaneUptoRow.holds Try.pinned (OpenSpec.upto fnExactFirstLaneSpec)

/-- 'laws.FnExactConflictsOf', WHERE WHAT IT READS IS OF BULK AT MOST 1048576: true; the input reads as it did. -/
def fnExactConflictsOfUptoRow : OpenClaim := { program := "ytpcjjminopdofaa", sum := "273b5b2d71796e351c5228269c41a6118af5fab6e69ed96516f3a7b3e6041d64", func := "loop.example/g01139/laws.FnExactConflictsOf", spec := "fnExactConflictsOf", unfollowed := true, recurses := true, apart := false, narrowed := true }
def FnExactConflictsOfUptoSaid : Prop := fnExactConflictsOfUptoRow.holds Try.pinned (OpenSpec.upto fnExactConflictsOfSpec)

/-- 'laws.FnExactSlideLanes', WHERE WHAT IT READS IS OF BULK AT MOST 1048576: true; the input reads as it did. -/
def fnExactSlideLanesUptoRow : OpenClaim := { program := "ytpcjjminopdofaa", sum := "273b5b2d71796e351c5228269c41a6118af5fab6e69ed96516f3a7b3e6041d64", func := "loop.example/g01139/laws.FnExactSlideLanes", spec := "fnExactSlideLanes", unfollowed := true, recurses := true, apart := false, narrowed := true }
def FnExactSlideLanesUptoSaid : Prop := fnExactSlideLanesUptoRow.holds Try.pinned (OpenSpec.upto fnExactSlideLanesSpec)

/-- 'laws.FnExactExpandLanes', WHERE WHAT IT READS IS OF BULK AT MOST 1048576: true; the input reads as it did. -/
def fnExactExpandLanesUptoRow : OpenClaim := { program := "ytpcjjminopdofaa", sum := "273b5b2d71796e351c5228269c41a6118af5fab6e69ed96516f3a7b3e6041d64", func := "loop.example/g01139/laws.FnExactExpandLanes", spec := "fnExactExpandLanes", unfollowed := true, recurses := true, apart := false, narrowed := true }
def FnExactExpandLanesUptoSaid : Prop := fnExactExpandLanesUptoRow.holds Try.pinned (OpenSpec.upto fnExactExpandLanesSpec)

/-- 'laws.FnExactCompressLanes', WHERE WHAT IT READS IS OF BULK AT MOST 1048576: true; the input reads as it did. -/
def fnExactCompressLanesUptoRow : OpenClaim := { program := "ytpcjjminopdofaa", sum := "273b5b2d71796e351c5228269c41a6118af5fab6e69ed96516f3a7b3e6041d64", func := "loop.example/g01139/laws.FnExactCompressLanes", spec := "fnExactCompressLanes", unfollowed := true, recurses := true, apart := false, narrowed := true }
def FnExactCompressLanesUptoSaid : Prop := fnExactCompressLanesUptoRow.holds Try.pinned (OpenSpec.upto fnExactCompressLanesSpec)

/-- 'laws.FnExactInterleaveLanes', WHERE WHAT IT READS IS OF BULK AT MOST 1048576: true; the input reads as it did. -/
def fnExactInterleaveLanesUptoRow : OpenClaim := { program := "ytpcjjminopdofaa", sum := "273b5b2d71796e351c5228269c41a6118af5fab6e69ed96516f3a7b3e6041d64", func := "loop.example/g01139/laws.FnExactInterleaveLanes", spec := "fnExactInterleaveLanes", unfollowed := true, recurses := true, apart := false, narrowed := true }
def FnExactInterleaveLanesUptoSaid : Prop := fnExactInterleaveLanesUptoRow.holds Try.pinned (OpenSpec.upto fnExactInterleaveLanesSpec)

/-- 'laws.FnExactDeinterleaveLanes', WHERE WHAT IT READS IS OF BULK AT MOST 1048576: true; the input reads as it did. -/
def fnExactDeinterleaveLanesUptoRow : OpenClaim := { program := "ytpcjjminopdofaa", sum := "273b5b2d71796e351c5228269c41a6118af5fab6e69ed96516f3a7b3e6041d64", func := "loop.example/g01139/laws.FnExactDeinterleaveLanes", spec := "fnExactDeinterleaveLanes", unfollowed := true, recurses := true, apart := false, narrowed := true }
def FnExactDeinterleaveLanesUptoSaid : Prop := fnExactDeinterleaveLanesUptoRow.holds Try.pinned (OpenSpec.upto fnExactDeinterleaveLanesSpec)

/-- 'laws.FnExactSelectLanes', WHERE WHAT IT READS IS OF BULK AT MOST 1048576: true; the input reads as it did. -/
def fnExactSelectLanesUptoRow : OpenClaim := { program := "ytpcjjminopdofaa", sum := "273b5b2d71796e351c5228269c41a6118af5fab6e69ed96516f3a7b3e6041d64", func := "loop.example/g01139/laws.FnExactSelectLanes", spec := "fnExactSelectLanes", unfollowed := true, recurses := true, apart := false, narrowed := true }
def FnExactSelectLanesUptoSaid : Prop := fnExactSelectLanesUptoRow.holds Try.pinned (OpenSpec.upto fnExactSelectLanesSpec)

/-- 'laws.FnExactWidenLanes', WHERE WHAT IT READS IS OF BULK AT MOST 1048576: true; the input reads as it did. -/
def fnExactWidenLanesUptoRow : OpenClaim := { program := "ytpcjjminopdofaa", sum := "273b5b2d71796e351c5228269c41a6118af5fab6e69ed96516f3a7b3e6041d64", func := "loop.example/g01139/laws.FnExactWidenLanes", spec := "fnExactWidenLanes", unfollowed := true, recurses := true, apart := false, narrowed := true }
def FnExactWidenLanesUptoSaid : Prop := fnExactWidenLanesUptoRow.holds Try.pinned (OpenSpec.upto fnExactWidenLanesSpec)

/-- 'laws.FnExactCompareLanes', WHERE WHAT IT READS IS OF BULK AT MOST 1048576: true; the input reads as it did. -/
def fnExactCompareLanesUptoRow : OpenClaim := { program := "ytpcjjminopdofaa", sum := "273b5b2d71796e351c5228269c41a6118af5fab6e69ed96516f3a7b3e6041d64", func := "loop.example/g01139/laws.FnExactCompareLanes", spec := "fnExactCompareLanes", unfollowed := true, recurses := true, apart := false, narrowed := true }
def FnExactCompareLanesUptoSaid : Prop := fnExactCompareLanesUptoRow.holds Try.pinned (OpenSpec.upto fnExactCompareLanesSpec)

/-- 'laws.FnExactNarrowLanes', WHERE WHAT IT READS IS OF BULK AT MOST 1048576: true; the input reads as it did. -/
def fnExactNarrowLanesUptoRow : OpenClaim := { program := "ytpcjjminopdofaa", sum := "273b5b2d71796e351c5228269c41a6118af5fab6e69ed96516f3a7b3e6041d64", func := "loop.example/g01139/laws.FnExactNarrowLanes", spec := "fnExactNarrowLanes", unfollowed := true, recurses := true, apart := false, narrowed := true }
def FnExactNarrowLanesUptoSaid : Prop := fnExactNarrowLanesUptoRow.holds Try.pinned (OpenSpec.upto fnExactNarrowLanesSpec)

/-- 'laws.FnExactReduceLanes', WHERE WHAT IT READS IS OF BULK AT MOST 1048576: true; the input reads as it did. -/
def fnExactReduceLanesUptoRow : OpenClaim := { program := "ytpcjjminopdofaa", sum := "273b5b2d71796e351c5228269c41a6118af5fab6e69ed96516f3a7b3e6041d64", func := "loop.example/g01139/laws.FnExactReduceLanes", spec := "fnExactReduceLanes", unfollowed := true, recurses := true, apart := false, narrowed := true }
def FnExactReduceLanesUptoSaid : Prop := fnExactReduceLanesUptoRow.holds Try.pinned (OpenSpec.upto fnExactReduceLanesSpec)

/-- 'laws.FnExactScanLanes', WHERE WHAT IT READS IS OF BULK AT MOST 1048576: true; the input reads as it did. -/
def fnExactScanLanesUptoRow : OpenClaim := { program := "ytpcjjminopdofaa", sum := "273b5b2d71796e351c5228269c41a6118af5fab6e69ed96516f3a7b3e6041d64", func := "loop.example/g01139/laws.FnExactScanLanes", spec := "fnExactScanLanes", unfollowed := true, recurses := true, apart := false, narrowed := true }
def FnExactScanLanesUptoSaid : Prop := fnExactScanLanesUptoRow.holds Try.pinned (OpenSpec.upto fnExactScanLanesSpec)

/-- 'laws.FnExactLaneWise', WHERE WHAT IT READS IS OF BULK AT MOST 1048576: true; the input reads as it did. -/
def fnExactLaneWiseUptoRow : OpenClaim := { program := "ytpcjjminopdofaa", sum := "273b5b2d71796e351c5228269c41a6118af5fab6e69ed96516f3a7b3e6041d64", func := "loop.example/g01139/laws.FnExactLaneWise", spec := "fnExactLaneWise", unfollowed := true, recurses := true, apart := false, narrowed := true }
def FnExactLaneWiseUptoSaid : Prop := fnExactLaneWiseUptoRow.holds Try.pinned (OpenSpec.upto fnExactLaneWiseSpec)

/-- 'laws.FnExactStepScan', WHERE WHAT IT READS IS OF BULK AT MOST 1048576: true; the input reads as it did. -/
def fnExactStepScanUptoRow : OpenClaim := { program := "ytpcjjminopdofaa", sum := "273b5b2d71796e351c5228269c41a6118af5fab6e69ed96516f3a7b3e6041d64", func := "loop.example/g01139/laws.FnExactStepScan", spec := "fnExactStepScan", unfollowed := true, recurses := true, apart := false, narrowed := true }
def FnExactStepScanUptoSaid : Prop := fnExactStepScanUptoRow.holds Try.pinned (OpenSpec.upto fnExactStepScanSpec)

/-- 'laws.FnExactLaneWiseMasked', WHERE WHAT IT READS IS OF BULK AT MOST 1048576: true; the input reads as it did. -/
def fnExactLaneWiseMaskedUptoRow : OpenClaim := { program := "ytpcjjminopdofaa", sum := "273b5b2d71796e351c5228269c41a6118af5fab6e69ed96516f3a7b3e6041d64", func := "loop.example/g01139/laws.FnExactLaneWiseMasked", spec := "fnExactLaneWiseMasked", unfollowed := true, recurses := true, apart := false, narrowed := true }
def FnExactLaneWiseMaskedUptoSaid : Prop := fnExactLaneWiseMaskedUptoRow.holds Try.pinned (OpenSpec.upto fnExactLaneWiseMaskedSpec)

/-- 'laws.FnTurns', WHERE WHAT IT READS IS OF BULK AT MOST 1048576: true; the input reads as it did. -/
def fnTurnsUptoRow : OpenClaim := { program := "ytpcjjminopdofaa", sum := "273b5b2d71796e351c5228269c41a6118af5fab6e69ed96516f3a7b3e6041d64", func := "loop.example/g01139/laws.FnTurns", spec := "fnTurns", unfollowed := true, recurses := true, apart := false, narrowed := true }
def FnTurnsUptoSaid : Prop := fnTurnsUptoRow.holds Try.pinned (OpenSpec.upto fnTurnsSpec)

/-- 'laws.FnWidened', WHERE WHAT IT READS IS OF BULK AT MOST 1048576: true; the input reads as it did. -/
def fnWidenedUptoRow : OpenClaim := { program := "ytpcjjminopdofaa", sum := "273b5b2d71796e351c5228269c41a6118af5fab6e69ed96516f3a7b3e6041d64", func := "loop.example/g01139/laws.FnWidened", spec := "fnWidened", unfollowed := true, recurses := true, apart := false, narrowed := true }
def FnWidenedUptoSaid : Prop := fnWidenedUptoRow.holds Try.pinned (OpenSpec.upto fnWidenedSpec)

/-- 'laws.FnScans', WHERE WHAT IT READS IS OF BULK AT MOST 1048576: true; the input reads as it did. -/
def fnScansUptoRow : OpenClaim := { program := "ytpcjjminopdofaa", sum := "273b5b2d71796e351c5228269c41a6118af5fab6e69ed96516f3a7b3e6041d64", func := "loop.example/g01139/laws.FnScans", spec := "fnScans", unfollowed := true, recurses := true, apart := false, narrowed := true }
def FnScansUptoSaid : Prop := fnScansUptoRow.holds Try.pinned (OpenSpec.upto fnScansSpec)

/-- 'laws.FnLanes', WHERE WHAT IT READS IS OF BULK AT MOST 1048576: true; the input reads as it did. -/
def fnLanesUptoRow : OpenClaim := { program := "ytpcjjminopdofaa", sum := "273b5b2d71796e351c5228269c41a6118af5fab6e69ed96516f3a7b3e6041d64", func := "loop.example/g01139/laws.FnLanes", spec := "fnLanes", unfollowed := true, recurses := true, apart := false, narrowed := true }
def FnLanesUptoSaid : Prop := fnLanesUptoRow.holds Try.pinned (OpenSpec.upto fnLanesSpec)

end Rows
end Go.Proofs.Ytpcjjminopdofaa
