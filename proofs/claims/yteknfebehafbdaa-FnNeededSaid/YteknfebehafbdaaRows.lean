/-
  No cell of these rows narrows 'for every input' (looked for: loops, veiled, ifaces, maps, wideKeys, modest, calm, conditions, laid).
  DERIVED. THE GIVEN ROWS OF THIS SEAT. 15 by the template 'for every input the law returns true; each argument reads behind the call as it read before'; 0 by the template 'total and deterministic' (their statements: YteknfebehafbdaaTotals.lean).
  GIVEN WITH THE SEED: the statements are not yours to turn. If you find one false, say at which input.
  Laid BY PROGRAM, IN A SANDBOX (cutbox-rows.mjs): the forced cells as the released guide's own fill.sh prints them over the translation 797ac50f99811b3d… (all of the seat's roots in one cut). By AI agents, Wed Nov 11 2026. No macro, syntax, notation, axiom, sorry.
-/
import Derived.Test.YteknfebehafbdaaChecked
import GoSem.Claim
import GoSem.ClaimJoined
import GoSem.ClaimMapViews
import Derived.JoinedTies
import Derived.KernelRfl
namespace Go.Proofs.Yteknfebehafbdaa
/- THE CELL 'sum', in the pinned program and in every row, IS THE sha256 OF THE DUMP (.gsa) THAT YteknfebehafbdaaProg.lean LOADS. Nothing in Lean hashes anything: it is a label: what it is worth is what the hold of that sum in a sandbox is worth. -/
noncomputable def Try.pinned : Pinned := { name := "yteknfebehafbdaa", sum := "797ac50f99811b3d619548259fe5f3018cfd96c93ed3a5dad50592f0a01dc5c0", checked := Try.checked }
namespace Rows
def none {H : Type} : Left H := { results := [], args := [] }

/-- 'laws.FnExactValidCode': WHATEVER THE INPUT: true; the input reads as it did. -/
def fnExactValidCodeSpec : ChangeSpec := { name := "fnExactValidCode", fn := fun _ => fun
  | [d] => { results := [.lit (.bool true)], args := [d] }
  | _ => none }
def fnExactValidCodeRow : OpenClaim := { program := "yteknfebehafbdaa", sum := "797ac50f99811b3d619548259fe5f3018cfd96c93ed3a5dad50592f0a01dc5c0", func := "loop.example/g01139/laws.FnExactValidCode", spec := "fnExactValidCode", unfollowed := true, recurses := true, plainKeys := false, apart := false }
def FnExactValidCodeSaid : Prop := fnExactValidCodeRow.holds Try.pinned (OpenSpec.ofChange fnExactValidCodeSpec)

/-- ITS FALSE NEIGHBOUR: 'it returns false'. Refute it at one input. -/
def fnExactValidCodeWrong : ChangeSpec := { name := "fnExactValidCode", fn := fun _ => fun
  | [d] => { results := [.lit (.bool false)], args := [d] }
  | _ => none }
def FnExactValidCodeWrongFalsely : Prop := fnExactValidCodeRow.holds Try.pinned (OpenSpec.ofChange fnExactValidCodeWrong)

/-- 'laws.FnExactMustFollow': WHATEVER THE INPUT: true; the input reads as it did. -/
def fnExactMustFollowSpec : ChangeSpec := { name := "fnExactMustFollow", fn := fun _ => fun
  | [d1, d2, d3] => { results := [.lit (.bool true)], args := [d1, d2, d3] }
  | _ => none }
def fnExactMustFollowRow : OpenClaim := { program := "yteknfebehafbdaa", sum := "797ac50f99811b3d619548259fe5f3018cfd96c93ed3a5dad50592f0a01dc5c0", func := "loop.example/g01139/laws.FnExactMustFollow", spec := "fnExactMustFollow", unfollowed := true, recurses := true, plainKeys := false, apart := false }
def FnExactMustFollowSaid : Prop := fnExactMustFollowRow.holds Try.pinned (OpenSpec.ofChange fnExactMustFollowSpec)

/-- ITS FALSE NEIGHBOUR: 'it returns false'. Refute it at one input. -/
def fnExactMustFollowWrong : ChangeSpec := { name := "fnExactMustFollow", fn := fun _ => fun
  | [d1, d2, d3] => { results := [.lit (.bool false)], args := [d1, d2, d3] }
  | _ => none }
def FnExactMustFollowWrongFalsely : Prop := fnExactMustFollowRow.holds Try.pinned (OpenSpec.ofChange fnExactMustFollowWrong)

/-- 'laws.FnExactCountOrders': WHATEVER THE INPUT: true; the input reads as it did. -/
def fnExactCountOrdersSpec : ChangeSpec := { name := "fnExactCountOrders", fn := fun _ => fun
  | [d] => { results := [.lit (.bool true)], args := [d] }
  | _ => none }
def fnExactCountOrdersRow : OpenClaim := { program := "yteknfebehafbdaa", sum := "797ac50f99811b3d619548259fe5f3018cfd96c93ed3a5dad50592f0a01dc5c0", func := "loop.example/g01139/laws.FnExactCountOrders", spec := "fnExactCountOrders", unfollowed := true, recurses := true, plainKeys := false, apart := false }
def FnExactCountOrdersSaid : Prop := fnExactCountOrdersRow.holds Try.pinned (OpenSpec.ofChange fnExactCountOrdersSpec)

/-- ITS FALSE NEIGHBOUR: 'it returns false'. Refute it at one input. -/
def fnExactCountOrdersWrong : ChangeSpec := { name := "fnExactCountOrders", fn := fun _ => fun
  | [d] => { results := [.lit (.bool false)], args := [d] }
  | _ => none }
def FnExactCountOrdersWrongFalsely : Prop := fnExactCountOrdersRow.holds Try.pinned (OpenSpec.ofChange fnExactCountOrdersWrong)

/-- 'laws.FnExactIsOrder': WHATEVER THE INPUT: true; the input reads as it did. -/
def fnExactIsOrderSpec : ChangeSpec := { name := "fnExactIsOrder", fn := fun _ => fun
  | [d1, d2] => { results := [.lit (.bool true)], args := [d1, d2] }
  | _ => none }
def fnExactIsOrderRow : OpenClaim := { program := "yteknfebehafbdaa", sum := "797ac50f99811b3d619548259fe5f3018cfd96c93ed3a5dad50592f0a01dc5c0", func := "loop.example/g01139/laws.FnExactIsOrder", spec := "fnExactIsOrder", unfollowed := true, recurses := true, plainKeys := false, apart := false }
def FnExactIsOrderSaid : Prop := fnExactIsOrderRow.holds Try.pinned (OpenSpec.ofChange fnExactIsOrderSpec)

/-- ITS FALSE NEIGHBOUR: 'it returns false'. Refute it at one input. -/
def fnExactIsOrderWrong : ChangeSpec := { name := "fnExactIsOrder", fn := fun _ => fun
  | [d1, d2] => { results := [.lit (.bool false)], args := [d1, d2] }
  | _ => none }
def FnExactIsOrderWrongFalsely : Prop := fnExactIsOrderRow.holds Try.pinned (OpenSpec.ofChange fnExactIsOrderWrong)

/-- 'laws.FnExactLevelsOf': WHATEVER THE INPUT: true; the input reads as it did. -/
def fnExactLevelsOfSpec : ChangeSpec := { name := "fnExactLevelsOf", fn := fun _ => fun
  | [d] => { results := [.lit (.bool true)], args := [d] }
  | _ => none }
def fnExactLevelsOfRow : OpenClaim := { program := "yteknfebehafbdaa", sum := "797ac50f99811b3d619548259fe5f3018cfd96c93ed3a5dad50592f0a01dc5c0", func := "loop.example/g01139/laws.FnExactLevelsOf", spec := "fnExactLevelsOf", unfollowed := true, recurses := true, plainKeys := false, apart := false }
def FnExactLevelsOfSaid : Prop := fnExactLevelsOfRow.holds Try.pinned (OpenSpec.ofChange fnExactLevelsOfSpec)

/-- ITS FALSE NEIGHBOUR: 'it returns false'. Refute it at one input. -/
def fnExactLevelsOfWrong : ChangeSpec := { name := "fnExactLevelsOf", fn := fun _ => fun
  | [d] => { results := [.lit (.bool false)], args := [d] }
  | _ => none }
def FnExactLevelsOfWrongFalsely : Prop := fnExactLevelsOfRow.holds Try.pinned (OpenSpec.ofChange fnExactLevelsOfWrong)

/-- 'laws.FnExactOutputsOf': WHATEVER THE INPUT: true; the input reads as it did. -/
def fnExactOutputsOfSpec : ChangeSpec := { name := "fnExactOutputsOf", fn := fun _ => fun
  | [d] => { results := [.lit (.bool true)], args := [d] }
  | _ => none }
def fnExactOutputsOfRow : OpenClaim := { program := "yteknfebehafbdaa", sum := "797ac50f99811b3d619548259fe5f3018cfd96c93ed3a5dad50592f0a01dc5c0", func := "loop.example/g01139/laws.FnExactOutputsOf", spec := "fnExactOutputsOf", unfollowed := true, recurses := true, plainKeys := false, apart := false }
def FnExactOutputsOfSaid : Prop := fnExactOutputsOfRow.holds Try.pinned (OpenSpec.ofChange fnExactOutputsOfSpec)

/-- ITS FALSE NEIGHBOUR: 'it returns false'. Refute it at one input. -/
def fnExactOutputsOfWrong : ChangeSpec := { name := "fnExactOutputsOf", fn := fun _ => fun
  | [d] => { results := [.lit (.bool false)], args := [d] }
  | _ => none }
def FnExactOutputsOfWrongFalsely : Prop := fnExactOutputsOfRow.holds Try.pinned (OpenSpec.ofChange fnExactOutputsOfWrong)

/-- 'laws.FnExactDependencesOf': WHATEVER THE INPUT: true; the input reads as it did. -/
def fnExactDependencesOfSpec : ChangeSpec := { name := "fnExactDependencesOf", fn := fun _ => fun
  | [d] => { results := [.lit (.bool true)], args := [d] }
  | _ => none }
def fnExactDependencesOfRow : OpenClaim := { program := "yteknfebehafbdaa", sum := "797ac50f99811b3d619548259fe5f3018cfd96c93ed3a5dad50592f0a01dc5c0", func := "loop.example/g01139/laws.FnExactDependencesOf", spec := "fnExactDependencesOf", unfollowed := true, recurses := true, plainKeys := false, apart := false }
def FnExactDependencesOfSaid : Prop := fnExactDependencesOfRow.holds Try.pinned (OpenSpec.ofChange fnExactDependencesOfSpec)

/-- ITS FALSE NEIGHBOUR: 'it returns false'. Refute it at one input. -/
def fnExactDependencesOfWrong : ChangeSpec := { name := "fnExactDependencesOf", fn := fun _ => fun
  | [d] => { results := [.lit (.bool false)], args := [d] }
  | _ => none }
def FnExactDependencesOfWrongFalsely : Prop := fnExactDependencesOfRow.holds Try.pinned (OpenSpec.ofChange fnExactDependencesOfWrong)

/-- 'laws.FnExactValueNumbers': WHATEVER THE INPUT: true; the input reads as it did. -/
def fnExactValueNumbersSpec : ChangeSpec := { name := "fnExactValueNumbers", fn := fun _ => fun
  | [d] => { results := [.lit (.bool true)], args := [d] }
  | _ => none }
def fnExactValueNumbersRow : OpenClaim := { program := "yteknfebehafbdaa", sum := "797ac50f99811b3d619548259fe5f3018cfd96c93ed3a5dad50592f0a01dc5c0", func := "loop.example/g01139/laws.FnExactValueNumbers", spec := "fnExactValueNumbers", unfollowed := true, recurses := true, plainKeys := false, apart := false }
def FnExactValueNumbersSaid : Prop := fnExactValueNumbersRow.holds Try.pinned (OpenSpec.ofChange fnExactValueNumbersSpec)

/-- ITS FALSE NEIGHBOUR: 'it returns false'. Refute it at one input. -/
def fnExactValueNumbersWrong : ChangeSpec := { name := "fnExactValueNumbers", fn := fun _ => fun
  | [d] => { results := [.lit (.bool false)], args := [d] }
  | _ => none }
def FnExactValueNumbersWrongFalsely : Prop := fnExactValueNumbersRow.holds Try.pinned (OpenSpec.ofChange fnExactValueNumbersWrong)

/-- 'laws.FnExactInputsOf': WHATEVER THE INPUT: true; the input reads as it did. -/
def fnExactInputsOfSpec : ChangeSpec := { name := "fnExactInputsOf", fn := fun _ => fun
  | [d] => { results := [.lit (.bool true)], args := [d] }
  | _ => none }
def fnExactInputsOfRow : OpenClaim := { program := "yteknfebehafbdaa", sum := "797ac50f99811b3d619548259fe5f3018cfd96c93ed3a5dad50592f0a01dc5c0", func := "loop.example/g01139/laws.FnExactInputsOf", spec := "fnExactInputsOf", unfollowed := true, recurses := true, plainKeys := false, apart := false }
def FnExactInputsOfSaid : Prop := fnExactInputsOfRow.holds Try.pinned (OpenSpec.ofChange fnExactInputsOfSpec)

/-- ITS FALSE NEIGHBOUR: 'it returns false'. Refute it at one input. -/
def fnExactInputsOfWrong : ChangeSpec := { name := "fnExactInputsOf", fn := fun _ => fun
  | [d] => { results := [.lit (.bool false)], args := [d] }
  | _ => none }
def FnExactInputsOfWrongFalsely : Prop := fnExactInputsOfRow.holds Try.pinned (OpenSpec.ofChange fnExactInputsOfWrong)

/-- 'laws.FnExactNeededFor': WHATEVER THE INPUT: true; the input reads as it did. -/
def fnExactNeededForSpec : ChangeSpec := { name := "fnExactNeededFor", fn := fun _ => fun
  | [d1, d2] => { results := [.lit (.bool true)], args := [d1, d2] }
  | _ => none }
def fnExactNeededForRow : OpenClaim := { program := "yteknfebehafbdaa", sum := "797ac50f99811b3d619548259fe5f3018cfd96c93ed3a5dad50592f0a01dc5c0", func := "loop.example/g01139/laws.FnExactNeededFor", spec := "fnExactNeededFor", unfollowed := true, recurses := true, plainKeys := false, apart := false }
def FnExactNeededForSaid : Prop := fnExactNeededForRow.holds Try.pinned (OpenSpec.ofChange fnExactNeededForSpec)

/-- ITS FALSE NEIGHBOUR: 'it returns false'. Refute it at one input. -/
def fnExactNeededForWrong : ChangeSpec := { name := "fnExactNeededFor", fn := fun _ => fun
  | [d1, d2] => { results := [.lit (.bool false)], args := [d1, d2] }
  | _ => none }
def FnExactNeededForWrongFalsely : Prop := fnExactNeededForRow.holds Try.pinned (OpenSpec.ofChange fnExactNeededForWrong)

/-- 'laws.FnExactReorderCode': WHATEVER THE INPUT: true; the input reads as it did. -/
def fnExactReorderCodeSpec : ChangeSpec := { name := "fnExactReorderCode", fn := fun _ => fun
  | [d1, d2] => { results := [.lit (.bool true)], args := [d1, d2] }
  | _ => none }
def fnExactReorderCodeRow : OpenClaim := { program := "yteknfebehafbdaa", sum := "797ac50f99811b3d619548259fe5f3018cfd96c93ed3a5dad50592f0a01dc5c0", func := "loop.example/g01139/laws.FnExactReorderCode", spec := "fnExactReorderCode", unfollowed := true, recurses := true, plainKeys := false, apart := false }
def FnExactReorderCodeSaid : Prop := fnExactReorderCodeRow.holds Try.pinned (OpenSpec.ofChange fnExactReorderCodeSpec)

/-- ITS FALSE NEIGHBOUR: 'it returns false'. Refute it at one input. -/
def fnExactReorderCodeWrong : ChangeSpec := { name := "fnExactReorderCode", fn := fun _ => fun
  | [d1, d2] => { results := [.lit (.bool false)], args := [d1, d2] }
  | _ => none }
def FnExactReorderCodeWrongFalsely : Prop := fnExactReorderCodeRow.holds Try.pinned (OpenSpec.ofChange fnExactReorderCodeWrong)

/-- 'laws.FnExactRunCode': WHATEVER THE INPUT: true; the input reads as it did. -/
def fnExactRunCodeSpec : ChangeSpec := { name := "fnExactRunCode", fn := fun _ => fun
  | [d1, d2, d3] => { results := [.lit (.bool true)], args := [d1, d2, d3] }
  | _ => none }
def fnExactRunCodeRow : OpenClaim := { program := "yteknfebehafbdaa", sum := "797ac50f99811b3d619548259fe5f3018cfd96c93ed3a5dad50592f0a01dc5c0", func := "loop.example/g01139/laws.FnExactRunCode", spec := "fnExactRunCode", unfollowed := true, recurses := true, plainKeys := false, apart := false }
def FnExactRunCodeSaid : Prop := fnExactRunCodeRow.holds Try.pinned (OpenSpec.ofChange fnExactRunCodeSpec)

/-- ITS FALSE NEIGHBOUR: 'it returns false'. Refute it at one input. -/
def fnExactRunCodeWrong : ChangeSpec := { name := "fnExactRunCode", fn := fun _ => fun
  | [d1, d2, d3] => { results := [.lit (.bool false)], args := [d1, d2, d3] }
  | _ => none }
def FnExactRunCodeWrongFalsely : Prop := fnExactRunCodeRow.holds Try.pinned (OpenSpec.ofChange fnExactRunCodeWrong)

/-- 'laws.FnCountedOrders': WHATEVER THE INPUT: true; the input reads as it did. -/
def fnCountedOrdersSpec : ChangeSpec := { name := "fnCountedOrders", fn := fun _ => fun
  | [d1, d2] => { results := [.lit (.bool true)], args := [d1, d2] }
  | _ => none }
def fnCountedOrdersRow : OpenClaim := { program := "yteknfebehafbdaa", sum := "797ac50f99811b3d619548259fe5f3018cfd96c93ed3a5dad50592f0a01dc5c0", func := "loop.example/g01139/laws.FnCountedOrders", spec := "fnCountedOrders", unfollowed := true, recurses := true, plainKeys := false, apart := false }
def FnCountedOrdersSaid : Prop := fnCountedOrdersRow.holds Try.pinned (OpenSpec.ofChange fnCountedOrdersSpec)

/-- ITS FALSE NEIGHBOUR: 'it returns false'. Refute it at one input. -/
def fnCountedOrdersWrong : ChangeSpec := { name := "fnCountedOrders", fn := fun _ => fun
  | [d1, d2] => { results := [.lit (.bool false)], args := [d1, d2] }
  | _ => none }
def FnCountedOrdersWrongFalsely : Prop := fnCountedOrdersRow.holds Try.pinned (OpenSpec.ofChange fnCountedOrdersWrong)

/-- 'laws.FnValueNumbers': WHATEVER THE INPUT: true; the input reads as it did. -/
def fnValueNumbersSpec : ChangeSpec := { name := "fnValueNumbers", fn := fun _ => fun
  | [d1, d2] => { results := [.lit (.bool true)], args := [d1, d2] }
  | _ => none }
def fnValueNumbersRow : OpenClaim := { program := "yteknfebehafbdaa", sum := "797ac50f99811b3d619548259fe5f3018cfd96c93ed3a5dad50592f0a01dc5c0", func := "loop.example/g01139/laws.FnValueNumbers", spec := "fnValueNumbers", unfollowed := true, recurses := true, plainKeys := false, apart := false }
def FnValueNumbersSaid : Prop := fnValueNumbersRow.holds Try.pinned (OpenSpec.ofChange fnValueNumbersSpec)

/-- ITS FALSE NEIGHBOUR: 'it returns false'. Refute it at one input. -/
def fnValueNumbersWrong : ChangeSpec := { name := "fnValueNumbers", fn := fun _ => fun
  | [d1, d2] => { results := [.lit (.bool false)], args := [d1, d2] }
  | _ => none }
def FnValueNumbersWrongFalsely : Prop := fnValueNumbersRow.holds Try.pinned (OpenSpec.ofChange fnValueNumbersWrong)

/-- 'laws.FnNeeded': WHATEVER THE INPUT: true; the input reads as it did. -/
def fnNeededSpec : ChangeSpec := { name := "fnNeeded", fn := fun _ => fun
  | [d1, d2] => { results := [.lit (.bool true)], args := [d1, d2] }
  | _ => none }
def fnNeededRow : OpenClaim := { program := "yteknfebehafbdaa", sum := "797ac50f99811b3d619548259fe5f3018cfd96c93ed3a5dad50592f0a01dc5c0", func := "loop.example/g01139/laws.FnNeeded", spec := "fnNeeded", unfollowed := true, recurses := true, plainKeys := false, apart := false }
def FnNeededSaid : Prop := fnNeededRow.holds Try.pinned (OpenSpec.ofChange fnNeededSpec)

/-- ITS FALSE NEIGHBOUR: 'it returns false'. Refute it at one input. -/
def fnNeededWrong : ChangeSpec := { name := "fnNeeded", fn := fun _ => fun
  | [d1, d2] => { results := [.lit (.bool false)], args := [d1, d2] }
  | _ => none }
def FnNeededWrongFalsely : Prop := fnNeededRow.holds Try.pinned (OpenSpec.ofChange fnNeededWrong)

/- THE SECOND FORM. 'bulk': how many values and letters a reading holds, each counted each time it is reached (what is shared counts as often as it is met; a slice's spare places count too). A statement '..UptoSaid' is the law's where the arguments, and the package variables that the reading takes, are together of bulk at most 1048576: NARROWER than '..Said'. Prove '..Said' where nothing that the law and all that it calls make is longer than what came in: it says more and counts as full. Else prove '..UptoSaid'. A law counts once. -/
mutual
def uptoBulk {H : Type} : DataW H → Nat
  | .lit (.string bytes) => bytes.length + 1
  | .lit _ => 1
  | .nil => 1
  | .ptr d => uptoBulk d + 1
  | .slice elems spare => uptoBulkAll elems + uptoBulkAll spare + 1
  | .agg parts => uptoBulkAll parts + 1
  | .iface _ d => uptoBulk d + 1
  | .map entries => uptoBulkEntries entries + 1
  | .held _ => 1
def uptoBulkAll {H : Type} : List (DataW H) → Nat
  | [] => 0
  | d :: r => uptoBulk d + uptoBulkAll r
def uptoBulkEntries {H : Type} : List (Lit × DataW H) → Nat
  | [] => 0
  | x :: r => uptoBulkEntry x + uptoBulkEntries r
def uptoBulkEntry {H : Type} : Lit × DataW H → Nat
  | (.string bytes, d) => bytes.length + uptoBulk d + 1
  | (_, d) => uptoBulk d + 1
 end
def uptoSmall : (H : Type) → List (DataW H) → Bool := fun _ ds => decide (uptoBulkAll ds ≤ 1048576)
def OpenSpec.upto (s : _root_.Go.ChangeSpec) : _root_.Go.OpenSpec := { _root_.Go.OpenSpec.ofChange s with cond := some uptoSmall }

/-- 'laws.FnExactValidCode', WHERE WHAT IT READS IS OF BULK AT MOST 1048576: true; the input reads as it did. -/
def fnExactValidCodeUptoRow : OpenClaim := { program := "yteknfebehafbdaa", sum := "797ac50f99811b3d619548259fe5f3018cfd96c93ed3a5dad50592f0a01dc5c0", func := "loop.example/g01139/laws.FnExactValidCode", spec := "fnExactValidCode", unfollowed := true, recurses := true, plainKeys := false, apart := false, narrowed := true }
def FnExactValidCodeUptoSaid : Prop := fnExactValidCodeUptoRow.holds Try.pinned (OpenSpec.upto fnExactValidCodeSpec)

/-- 'laws.FnExactMustFollow', WHERE WHAT IT READS IS OF BULK AT MOST 1048576: true; the input reads as it did. -/
def fnExactMustFollowUptoRow : OpenClaim := { program := "yteknfebehafbdaa", sum := "797ac50f99811b3d619548259fe5f3018cfd96c93ed3a5dad50592f0a01dc5c0", func := "loop.example/g01139/laws.FnExactMustFollow", spec := "fnExactMustFollow", unfollowed := true, recurses := true, plainKeys := false, apart := false, narrowed := true }
def FnExactMustFollowUptoSaid : Prop := fnExactMustFollowUptoRow.holds Try.pinned (OpenSpec.upto fnExactMustFollowSpec)

/-- 'laws.FnExactCountOrders', WHERE WHAT IT READS IS OF BULK AT MOST 1048576: true; the input reads as it did. -/
def fnExactCountOrdersUptoRow : OpenClaim := { program := "yteknfebehafbdaa", sum := "797ac50f99811b3d619548259fe5f3018cfd96c93ed3a5dad50592f0a01dc5c0", func := "loop.example/g01139/laws.FnExactCountOrders", spec := "fnExactCountOrders", unfollowed := true, recurses := true, plainKeys := false, apart := false, narrowed := true }
def FnExactCountOrdersUptoSaid : Prop := fnExactCountOrdersUptoRow.holds Try.pinned (OpenSpec.upto fnExactCountOrdersSpec)

/-- 'laws.FnExactIsOrder', WHERE WHAT IT READS IS OF BULK AT MOST 1048576: true; the input reads as it did. -/
def fnExactIsOrderUptoRow : OpenClaim := { program := "yteknfebehafbdaa", sum := "797ac50f99811b3d619548259fe5f3018cfd96c93ed3a5dad50592f0a01dc5c0", func := "loop.example/g01139/laws.FnExactIsOrder", spec := "fnExactIsOrder", unfollowed := true, recurses := true, plainKeys := false, apart := false, narrowed := true }
def FnExactIsOrderUptoSaid : Prop := fnExactIsOrderUptoRow.holds Try.pinned (OpenSpec.upto fnExactIsOrderSpec)

/-- 'laws.FnExactLevelsOf', WHERE WHAT IT READS IS OF BULK AT MOST 1048576: true; the input reads as it did. -/
def fnExactLevelsOfUptoRow : OpenClaim := { program := "yteknfebehafbdaa", sum := "797ac50f99811b3d619548259fe5f3018cfd96c93ed3a5dad50592f0a01dc5c0", func := "loop.example/g01139/laws.FnExactLevelsOf", spec := "fnExactLevelsOf", unfollowed := true, recurses := true, plainKeys := false, apart := false, narrowed := true }
def FnExactLevelsOfUptoSaid : Prop := fnExactLevelsOfUptoRow.holds Try.pinned (OpenSpec.upto fnExactLevelsOfSpec)

/-- 'laws.FnExactOutputsOf', WHERE WHAT IT READS IS OF BULK AT MOST 1048576: true; the input reads as it did. -/
def fnExactOutputsOfUptoRow : OpenClaim := { program := "yteknfebehafbdaa", sum := "797ac50f99811b3d619548259fe5f3018cfd96c93ed3a5dad50592f0a01dc5c0", func := "loop.example/g01139/laws.FnExactOutputsOf", spec := "fnExactOutputsOf", unfollowed := true, recurses := true, plainKeys := false, apart := false, narrowed := true }
def FnExactOutputsOfUptoSaid : Prop := fnExactOutputsOfUptoRow.holds Try.pinned (OpenSpec.upto fnExactOutputsOfSpec)

/-- 'laws.FnExactDependencesOf', WHERE WHAT IT READS IS OF BULK AT MOST 1048576: true; the input reads as it did. -/
def fnExactDependencesOfUptoRow : OpenClaim := { program := "yteknfebehafbdaa", sum := "797ac50f99811b3d619548259fe5f3018cfd96c93ed3a5dad50592f0a01dc5c0", func := "loop.example/g01139/laws.FnExactDependencesOf", spec := "fnExactDependencesOf", unfollowed := true, recurses := true, plainKeys := false, apart := false, narrowed := true }
def FnExactDependencesOfUptoSaid : Prop := fnExactDependencesOfUptoRow.holds Try.pinned (OpenSpec.upto fnExactDependencesOfSpec)

/-- 'laws.FnExactValueNumbers', WHERE WHAT IT READS IS OF BULK AT MOST 1048576: true; the input reads as it did. -/
def fnExactValueNumbersUptoRow : OpenClaim := { program := "yteknfebehafbdaa", sum := "797ac50f99811b3d619548259fe5f3018cfd96c93ed3a5dad50592f0a01dc5c0", func := "loop.example/g01139/laws.FnExactValueNumbers", spec := "fnExactValueNumbers", unfollowed := true, recurses := true, plainKeys := false, apart := false, narrowed := true }
def FnExactValueNumbersUptoSaid : Prop := fnExactValueNumbersUptoRow.holds Try.pinned (OpenSpec.upto fnExactValueNumbersSpec)

/-- 'laws.FnExactInputsOf', WHERE WHAT IT READS IS OF BULK AT MOST 1048576: true; the input reads as it did. -/
def fnExactInputsOfUptoRow : OpenClaim := { program := "yteknfebehafbdaa", sum := "797ac50f99811b3d619548259fe5f3018cfd96c93ed3a5dad50592f0a01dc5c0", func := "loop.example/g01139/laws.FnExactInputsOf", spec := "fnExactInputsOf", unfollowed := true, recurses := true, plainKeys := false, apart := false, narrowed := true }
def FnExactInputsOfUptoSaid : Prop := fnExactInputsOfUptoRow.holds Try.pinned (OpenSpec.upto fnExactInputsOfSpec)

/-- 'laws.FnExactNeededFor', WHERE WHAT IT READS IS OF BULK AT MOST 1048576: true; the input reads as it did. -/
def fnExactNeededForUptoRow : OpenClaim := { program := "yteknfebehafbdaa", sum := "797ac50f99811b3d619548259fe5f3018cfd96c93ed3a5dad50592f0a01dc5c0", func := "loop.example/g01139/laws.FnExactNeededFor", spec := "fnExactNeededFor", unfollowed := true, recurses := true, plainKeys := false, apart := false, narrowed := true }
def FnExactNeededForUptoSaid : Prop := fnExactNeededForUptoRow.holds Try.pinned (OpenSpec.upto fnExactNeededForSpec)

/-- 'laws.FnExactReorderCode', WHERE WHAT IT READS IS OF BULK AT MOST 1048576: true; the input reads as it did. -/
def fnExactReorderCodeUptoRow : OpenClaim := { program := "yteknfebehafbdaa", sum := "797ac50f99811b3d619548259fe5f3018cfd96c93ed3a5dad50592f0a01dc5c0", func := "loop.example/g01139/laws.FnExactReorderCode", spec := "fnExactReorderCode", unfollowed := true, recurses := true, plainKeys := false, apart := false, narrowed := true }
def FnExactReorderCodeUptoSaid : Prop := fnExactReorderCodeUptoRow.holds Try.pinned (OpenSpec.upto fnExactReorderCodeSpec)

/-- 'laws.FnExactRunCode', WHERE WHAT IT READS IS OF BULK AT MOST 1048576: true; the input reads as it did. -/
def fnExactRunCodeUptoRow : OpenClaim := { program := "yteknfebehafbdaa", sum := "797ac50f99811b3d619548259fe5f3018cfd96c93ed3a5dad50592f0a01dc5c0", func := "loop.example/g01139/laws.FnExactRunCode", spec := "fnExactRunCode", unfollowed := true, recurses := true, plainKeys := false, apart := false, narrowed := true }
def FnExactRunCodeUptoSaid : Prop := fnExactRunCodeUptoRow.holds Try.pinned (OpenSpec.upto fnExactRunCodeSpec)

/-- 'laws.FnCountedOrders', WHERE WHAT IT READS IS OF BULK AT MOST 1048576: true; the input reads as it did. -/
def fnCountedOrdersUptoRow : OpenClaim := { program := "yteknfebehafbdaa", sum := "797ac50f99811b3d619548259fe5f3018cfd96c93ed3a5dad50592f0a01dc5c0", func := "loop.example/g01139/laws.FnCountedOrders", spec := "fnCountedOrders", unfollowed := true, recurses := true, plainKeys := false, apart := false, narrowed := true }
def FnCountedOrdersUptoSaid : Prop := fnCountedOrdersUptoRow.holds Try.pinned (OpenSpec.upto fnCountedOrdersSpec)

/-- 'laws.FnValueNumbers', WHERE WHAT IT READS IS OF BULK AT MOST 1048576: true; the input reads as it did. -/
def fnValueNumbersUptoRow : OpenClaim := { program := "yteknfebehafbdaa", sum := "797ac50f99811b3d619548259fe5f3018cfd96c93ed3a5dad50592f0a01dc5c0", func := "loop.example/g01139/laws.FnValueNumbers", spec := "fnValueNumbers", unfollowed := true, recurses := true, plainKeys := false, apart := false, narrowed := true }
def FnValueNumbersUptoSaid : Prop := fnValueNumbersUptoRow.holds Try.pinned (OpenSpec.upto fnValueNumbersSpec)

/-- 'laws.FnNeeded', WHERE WHAT IT READS IS OF BULK AT MOST 1048576: true; the input reads as it did. -/
def fnNeededUptoRow : OpenClaim := { program := "yteknfebehafbdaa", sum := "797ac50f99811b3d619548259fe5f3018cfd96c93ed3a5dad50592f0a01dc5c0", func := "loop.example/g01139/laws.FnNeeded", spec := "fnNeeded", unfollowed := true, recurses := true, plainKeys := false, apart := false, narrowed := true }
def FnNeededUptoSaid : Prop := fnNeededUptoRow.holds Try.pinned (OpenSpec.upto fnNeededSpec)

end Rows
end Go.Proofs.Yteknfebehafbdaa
