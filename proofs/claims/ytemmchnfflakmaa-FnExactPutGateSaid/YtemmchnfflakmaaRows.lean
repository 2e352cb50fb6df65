/-
  No cell of these rows narrows 'for every input' (looked for: loops, veiled, ifaces, maps, wideKeys, modest, calm, conditions, laid).
  DERIVED. THE GIVEN ROWS OF THIS SEAT. 15 by the template 'for every input the law returns true; each argument reads behind the call as it read before'; 0 by the template 'total and deterministic' (their statements: YtemmchnfflakmaaTotals.lean).
  GIVEN WITH THE SEED: the statements are not yours to turn. If you find one false, say at which input.
  Laid BY PROGRAM, IN A SANDBOX (cutbox-rows.mjs): the forced cells as the released guide's own fill.sh prints them over the translation 4f169713a4bd1c9e… (all of the seat's roots in one cut). By AI agents, Wed Nov 11 2026. No macro, syntax, notation, axiom, sorry.
-/
import Derived.Test.YtemmchnfflakmaaChecked
import GoSem.Claim
import GoSem.ClaimJoined
import GoSem.ClaimMapViews
import Derived.JoinedTies
import Derived.KernelRfl
namespace Go.Proofs.Ytemmchnfflakmaa
/- THE CELL 'sum', in the pinned program and in every row, IS THE sha256 OF THE DUMP (.gsa) THAT YtemmchnfflakmaaProg.lean LOADS. Nothing in Lean hashes anything: it is a label: what it is worth is what the hold of that sum in a sandbox is worth. -/
noncomputable def Try.pinned : Pinned := { name := "ytemmchnfflakmaa", sum := "4f169713a4bd1c9ee7557e87adcd38dedf2dbb5c5ab8724cbd1513bbfee4becb", checked := Try.checked }
namespace Rows
def none {H : Type} : Left H := { results := [], args := [] }

/-- 'laws.FnExactGatesOfRank': WHATEVER THE INPUT: true; the input reads as it did. -/
def fnExactGatesOfRankSpec : ChangeSpec := { name := "fnExactGatesOfRank", fn := fun _ => fun
  | [d1, d2, d3] => { results := [.lit (.bool true)], args := [d1, d2, d3] }
  | _ => none }
def fnExactGatesOfRankRow : OpenClaim := { program := "ytemmchnfflakmaa", sum := "4f169713a4bd1c9ee7557e87adcd38dedf2dbb5c5ab8724cbd1513bbfee4becb", func := "loop.example/g01373/laws.FnExactGatesOfRank", spec := "fnExactGatesOfRank", apart := false }
def FnExactGatesOfRankSaid : Prop := fnExactGatesOfRankRow.holds Try.pinned (OpenSpec.ofChange fnExactGatesOfRankSpec)

/-- ITS FALSE NEIGHBOUR: 'it returns false'. Refute it at one input. -/
def fnExactGatesOfRankWrong : ChangeSpec := { name := "fnExactGatesOfRank", fn := fun _ => fun
  | [d1, d2, d3] => { results := [.lit (.bool false)], args := [d1, d2, d3] }
  | _ => none }
def FnExactGatesOfRankWrongFalsely : Prop := fnExactGatesOfRankRow.holds Try.pinned (OpenSpec.ofChange fnExactGatesOfRankWrong)

/-- 'laws.FnExactNearestGate': WHATEVER THE INPUT: true; the input reads as it did. -/
def fnExactNearestGateSpec : ChangeSpec := { name := "fnExactNearestGate", fn := fun _ => fun
  | [d1, d2, d3] => { results := [.lit (.bool true)], args := [d1, d2, d3] }
  | _ => none }
def fnExactNearestGateRow : OpenClaim := { program := "ytemmchnfflakmaa", sum := "4f169713a4bd1c9ee7557e87adcd38dedf2dbb5c5ab8724cbd1513bbfee4becb", func := "loop.example/g01373/laws.FnExactNearestGate", spec := "fnExactNearestGate", unfollowed := true, recurses := true, apart := false }
def FnExactNearestGateSaid : Prop := fnExactNearestGateRow.holds Try.pinned (OpenSpec.ofChange fnExactNearestGateSpec)

/-- ITS FALSE NEIGHBOUR: 'it returns false'. Refute it at one input. -/
def fnExactNearestGateWrong : ChangeSpec := { name := "fnExactNearestGate", fn := fun _ => fun
  | [d1, d2, d3] => { results := [.lit (.bool false)], args := [d1, d2, d3] }
  | _ => none }
def FnExactNearestGateWrongFalsely : Prop := fnExactNearestGateRow.holds Try.pinned (OpenSpec.ofChange fnExactNearestGateWrong)

/-- 'laws.FnExactEvenGates': WHATEVER THE INPUT: true; the input reads as it did. -/
def fnExactEvenGatesSpec : ChangeSpec := { name := "fnExactEvenGates", fn := fun _ => fun
  | [d1, d2] => { results := [.lit (.bool true)], args := [d1, d2] }
  | _ => none }
def fnExactEvenGatesRow : OpenClaim := { program := "ytemmchnfflakmaa", sum := "4f169713a4bd1c9ee7557e87adcd38dedf2dbb5c5ab8724cbd1513bbfee4becb", func := "loop.example/g01373/laws.FnExactEvenGates", spec := "fnExactEvenGates", unfollowed := true, recurses := true, apart := false }
def FnExactEvenGatesSaid : Prop := fnExactEvenGatesRow.holds Try.pinned (OpenSpec.ofChange fnExactEvenGatesSpec)

/-- ITS FALSE NEIGHBOUR: 'it returns false'. Refute it at one input. -/
def fnExactEvenGatesWrong : ChangeSpec := { name := "fnExactEvenGates", fn := fun _ => fun
  | [d1, d2] => { results := [.lit (.bool false)], args := [d1, d2] }
  | _ => none }
def FnExactEvenGatesWrongFalsely : Prop := fnExactEvenGatesRow.holds Try.pinned (OpenSpec.ofChange fnExactEvenGatesWrong)

/-- 'laws.FnExactGatesOfParts': WHATEVER THE INPUT: true; the input reads as it did. -/
def fnExactGatesOfPartsSpec : ChangeSpec := { name := "fnExactGatesOfParts", fn := fun _ => fun
  | [d] => { results := [.lit (.bool true)], args := [d] }
  | _ => none }
def fnExactGatesOfPartsRow : OpenClaim := { program := "ytemmchnfflakmaa", sum := "4f169713a4bd1c9ee7557e87adcd38dedf2dbb5c5ab8724cbd1513bbfee4becb", func := "loop.example/g01373/laws.FnExactGatesOfParts", spec := "fnExactGatesOfParts", unfollowed := true, recurses := true, apart := false }
def FnExactGatesOfPartsSaid : Prop := fnExactGatesOfPartsRow.holds Try.pinned (OpenSpec.ofChange fnExactGatesOfPartsSpec)

/-- ITS FALSE NEIGHBOUR: 'it returns false'. Refute it at one input. -/
def fnExactGatesOfPartsWrong : ChangeSpec := { name := "fnExactGatesOfParts", fn := fun _ => fun
  | [d] => { results := [.lit (.bool false)], args := [d] }
  | _ => none }
def FnExactGatesOfPartsWrongFalsely : Prop := fnExactGatesOfPartsRow.holds Try.pinned (OpenSpec.ofChange fnExactGatesOfPartsWrong)

/-- 'laws.FnExactMirrorGates': WHATEVER THE INPUT: true; the input reads as it did. -/
def fnExactMirrorGatesSpec : ChangeSpec := { name := "fnExactMirrorGates", fn := fun _ => fun
  | [d1, d2] => { results := [.lit (.bool true)], args := [d1, d2] }
  | _ => none }
def fnExactMirrorGatesRow : OpenClaim := { program := "ytemmchnfflakmaa", sum := "4f169713a4bd1c9ee7557e87adcd38dedf2dbb5c5ab8724cbd1513bbfee4becb", func := "loop.example/g01373/laws.FnExactMirrorGates", spec := "fnExactMirrorGates", unfollowed := true, recurses := true, apart := false }
def FnExactMirrorGatesSaid : Prop := fnExactMirrorGatesRow.holds Try.pinned (OpenSpec.ofChange fnExactMirrorGatesSpec)

/-- ITS FALSE NEIGHBOUR: 'it returns false'. Refute it at one input. -/
def fnExactMirrorGatesWrong : ChangeSpec := { name := "fnExactMirrorGates", fn := fun _ => fun
  | [d1, d2] => { results := [.lit (.bool false)], args := [d1, d2] }
  | _ => none }
def FnExactMirrorGatesWrongFalsely : Prop := fnExactMirrorGatesRow.holds Try.pinned (OpenSpec.ofChange fnExactMirrorGatesWrong)

/-- 'laws.FnExactWalkAcross': WHATEVER THE INPUT: true; the input reads as it did. -/
def fnExactWalkAcrossSpec : ChangeSpec := { name := "fnExactWalkAcross", fn := fun _ => fun
  | [d1, d2, d3, d4] => { results := [.lit (.bool true)], args := [d1, d2, d3, d4] }
  | _ => none }
def fnExactWalkAcrossRow : OpenClaim := { program := "ytemmchnfflakmaa", sum := "4f169713a4bd1c9ee7557e87adcd38dedf2dbb5c5ab8724cbd1513bbfee4becb", func := "loop.example/g01373/laws.FnExactWalkAcross", spec := "fnExactWalkAcross", unfollowed := true, recurses := true, apart := false }
def FnExactWalkAcrossSaid : Prop := fnExactWalkAcrossRow.holds Try.pinned (OpenSpec.ofChange fnExactWalkAcrossSpec)

/-- ITS FALSE NEIGHBOUR: 'it returns false'. Refute it at one input. -/
def fnExactWalkAcrossWrong : ChangeSpec := { name := "fnExactWalkAcross", fn := fun _ => fun
  | [d1, d2, d3, d4] => { results := [.lit (.bool false)], args := [d1, d2, d3, d4] }
  | _ => none }
def FnExactWalkAcrossWrongFalsely : Prop := fnExactWalkAcrossRow.holds Try.pinned (OpenSpec.ofChange fnExactWalkAcrossWrong)

/-- 'laws.FnExactPartsOf': WHATEVER THE INPUT: true; the input reads as it did. -/
def fnExactPartsOfSpec : ChangeSpec := { name := "fnExactPartsOf", fn := fun _ => fun
  | [d1, d2] => { results := [.lit (.bool true)], args := [d1, d2] }
  | _ => none }
def fnExactPartsOfRow : OpenClaim := { program := "ytemmchnfflakmaa", sum := "4f169713a4bd1c9ee7557e87adcd38dedf2dbb5c5ab8724cbd1513bbfee4becb", func := "loop.example/g01373/laws.FnExactPartsOf", spec := "fnExactPartsOf", unfollowed := true, recurses := true, apart := false }
def FnExactPartsOfSaid : Prop := fnExactPartsOfRow.holds Try.pinned (OpenSpec.ofChange fnExactPartsOfSpec)

/-- ITS FALSE NEIGHBOUR: 'it returns false'. Refute it at one input. -/
def fnExactPartsOfWrong : ChangeSpec := { name := "fnExactPartsOf", fn := fun _ => fun
  | [d1, d2] => { results := [.lit (.bool false)], args := [d1, d2] }
  | _ => none }
def FnExactPartsOfWrongFalsely : Prop := fnExactPartsOfRow.holds Try.pinned (OpenSpec.ofChange fnExactPartsOfWrong)

/-- 'laws.FnExactRankOfGates': WHATEVER THE INPUT: true; the input reads as it did. -/
def fnExactRankOfGatesSpec : ChangeSpec := { name := "fnExactRankOfGates", fn := fun _ => fun
  | [d1, d2] => { results := [.lit (.bool true)], args := [d1, d2] }
  | _ => none }
def fnExactRankOfGatesRow : OpenClaim := { program := "ytemmchnfflakmaa", sum := "4f169713a4bd1c9ee7557e87adcd38dedf2dbb5c5ab8724cbd1513bbfee4becb", func := "loop.example/g01373/laws.FnExactRankOfGates", spec := "fnExactRankOfGates", unfollowed := true, recurses := true, apart := false }
def FnExactRankOfGatesSaid : Prop := fnExactRankOfGatesRow.holds Try.pinned (OpenSpec.ofChange fnExactRankOfGatesSpec)

/-- ITS FALSE NEIGHBOUR: 'it returns false'. Refute it at one input. -/
def fnExactRankOfGatesWrong : ChangeSpec := { name := "fnExactRankOfGates", fn := fun _ => fun
  | [d1, d2] => { results := [.lit (.bool false)], args := [d1, d2] }
  | _ => none }
def FnExactRankOfGatesWrongFalsely : Prop := fnExactRankOfGatesRow.holds Try.pinned (OpenSpec.ofChange fnExactRankOfGatesWrong)

/-- 'laws.FnExactFarthestWalk': WHATEVER THE INPUT: true; the input reads as it did. -/
def fnExactFarthestWalkSpec : ChangeSpec := { name := "fnExactFarthestWalk", fn := fun _ => fun
  | [d1, d2] => { results := [.lit (.bool true)], args := [d1, d2] }
  | _ => none }
def fnExactFarthestWalkRow : OpenClaim := { program := "ytemmchnfflakmaa", sum := "4f169713a4bd1c9ee7557e87adcd38dedf2dbb5c5ab8724cbd1513bbfee4becb", func := "loop.example/g01373/laws.FnExactFarthestWalk", spec := "fnExactFarthestWalk", unfollowed := true, recurses := true, apart := false }
def FnExactFarthestWalkSaid : Prop := fnExactFarthestWalkRow.holds Try.pinned (OpenSpec.ofChange fnExactFarthestWalkSpec)

/-- ITS FALSE NEIGHBOUR: 'it returns false'. Refute it at one input. -/
def fnExactFarthestWalkWrong : ChangeSpec := { name := "fnExactFarthestWalk", fn := fun _ => fun
  | [d1, d2] => { results := [.lit (.bool false)], args := [d1, d2] }
  | _ => none }
def FnExactFarthestWalkWrongFalsely : Prop := fnExactFarthestWalkRow.holds Try.pinned (OpenSpec.ofChange fnExactFarthestWalkWrong)

/-- 'laws.FnExactLongestPart': WHATEVER THE INPUT: true; the input reads as it did. -/
def fnExactLongestPartSpec : ChangeSpec := { name := "fnExactLongestPart", fn := fun _ => fun
  | [d1, d2] => { results := [.lit (.bool true)], args := [d1, d2] }
  | _ => none }
def fnExactLongestPartRow : OpenClaim := { program := "ytemmchnfflakmaa", sum := "4f169713a4bd1c9ee7557e87adcd38dedf2dbb5c5ab8724cbd1513bbfee4becb", func := "loop.example/g01373/laws.FnExactLongestPart", spec := "fnExactLongestPart", unfollowed := true, recurses := true, apart := false }
def FnExactLongestPartSaid : Prop := fnExactLongestPartRow.holds Try.pinned (OpenSpec.ofChange fnExactLongestPartSpec)

/-- ITS FALSE NEIGHBOUR: 'it returns false'. Refute it at one input. -/
def fnExactLongestPartWrong : ChangeSpec := { name := "fnExactLongestPart", fn := fun _ => fun
  | [d1, d2] => { results := [.lit (.bool false)], args := [d1, d2] }
  | _ => none }
def FnExactLongestPartWrongFalsely : Prop := fnExactLongestPartRow.holds Try.pinned (OpenSpec.ofChange fnExactLongestPartWrong)

/-- 'laws.FnExactShortestPart': WHATEVER THE INPUT: true; the input reads as it did. -/
def fnExactShortestPartSpec : ChangeSpec := { name := "fnExactShortestPart", fn := fun _ => fun
  | [d1, d2] => { results := [.lit (.bool true)], args := [d1, d2] }
  | _ => none }
def fnExactShortestPartRow : OpenClaim := { program := "ytemmchnfflakmaa", sum := "4f169713a4bd1c9ee7557e87adcd38dedf2dbb5c5ab8724cbd1513bbfee4becb", func := "loop.example/g01373/laws.FnExactShortestPart", spec := "fnExactShortestPart", unfollowed := true, recurses := true, apart := false }
def FnExactShortestPartSaid : Prop := fnExactShortestPartRow.holds Try.pinned (OpenSpec.ofChange fnExactShortestPartSpec)

/-- ITS FALSE NEIGHBOUR: 'it returns false'. Refute it at one input. -/
def fnExactShortestPartWrong : ChangeSpec := { name := "fnExactShortestPart", fn := fun _ => fun
  | [d1, d2] => { results := [.lit (.bool false)], args := [d1, d2] }
  | _ => none }
def FnExactShortestPartWrongFalsely : Prop := fnExactShortestPartRow.holds Try.pinned (OpenSpec.ofChange fnExactShortestPartWrong)

/-- 'laws.FnExactIsEven': WHATEVER THE INPUT: true; the input reads as it did. -/
def fnExactIsEvenSpec : ChangeSpec := { name := "fnExactIsEven", fn := fun _ => fun
  | [d1, d2] => { results := [.lit (.bool true)], args := [d1, d2] }
  | _ => none }
def fnExactIsEvenRow : OpenClaim := { program := "ytemmchnfflakmaa", sum := "4f169713a4bd1c9ee7557e87adcd38dedf2dbb5c5ab8724cbd1513bbfee4becb", func := "loop.example/g01373/laws.FnExactIsEven", spec := "fnExactIsEven", unfollowed := true, recurses := true, apart := false }
def FnExactIsEvenSaid : Prop := fnExactIsEvenRow.holds Try.pinned (OpenSpec.ofChange fnExactIsEvenSpec)

/-- ITS FALSE NEIGHBOUR: 'it returns false'. Refute it at one input. -/
def fnExactIsEvenWrong : ChangeSpec := { name := "fnExactIsEven", fn := fun _ => fun
  | [d1, d2] => { results := [.lit (.bool false)], args := [d1, d2] }
  | _ => none }
def FnExactIsEvenWrongFalsely : Prop := fnExactIsEvenRow.holds Try.pinned (OpenSpec.ofChange fnExactIsEvenWrong)

/-- 'laws.FnExactTakeGate': WHATEVER THE INPUT: true; the input reads as it did. -/
def fnExactTakeGateSpec : ChangeSpec := { name := "fnExactTakeGate", fn := fun _ => fun
  | [d1, d2, d3] => { results := [.lit (.bool true)], args := [d1, d2, d3] }
  | _ => none }
def fnExactTakeGateRow : OpenClaim := { program := "ytemmchnfflakmaa", sum := "4f169713a4bd1c9ee7557e87adcd38dedf2dbb5c5ab8724cbd1513bbfee4becb", func := "loop.example/g01373/laws.FnExactTakeGate", spec := "fnExactTakeGate", unfollowed := true, recurses := true, apart := false }
def FnExactTakeGateSaid : Prop := fnExactTakeGateRow.holds Try.pinned (OpenSpec.ofChange fnExactTakeGateSpec)

/-- ITS FALSE NEIGHBOUR: 'it returns false'. Refute it at one input. -/
def fnExactTakeGateWrong : ChangeSpec := { name := "fnExactTakeGate", fn := fun _ => fun
  | [d1, d2, d3] => { results := [.lit (.bool false)], args := [d1, d2, d3] }
  | _ => none }
def FnExactTakeGateWrongFalsely : Prop := fnExactTakeGateRow.holds Try.pinned (OpenSpec.ofChange fnExactTakeGateWrong)

/-- 'laws.FnExactBestGate': WHATEVER THE INPUT: true; the input reads as it did. -/
def fnExactBestGateSpec : ChangeSpec := { name := "fnExactBestGate", fn := fun _ => fun
  | [d1, d2] => { results := [.lit (.bool true)], args := [d1, d2] }
  | _ => none }
def fnExactBestGateRow : OpenClaim := { program := "ytemmchnfflakmaa", sum := "4f169713a4bd1c9ee7557e87adcd38dedf2dbb5c5ab8724cbd1513bbfee4becb", func := "loop.example/g01373/laws.FnExactBestGate", spec := "fnExactBestGate", unfollowed := true, recurses := true, apart := false }
def FnExactBestGateSaid : Prop := fnExactBestGateRow.holds Try.pinned (OpenSpec.ofChange fnExactBestGateSpec)

/-- ITS FALSE NEIGHBOUR: 'it returns false'. Refute it at one input. -/
def fnExactBestGateWrong : ChangeSpec := { name := "fnExactBestGate", fn := fun _ => fun
  | [d1, d2] => { results := [.lit (.bool false)], args := [d1, d2] }
  | _ => none }
def FnExactBestGateWrongFalsely : Prop := fnExactBestGateRow.holds Try.pinned (OpenSpec.ofChange fnExactBestGateWrong)

/-- 'laws.FnExactPutGate': WHATEVER THE INPUT: true; the input reads as it did. -/
def fnExactPutGateSpec : ChangeSpec := { name := "fnExactPutGate", fn := fun _ => fun
  | [d1, d2, d3] => { results := [.lit (.bool true)], args := [d1, d2, d3] }
  | _ => none }
def fnExactPutGateRow : OpenClaim := { program := "ytemmchnfflakmaa", sum := "4f169713a4bd1c9ee7557e87adcd38dedf2dbb5c5ab8724cbd1513bbfee4becb", func := "loop.example/g01373/laws.FnExactPutGate", spec := "fnExactPutGate", unfollowed := true, recurses := true, apart := false }
def FnExactPutGateSaid : Prop := fnExactPutGateRow.holds Try.pinned (OpenSpec.ofChange fnExactPutGateSpec)

/-- ITS FALSE NEIGHBOUR: 'it returns false'. Refute it at one input. -/
def fnExactPutGateWrong : ChangeSpec := { name := "fnExactPutGate", fn := fun _ => fun
  | [d1, d2, d3] => { results := [.lit (.bool false)], args := [d1, d2, d3] }
  | _ => none }
def FnExactPutGateWrongFalsely : Prop := fnExactPutGateRow.holds Try.pinned (OpenSpec.ofChange fnExactPutGateWrong)

/- THE SECOND FORM. 'bulk': how many values and letters a reading holds, each counted each time it is reached (what is shared counts as often as it is met; a slice's spare places count too). A statement '..UptoSaid' is the law's where the arguments, and the package variables that the reading takes, are together of bulk at most 1048576: NARROWER than '..Said'. Prove '..Said' where nothing that the law and all that it calls make is longer than what came in: it says more and counts as full. Else prove '..UptoSaid'. A law counts once. -/
mutual
def uptoBulk {H : Type} : DataW H → Nat
  | .lit (.string bytes) => bytes.length + 1
  | .lit _ => 1
  | .nil => 1
  | .ptr d => uptoBulk d + 1
  | .slice elems spare => uptoBulkAll elems + uptoBulkAll spare + 1
  | .agg parts => uptoBulkAll parts + 1
  | .iface _ d => uptoBulk d + 1
  | .map entries => uptoBulkEntries entries + 1
  | .held _ => 1
def uptoBulkAll {H : Type} : List (DataW H) → Nat
  | [] => 0
  | d :: r => uptoBulk d + uptoBulkAll r
def uptoBulkEntries {H : Type} : List (Lit × DataW H) → Nat
  | [] => 0
  | x :: r => uptoBulkEntry x + uptoBulkEntries r
def uptoBulkEntry {H : Type} : Lit × DataW H → Nat
  | (.string bytes, d) => bytes.length + uptoBulk d + 1
  | (_, d) => uptoBulk d + 1
 end
def uptoSmall : (H : Type) → List (DataW H) → Bool := fun _ ds => decide (uptoBulkAll ds ≤ 1048576)
def OpenSpec.upto (s : _root_.Go.ChangeSpec) : _root_.Go.OpenSpec := { _root_.Go.OpenSpec.ofChange s with cond := some uptoSmall }

/-- 'laws.FnExactGatesOfRank', WHERE WHAT IT READS IS OF BULK AT MOST 1048576: true; the input reads as it did. -/
def fnExactGatesOfRankUptoRow : OpenClaim := { program := "ytemmchnfflakmaa", sum := "4f169713a4bd1c9ee7557e87adcd38dedf2dbb5c5ab8724cbd1513bbfee4becb", func := "loop.example/g01373/laws.FnExactGatesOfRank", spec := "fnExactGatesOfRank", apart := false, narrowed := true }
def FnExactGatesOfRankUptoSaid : Prop := fnExactGatesOfRankUptoRow.holds Try.pinned (OpenSpec.upto fnExactGatesOfRankSpec)

/-- 'laws.FnExactNearestGate', WHERE WHAT IT READS IS OF BULK AT MOST 1048576: true; the input reads as it did. -/
def fnExactNearestGateUptoRow : OpenClaim := { program := "ytemmchnfflakmaa", sum := "4f169713a4bd1c9ee7557e87adcd38dedf2dbb5c5ab8724cbd1513bbfee4becb", func := "loop.example/g01373/laws.FnExactNearestGate", spec := "fnExactNearestGate", unfollowed := true, recurses := true, apart := false, narrowed := true }
def FnExactNearestGateUptoSaid : Prop := fnExactNearestGateUptoRow.holds Try.pinned (OpenSpec.upto fnExactNearestGateSpec)

/-- 'laws.FnExactEvenGates', WHERE WHAT IT READS IS OF BULK AT MOST 1048576: true; the input reads as it did. -/
def fnExactEvenGatesUptoRow : OpenClaim := { program := "ytemmchnfflakmaa", sum := "4f169713a4bd1c9ee7557e87adcd38dedf2dbb5c5ab8724cbd1513bbfee4becb", func := "loop.example/g01373/laws.FnExactEvenGates", spec := "fnExactEvenGates", unfollowed := true, recurses := true, apart := false, narrowed := true }
def FnExactEvenGatesUptoSaid : Prop := fnExactEvenGatesUptoRow.holds Try.pinned (OpenSpec.upto fnExactEvenGatesSpec)

/-- 'laws.FnExactGatesOfParts', WHERE WHAT IT READS IS OF BULK AT MOST 1048576: true; the input reads as it did. -/
def fnExactGatesOfPartsUptoRow : OpenClaim := { program := "ytemmchnfflakmaa", sum := "4f169713a4bd1c9ee7557e87adcd38dedf2dbb5c5ab8724cbd1513bbfee4becb", func := "loop.example/g01373/laws.FnExactGatesOfParts", spec := "fnExactGatesOfParts", unfollowed := true, recurses := true, apart := false, narrowed := true }
def FnExactGatesOfPartsUptoSaid : Prop := fnExactGatesOfPartsUptoRow.holds Try.pinned (OpenSpec.upto fnExactGatesOfPartsSpec)

/-- 'laws.FnExactMirrorGates', WHERE WHAT IT READS IS OF BULK AT MOST 1048576: true; the input reads as it did. -/
def fnExactMirrorGatesUptoRow : OpenClaim := { program := "ytemmchnfflakmaa", sum := "4f169713a4bd1c9ee7557e87adcd38dedf2dbb5c5ab8724cbd1513bbfee4becb", func := "loop.example/g01373/laws.FnExactMirrorGates", spec := "fnExactMirrorGates", unfollowed := true, recurses := true, apart := false, narrowed := true }
def FnExactMirrorGatesUptoSaid : Prop := fnExactMirrorGatesUptoRow.holds Try.pinned (OpenSpec.upto fnExactMirrorGatesSpec)

/-- 'laws.FnExactWalkAcross', WHERE WHAT IT READS IS OF BULK AT MOST 1048576: true; the input reads as it did. -/
def fnExactWalkAcrossUptoRow : OpenClaim := { program := "ytemmchnfflakmaa", sum := "4f169713a4bd1c9ee7557e87adcd38dedf2dbb5c5ab8724cbd1513bbfee4becb", func := "loop.example/g01373/laws.FnExactWalkAcross", spec := "fnExactWalkAcross", unfollowed := true, recurses := true, apart := false, narrowed := true }
def FnExactWalkAcrossUptoSaid : Prop := fnExactWalkAcrossUptoRow.holds Try.pinned (OpenSpec.upto fnExactWalkAcrossSpec)

/-- 'laws.FnExactPartsOf', WHERE WHAT IT READS IS OF BULK AT MOST 1048576: true; the input reads as it did. -/
def fnExactPartsOfUptoRow : OpenClaim := { program := "ytemmchnfflakmaa", sum := "4f169713a4bd1c9ee7557e87adcd38dedf2dbb5c5ab8724cbd1513bbfee4becb", func := "loop.example/g01373/laws.FnExactPartsOf", spec := "fnExactPartsOf", unfollowed := true, recurses := true, apart := false, narrowed := true }
def FnExactPartsOfUptoSaid : Prop := fnExactPartsOfUptoRow.holds Try.pinned (OpenSpec.upto fnExactPartsOfSpec)

/-- 'laws.FnExactRankOfGates', WHERE WHAT IT READS IS OF BULK AT MOST 1048576: true; the input reads as it did. -/
def fnExactRankOfGatesUptoRow : OpenClaim := { program := "ytemmchnfflakmaa", sum := "4f169713a4bd1c9ee7557e87adcd38dedf2dbb5c5ab8724cbd1513bbfee4becb", func := "loop.example/g01373/laws.FnExactRankOfGates", spec := "fnExactRankOfGates", unfollowed := true, recurses := true, apart := false, narrowed := true }
def FnExactRankOfGatesUptoSaid : Prop := fnExactRankOfGatesUptoRow.holds Try.pinned (OpenSpec.upto fnExactRankOfGatesSpec)

/-- 'laws.FnExactFarthestWalk', WHERE WHAT IT READS IS OF BULK AT MOST 1048576: true; the input reads as it did. -/
def fnExactFarthestWalkUptoRow : OpenClaim := { program := "ytemmchnfflakmaa", sum := "4f169713a4bd1c9ee7557e87adcd38dedf2dbb5c5ab8724cbd1513bbfee4becb", func := "loop.example/g01373/laws.FnExactFarthestWalk", spec := "fnExactFarthestWalk", unfollowed := true, recurses := true, apart := false, narrowed := true }
def FnExactFarthestWalkUptoSaid : Prop := fnExactFarthestWalkUptoRow.holds Try.pinned (OpenSpec.upto fnExactFarthestWalkSpec)

/-- 'laws.FnExactLongestPart', WHERE WHAT IT READS IS OF BULK AT MOST 1048576: true; the input reads as it did. -/
def fnExactLongestPartUptoRow : OpenClaim := { program := "ytemmchnfflakmaa", sum := "4f169713a4bd1c9ee7557e87adcd38dedf2dbb5c5ab8724cbd1513bbfee4becb", func := "loop.example/g01373/laws.FnExactLongestPart", spec := "fnExactLongestPart", unfollowed := true, recurses := true, apart := false, narrowed := true }
def FnExactLongestPartUptoSaid : Prop := fnExactLongestPartUptoRow.holds Try.pinned (OpenSpec.upto fnExactLongestPartSpec)

/-- 'laws.FnExactShortestPart', WHERE WHAT IT READS IS OF BULK AT MOST 1048576: true; the input reads as it did. -/
def fnExactShortestPartUptoRow : OpenClaim := { program := "ytemmchnfflakmaa", sum := "4f169713a4bd1c9ee7557e87adcd38dedf2dbb5c5ab8724cbd1513bbfee4becb", func := "loop.example/g01373/laws.FnExactShortestPart", spec := "fnExactShortestPart", unfollowed := true, recurses := true, apart := false, narrowed := true }
def FnExactShortestPartUptoSaid : Prop := fnExactShortestPartUptoRow.holds Try.pinned (OpenSpec.upto fnExactShortestPartSpec)

/-- 'laws.FnExactIsEven', WHERE WHAT IT READS IS OF BULK AT MOST 1048576: true; the input reads as it did. -/
def fnExactIsEvenUptoRow : OpenClaim := { program := "ytemmchnfflakmaa", sum := "4f169713a4bd1c9ee7557e87adcd38dedf2dbb5c5ab8724cbd1513bbfee4becb", func := "loop.example/g01373/laws.FnExactIsEven", spec := "fnExactIsEven", unfollowed := true, recurses := true, apart := false, narrowed := true }
def FnExactIsEvenUptoSaid : Prop := fnExactIsEvenUptoRow.holds Try.pinned (OpenSpec.upto fnExactIsEvenSpec)

/-- 'laws.FnExactTakeGate', WHERE WHAT IT READS IS OF BULK AT MOST 1048576: true; the input reads as it did. -/
def fnExactTakeGateUptoRow : OpenClaim := { program := "ytemmchnfflakmaa", sum := "4f169713a4bd1c9ee7557e87adcd38dedf2dbb5c5ab8724cbd1513bbfee4becb", func := "loop.example/g01373/laws.FnExactTakeGate", spec := "fnExactTakeGate", unfollowed := true, recurses := true, apart := false, narrowed := true }
def FnExactTakeGateUptoSaid : Prop := fnExactTakeGateUptoRow.holds Try.pinned (OpenSpec.upto fnExactTakeGateSpec)

/-- 'laws.FnExactBestGate', WHERE WHAT IT READS IS OF BULK AT MOST 1048576: true; the input reads as it did. -/
def fnExactBestGateUptoRow : OpenClaim := { program := "ytemmchnfflakmaa", sum := "4f169713a4bd1c9ee7557e87adcd38dedf2dbb5c5ab8724cbd1513bbfee4becb", func := "loop.example/g01373/laws.FnExactBestGate", spec := "fnExactBestGate", unfollowed := true, recurses := true, apart := false, narrowed := true }
def FnExactBestGateUptoSaid : Prop := fnExactBestGateUptoRow.holds Try.pinned (OpenSpec.upto fnExactBestGateSpec)

/-- 'laws.FnExactPutGate', WHERE WHAT IT READS IS OF BULK AT MOST 1048576: true; the input reads as it did. -/
def fnExactPutGateUptoRow : OpenClaim := { program := "ytemmchnfflakmaa", sum := "4f169713a4bd1c9ee7557e87adcd38dedf2dbb5c5ab8724cbd1513bbfee4becb", func := "loop.example/g01373/laws.FnExactPutGate", spec := "fnExactPutGate", unfollowed := true, recurses := true, apart := false, narrowed := true }
def FnExactPutGateUptoSaid : Prop := fnExactPutGateUptoRow.holds Try.pinned (OpenSpec.upto fnExactPutGateSpec)

end Rows
end Go.Proofs.Ytemmchnfflakmaa
