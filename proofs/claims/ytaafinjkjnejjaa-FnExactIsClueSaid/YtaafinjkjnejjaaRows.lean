/-
  No cell of these rows narrows 'for every input' (looked for: loops, veiled, ifaces, maps, wideKeys, modest, calm, conditions, laid).
  DERIVED. THE GIVEN ROWS OF THIS SEAT. 12 by the template 'for every input the law returns true; each argument reads behind the call as it read before'; 0 by the template 'total and deterministic' (their statements: YtaafinjkjnejjaaTotals.lean).
  GIVEN WITH THE SEED: the statements are not yours to turn. If you find one false, say at which input.
  Laid BY PROGRAM, IN A SANDBOX (cutbox-rows.mjs): the forced cells as the released guide's own fill.sh prints them over the translation ebf81dbe0bafb04d… (all of the seat's roots in one cut). By AI agents, Wed Nov 11 2026. No macro, syntax, notation, axiom, sorry.
-/
import Derived.Test.YtaafinjkjnejjaaChecked
import GoSem.Claim
import GoSem.ClaimJoined
import GoSem.ClaimMapViews
import Derived.JoinedTies
import Derived.KernelRfl
namespace Go.Proofs.Ytaafinjkjnejjaa
/- THE CELL 'sum', in the pinned program and in every row, IS THE sha256 OF THE DUMP (.gsa) THAT YtaafinjkjnejjaaProg.lean LOADS. Nothing in Lean hashes anything: it is a label: what it is worth is what the hold of that sum in a sandbox is worth. -/
noncomputable def Try.pinned : Pinned := { name := "ytaafinjkjnejjaa", sum := "ebf81dbe0bafb04df32daa55e019c90487fc351268c5efc77d3c6f479b994a23", checked := Try.checked }
namespace Rows
def none {H : Type} : Left H := { results := [], args := [] }

/-- 'laws.FnExactGreatestArea': WHATEVER THE INPUT: true; the input reads as it did. -/
def fnExactGreatestAreaSpec : ChangeSpec := { name := "fnExactGreatestArea", fn := fun _ => fun
  | [d] => { results := [.lit (.bool true)], args := [d] }
  | _ => none }
def fnExactGreatestAreaRow : OpenClaim := { program := "ytaafinjkjnejjaa", sum := "ebf81dbe0bafb04df32daa55e019c90487fc351268c5efc77d3c6f479b994a23", func := "loop.example/g01373/laws.FnExactGreatestArea", spec := "fnExactGreatestArea", plainKeys := false, apart := false }
def FnExactGreatestAreaSaid : Prop := fnExactGreatestAreaRow.holds Try.pinned (OpenSpec.ofChange fnExactGreatestAreaSpec)

/-- ITS FALSE NEIGHBOUR: 'it returns false'. Refute it at one input. -/
def fnExactGreatestAreaWrong : ChangeSpec := { name := "fnExactGreatestArea", fn := fun _ => fun
  | [d] => { results := [.lit (.bool false)], args := [d] }
  | _ => none }
def FnExactGreatestAreaWrongFalsely : Prop := fnExactGreatestAreaRow.holds Try.pinned (OpenSpec.ofChange fnExactGreatestAreaWrong)

/-- 'laws.FnExactGreatestAtWall': WHATEVER THE INPUT: true; the input reads as it did. -/
def fnExactGreatestAtWallSpec : ChangeSpec := { name := "fnExactGreatestAtWall", fn := fun _ => fun
  | [d] => { results := [.lit (.bool true)], args := [d] }
  | _ => none }
def fnExactGreatestAtWallRow : OpenClaim := { program := "ytaafinjkjnejjaa", sum := "ebf81dbe0bafb04df32daa55e019c90487fc351268c5efc77d3c6f479b994a23", func := "loop.example/g01373/laws.FnExactGreatestAtWall", spec := "fnExactGreatestAtWall", plainKeys := false, apart := false }
def FnExactGreatestAtWallSaid : Prop := fnExactGreatestAtWallRow.holds Try.pinned (OpenSpec.ofChange fnExactGreatestAtWallSpec)

/-- ITS FALSE NEIGHBOUR: 'it returns false'. Refute it at one input. -/
def fnExactGreatestAtWallWrong : ChangeSpec := { name := "fnExactGreatestAtWall", fn := fun _ => fun
  | [d] => { results := [.lit (.bool false)], args := [d] }
  | _ => none }
def FnExactGreatestAtWallWrongFalsely : Prop := fnExactGreatestAtWallRow.holds Try.pinned (OpenSpec.ofChange fnExactGreatestAtWallWrong)

/-- 'laws.FnExactFenceOfRow': WHATEVER THE INPUT: true; the input reads as it did. -/
def fnExactFenceOfRowSpec : ChangeSpec := { name := "fnExactFenceOfRow", fn := fun _ => fun
  | [d1, d2, d3] => { results := [.lit (.bool true)], args := [d1, d2, d3] }
  | _ => none }
def fnExactFenceOfRowRow : OpenClaim := { program := "ytaafinjkjnejjaa", sum := "ebf81dbe0bafb04df32daa55e019c90487fc351268c5efc77d3c6f479b994a23", func := "loop.example/g01373/laws.FnExactFenceOfRow", spec := "fnExactFenceOfRow", unfollowed := true, recurses := true, plainKeys := false, apart := false }
def FnExactFenceOfRowSaid : Prop := fnExactFenceOfRowRow.holds Try.pinned (OpenSpec.ofChange fnExactFenceOfRowSpec)

/-- ITS FALSE NEIGHBOUR: 'it returns false'. Refute it at one input. -/
def fnExactFenceOfRowWrong : ChangeSpec := { name := "fnExactFenceOfRow", fn := fun _ => fun
  | [d1, d2, d3] => { results := [.lit (.bool false)], args := [d1, d2, d3] }
  | _ => none }
def FnExactFenceOfRowWrongFalsely : Prop := fnExactFenceOfRowRow.holds Try.pinned (OpenSpec.ofChange fnExactFenceOfRowWrong)

/-- 'laws.FnExactCountSquares': WHATEVER THE INPUT: true; the input reads as it did. -/
def fnExactCountSquaresSpec : ChangeSpec := { name := "fnExactCountSquares", fn := fun _ => fun
  | [d1, d2] => { results := [.lit (.bool true)], args := [d1, d2] }
  | _ => none }
def fnExactCountSquaresRow : OpenClaim := { program := "ytaafinjkjnejjaa", sum := "ebf81dbe0bafb04df32daa55e019c90487fc351268c5efc77d3c6f479b994a23", func := "loop.example/g01373/laws.FnExactCountSquares", spec := "fnExactCountSquares", unfollowed := true, recurses := true, plainKeys := false, apart := false }
def FnExactCountSquaresSaid : Prop := fnExactCountSquaresRow.holds Try.pinned (OpenSpec.ofChange fnExactCountSquaresSpec)

/-- ITS FALSE NEIGHBOUR: 'it returns false'. Refute it at one input. -/
def fnExactCountSquaresWrong : ChangeSpec := { name := "fnExactCountSquares", fn := fun _ => fun
  | [d1, d2] => { results := [.lit (.bool false)], args := [d1, d2] }
  | _ => none }
def FnExactCountSquaresWrongFalsely : Prop := fnExactCountSquaresRow.holds Try.pinned (OpenSpec.ofChange fnExactCountSquaresWrong)

/-- 'laws.FnExactLeastFence': WHATEVER THE INPUT: true; the input reads as it did. -/
def fnExactLeastFenceSpec : ChangeSpec := { name := "fnExactLeastFence", fn := fun _ => fun
  | [d] => { results := [.lit (.bool true)], args := [d] }
  | _ => none }
def fnExactLeastFenceRow : OpenClaim := { program := "ytaafinjkjnejjaa", sum := "ebf81dbe0bafb04df32daa55e019c90487fc351268c5efc77d3c6f479b994a23", func := "loop.example/g01373/laws.FnExactLeastFence", spec := "fnExactLeastFence", plainKeys := false, apart := false }
def FnExactLeastFenceSaid : Prop := fnExactLeastFenceRow.holds Try.pinned (OpenSpec.ofChange fnExactLeastFenceSpec)

/-- ITS FALSE NEIGHBOUR: 'it returns false'. Refute it at one input. -/
def fnExactLeastFenceWrong : ChangeSpec := { name := "fnExactLeastFence", fn := fun _ => fun
  | [d] => { results := [.lit (.bool false)], args := [d] }
  | _ => none }
def FnExactLeastFenceWrongFalsely : Prop := fnExactLeastFenceRow.holds Try.pinned (OpenSpec.ofChange fnExactLeastFenceWrong)

/-- 'laws.FnExactIsClue': WHATEVER THE INPUT: true; the input reads as it did. -/
def fnExactIsClueSpec : ChangeSpec := { name := "fnExactIsClue", fn := fun _ => fun
  | [d1, d2] => { results := [.lit (.bool true)], args := [d1, d2] }
  | _ => none }
def fnExactIsClueRow : OpenClaim := { program := "ytaafinjkjnejjaa", sum := "ebf81dbe0bafb04df32daa55e019c90487fc351268c5efc77d3c6f479b994a23", func := "loop.example/g01373/laws.FnExactIsClue", spec := "fnExactIsClue", plainKeys := false, apart := false }
def FnExactIsClueSaid : Prop := fnExactIsClueRow.holds Try.pinned (OpenSpec.ofChange fnExactIsClueSpec)

/-- ITS FALSE NEIGHBOUR: 'it returns false'. Refute it at one input. -/
def fnExactIsClueWrong : ChangeSpec := { name := "fnExactIsClue", fn := fun _ => fun
  | [d1, d2] => { results := [.lit (.bool false)], args := [d1, d2] }
  | _ => none }
def FnExactIsClueWrongFalsely : Prop := fnExactIsClueRow.holds Try.pinned (OpenSpec.ofChange fnExactIsClueWrong)

/-- 'laws.FnExactPartsOfField': WHATEVER THE INPUT: true; the input reads as it did. -/
def fnExactPartsOfFieldSpec : ChangeSpec := { name := "fnExactPartsOfField", fn := fun _ => fun
  | [d1, d2] => { results := [.lit (.bool true)], args := [d1, d2] }
  | _ => none }
def fnExactPartsOfFieldRow : OpenClaim := { program := "ytaafinjkjnejjaa", sum := "ebf81dbe0bafb04df32daa55e019c90487fc351268c5efc77d3c6f479b994a23", func := "loop.example/g01373/laws.FnExactPartsOfField", spec := "fnExactPartsOfField", inPlace := ["internal/bytealg.IndexByteString", "internal/bytealg.IndexString"], unfollowed := true, recurses := true, named := ["internal/bytealg.MaxLen"], plainKeys := false, apart := false }
def FnExactPartsOfFieldSaid : Prop := fnExactPartsOfFieldRow.holds Try.pinned (OpenSpec.ofChange fnExactPartsOfFieldSpec)

/-- ITS FALSE NEIGHBOUR: 'it returns false'. Refute it at one input. -/
def fnExactPartsOfFieldWrong : ChangeSpec := { name := "fnExactPartsOfField", fn := fun _ => fun
  | [d1, d2] => { results := [.lit (.bool false)], args := [d1, d2] }
  | _ => none }
def FnExactPartsOfFieldWrongFalsely : Prop := fnExactPartsOfFieldRow.holds Try.pinned (OpenSpec.ofChange fnExactPartsOfFieldWrong)

/-- 'laws.FnExactLeastForFields': WHATEVER THE INPUT: true; the input reads as it did. -/
def fnExactLeastForFieldsSpec : ChangeSpec := { name := "fnExactLeastForFields", fn := fun _ => fun
  | [d] => { results := [.lit (.bool true)], args := [d] }
  | _ => none }
def fnExactLeastForFieldsRow : OpenClaim := { program := "ytaafinjkjnejjaa", sum := "ebf81dbe0bafb04df32daa55e019c90487fc351268c5efc77d3c6f479b994a23", func := "loop.example/g01373/laws.FnExactLeastForFields", spec := "fnExactLeastForFields", unfollowed := true, recurses := true, plainKeys := false, apart := false }
def FnExactLeastForFieldsSaid : Prop := fnExactLeastForFieldsRow.holds Try.pinned (OpenSpec.ofChange fnExactLeastForFieldsSpec)

/-- ITS FALSE NEIGHBOUR: 'it returns false'. Refute it at one input. -/
def fnExactLeastForFieldsWrong : ChangeSpec := { name := "fnExactLeastForFields", fn := fun _ => fun
  | [d] => { results := [.lit (.bool false)], args := [d] }
  | _ => none }
def FnExactLeastForFieldsWrongFalsely : Prop := fnExactLeastForFieldsRow.holds Try.pinned (OpenSpec.ofChange fnExactLeastForFieldsWrong)

/-- 'laws.FnExactRectanglesByFence': WHATEVER THE INPUT: true; the input reads as it did. -/
def fnExactRectanglesByFenceSpec : ChangeSpec := { name := "fnExactRectanglesByFence", fn := fun _ => fun
  | [d] => { results := [.lit (.bool true)], args := [d] }
  | _ => none }
def fnExactRectanglesByFenceRow : OpenClaim := { program := "ytaafinjkjnejjaa", sum := "ebf81dbe0bafb04df32daa55e019c90487fc351268c5efc77d3c6f479b994a23", func := "loop.example/g01373/laws.FnExactRectanglesByFence", spec := "fnExactRectanglesByFence", plainKeys := false, apart := false }
def FnExactRectanglesByFenceSaid : Prop := fnExactRectanglesByFenceRow.holds Try.pinned (OpenSpec.ofChange fnExactRectanglesByFenceSpec)

/-- ITS FALSE NEIGHBOUR: 'it returns false'. Refute it at one input. -/
def fnExactRectanglesByFenceWrong : ChangeSpec := { name := "fnExactRectanglesByFence", fn := fun _ => fun
  | [d] => { results := [.lit (.bool false)], args := [d] }
  | _ => none }
def FnExactRectanglesByFenceWrongFalsely : Prop := fnExactRectanglesByFenceRow.holds Try.pinned (OpenSpec.ofChange fnExactRectanglesByFenceWrong)

/-- 'laws.FnExactRectanglesByArea': WHATEVER THE INPUT: true; the input reads as it did. -/
def fnExactRectanglesByAreaSpec : ChangeSpec := { name := "fnExactRectanglesByArea", fn := fun _ => fun
  | [d] => { results := [.lit (.bool true)], args := [d] }
  | _ => none }
def fnExactRectanglesByAreaRow : OpenClaim := { program := "ytaafinjkjnejjaa", sum := "ebf81dbe0bafb04df32daa55e019c90487fc351268c5efc77d3c6f479b994a23", func := "loop.example/g01373/laws.FnExactRectanglesByArea", spec := "fnExactRectanglesByArea", plainKeys := false, apart := false }
def FnExactRectanglesByAreaSaid : Prop := fnExactRectanglesByAreaRow.holds Try.pinned (OpenSpec.ofChange fnExactRectanglesByAreaSpec)

/-- ITS FALSE NEIGHBOUR: 'it returns false'. Refute it at one input. -/
def fnExactRectanglesByAreaWrong : ChangeSpec := { name := "fnExactRectanglesByArea", fn := fun _ => fun
  | [d] => { results := [.lit (.bool false)], args := [d] }
  | _ => none }
def FnExactRectanglesByAreaWrongFalsely : Prop := fnExactRectanglesByAreaRow.holds Try.pinned (OpenSpec.ofChange fnExactRectanglesByAreaWrong)

/-- 'laws.FnExactIsLand': WHATEVER THE INPUT: true; the input reads as it did. -/
def fnExactIsLandSpec : ChangeSpec := { name := "fnExactIsLand", fn := fun _ => fun
  | [d] => { results := [.lit (.bool true)], args := [d] }
  | _ => none }
def fnExactIsLandRow : OpenClaim := { program := "ytaafinjkjnejjaa", sum := "ebf81dbe0bafb04df32daa55e019c90487fc351268c5efc77d3c6f479b994a23", func := "loop.example/g01373/laws.FnExactIsLand", spec := "fnExactIsLand", inPlace := ["internal/bytealg.IndexByteString"], unfollowed := true, recurses := true, plainKeys := false, apart := false }
def FnExactIsLandSaid : Prop := fnExactIsLandRow.holds Try.pinned (OpenSpec.ofChange fnExactIsLandSpec)

/-- ITS FALSE NEIGHBOUR: 'it returns false'. Refute it at one input. -/
def fnExactIsLandWrong : ChangeSpec := { name := "fnExactIsLand", fn := fun _ => fun
  | [d] => { results := [.lit (.bool false)], args := [d] }
  | _ => none }
def FnExactIsLandWrongFalsely : Prop := fnExactIsLandRow.holds Try.pinned (OpenSpec.ofChange fnExactIsLandWrong)

/-- 'laws.FnExactEqualFields': WHATEVER THE INPUT: true; the input reads as it did. -/
def fnExactEqualFieldsSpec : ChangeSpec := { name := "fnExactEqualFields", fn := fun _ => fun
  | [d] => { results := [.lit (.bool true)], args := [d] }
  | _ => none }
def fnExactEqualFieldsRow : OpenClaim := { program := "ytaafinjkjnejjaa", sum := "ebf81dbe0bafb04df32daa55e019c90487fc351268c5efc77d3c6f479b994a23", func := "loop.example/g01373/laws.FnExactEqualFields", spec := "fnExactEqualFields", plainKeys := false, apart := false }
def FnExactEqualFieldsSaid : Prop := fnExactEqualFieldsRow.holds Try.pinned (OpenSpec.ofChange fnExactEqualFieldsSpec)

/-- ITS FALSE NEIGHBOUR: 'it returns false'. Refute it at one input. -/
def fnExactEqualFieldsWrong : ChangeSpec := { name := "fnExactEqualFields", fn := fun _ => fun
  | [d] => { results := [.lit (.bool false)], args := [d] }
  | _ => none }
def FnExactEqualFieldsWrongFalsely : Prop := fnExactEqualFieldsRow.holds Try.pinned (OpenSpec.ofChange fnExactEqualFieldsWrong)

/- THE SECOND FORM. 'bulk': how many values and letters a reading holds, each counted each time it is reached (what is shared counts as often as it is met; a slice's spare places count too). A statement '..UptoSaid' is the law's where the arguments, and the package variables that the reading takes, are together of bulk at most 1048576: NARROWER than '..Said'. Prove '..Said' where nothing that the law and all that it calls make is longer than what came in: it says more and counts as full. Else prove '..UptoSaid'. A law counts once. -/
mutual
def uptoBulk {H : Type} : DataW H → Nat
  | .lit (.string bytes) => bytes.length + 1
  | .lit _ => 1
  | .nil => 1
  | .ptr d => uptoBulk d + 1
  | .slice elems spare => uptoBulkAll elems + uptoBulkAll spare + 1
  | .agg parts => uptoBulkAll parts + 1
  | .iface _ d => uptoBulk d + 1
  | .map entries => uptoBulkEntries entries + 1
  | .held _ => 1
def uptoBulkAll {H : Type} : List (DataW H) → Nat
  | [] => 0
  | d :: r => uptoBulk d + uptoBulkAll r
def uptoBulkEntries {H : Type} : List (Lit × DataW H) → Nat
  | [] => 0
  | x :: r => uptoBulkEntry x + uptoBulkEntries r
def uptoBulkEntry {H : Type} : Lit × DataW H → Nat
  | (.string bytes, d) => bytes.length + uptoBulk d + 1
  | (_, d) => uptoBulk d + 1
 end
def uptoSmall : (H : Type) → List (DataW H) → Bool := fun _ ds => decide (uptoBulkAll ds ≤ 1048576)
def OpenSpec.upto (s : _root_.Go.ChangeSpec) : _root_.Go.OpenSpec := { _root_.Go.OpenSpec.ofChange s with cond := some uptoSmall }

/-- 'laws.FnExactGreatestArea', WHERE WHAT IT READS IS OF BULK AT MOST 1048576: true; the input reads as it did. -/
def fnExactGreatestAreaUptoRow : OpenClaim := { program := "ytaafinjkjnejjaa", sum := "ebf81dbe0bafb04df32daa55e019c90487fc351268c5efc77d3c6f479b994a23", func := "loop.example/g01373/laws.FnExactGreatestArea", spec := "fnExactGreatestArea", plainKeys := false, apart := false, narrowed := true }
def FnExactGreatestAreaUptoSaid : Prop := fnExactGreatestAreaUptoRow.holds Try.pinned (OpenSpec.upto fnExactGreatestAreaSpec)

/-- 'laws.FnExactGreatestAtWall', WHERE WHAT IT READS IS OF BULK AT MOST 1048576: true; the input reads as it did. -/
def fnExactGreatestAtWallUptoRow : OpenClaim := { program := "ytaafinjkjnejjaa", sum := "ebf81dbe0bafb04df32daa55e019c90487fc351268c5efc77d3c6f479b994a23", func := "loop.example/g01373/laws.FnExactGreatestAtWall", spec := "fnExactGreatestAtWall", plainKeys := false, apart := false, narrowed := true }
def FnExactGreatestAtWallUptoSaid : Prop := fnExactGreatestAtWallUptoRow.holds Try.pinned (OpenSpec.upto fnExactGreatestAtWallSpec)

/-- 'laws.FnExactFenceOfRow', WHERE WHAT IT READS IS OF BULK AT MOST 1048576: true; the input reads as it did. -/
def fnExactFenceOfRowUptoRow : OpenClaim := { program := "ytaafinjkjnejjaa", sum := "ebf81dbe0bafb04df32daa55e019c90487fc351268c5efc77d3c6f479b994a23", func := "loop.example/g01373/laws.FnExactFenceOfRow", spec := "fnExactFenceOfRow", unfollowed := true, recurses := true, plainKeys := false, apart := false, narrowed := true }
def FnExactFenceOfRowUptoSaid : Prop := fnExactFenceOfRowUptoRow.holds Try.pinned (OpenSpec.upto fnExactFenceOfRowSpec)

/-- 'laws.FnExactCountSquares', WHERE WHAT IT READS IS OF BULK AT MOST 1048576: true; the input reads as it did. -/
def fnExactCountSquaresUptoRow : OpenClaim := { program := "ytaafinjkjnejjaa", sum := "ebf81dbe0bafb04df32daa55e019c90487fc351268c5efc77d3c6f479b994a23", func := "loop.example/g01373/laws.FnExactCountSquares", spec := "fnExactCountSquares", unfollowed := true, recurses := true, plainKeys := false, apart := false, narrowed := true }
def FnExactCountSquaresUptoSaid : Prop := fnExactCountSquaresUptoRow.holds Try.pinned (OpenSpec.upto fnExactCountSquaresSpec)

/-- 'laws.FnExactLeastFence', WHERE WHAT IT READS IS OF BULK AT MOST 1048576: true; the input reads as it did. -/
def fnExactLeastFenceUptoRow : OpenClaim := { program := "ytaafinjkjnejjaa", sum := "ebf81dbe0bafb04df32daa55e019c90487fc351268c5efc77d3c6f479b994a23", func := "loop.example/g01373/laws.FnExactLeastFence", spec := "fnExactLeastFence", plainKeys := false, apart := false, narrowed := true }
def FnExactLeastFenceUptoSaid : Prop := fnExactLeastFenceUptoRow.holds Try.pinned (OpenSpec.upto fnExactLeastFenceSpec)

/-- 'laws.FnExactIsClue', WHERE WHAT IT READS IS OF BULK AT MOST 1048576: true; the input reads as it did. -/
def fnExactIsClueUptoRow : OpenClaim := { program := "ytaafinjkjnejjaa", sum := "ebf81dbe0bafb04df32daa55e019c90487fc351268c5efc77d3c6f479b994a23", func := "loop.example/g01373/laws.FnExactIsClue", spec := "fnExactIsClue", plainKeys := false, apart := false, narrowed := true }
def FnExactIsClueUptoSaid : Prop := fnExactIsClueUptoRow.holds Try.pinned (OpenSpec.upto fnExactIsClueSpec)

/-- 'laws.FnExactPartsOfField', WHERE WHAT IT READS IS OF BULK AT MOST 1048576: true; the input reads as it did. -/
def fnExactPartsOfFieldUptoRow : OpenClaim := { program := "ytaafinjkjnejjaa", sum := "ebf81dbe0bafb04df32daa55e019c90487fc351268c5efc77d3c6f479b994a23", func := "loop.example/g01373/laws.FnExactPartsOfField", spec := "fnExactPartsOfField", inPlace := ["internal/bytealg.IndexByteString", "internal/bytealg.IndexString"], unfollowed := true, recurses := true, named := ["internal/bytealg.MaxLen"], plainKeys := false, apart := false, narrowed := true }
def FnExactPartsOfFieldUptoSaid : Prop := fnExactPartsOfFieldUptoRow.holds Try.pinned (OpenSpec.upto fnExactPartsOfFieldSpec)

/-- 'laws.FnExactLeastForFields', WHERE WHAT IT READS IS OF BULK AT MOST 1048576: true; the input reads as it did. -/
def fnExactLeastForFieldsUptoRow : OpenClaim := { program := "ytaafinjkjnejjaa", sum := "ebf81dbe0bafb04df32daa55e019c90487fc351268c5efc77d3c6f479b994a23", func := "loop.example/g01373/laws.FnExactLeastForFields", spec := "fnExactLeastForFields", unfollowed := true, recurses := true, plainKeys := false, apart := false, narrowed := true }
def FnExactLeastForFieldsUptoSaid : Prop := fnExactLeastForFieldsUptoRow.holds Try.pinned (OpenSpec.upto fnExactLeastForFieldsSpec)

/-- 'laws.FnExactRectanglesByFence', WHERE WHAT IT READS IS OF BULK AT MOST 1048576: true; the input reads as it did. -/
def fnExactRectanglesByFenceUptoRow : OpenClaim := { program := "ytaafinjkjnejjaa", sum := "ebf81dbe0bafb04df32daa55e019c90487fc351268c5efc77d3c6f479b994a23", func := "loop.example/g01373/laws.FnExactRectanglesByFence", spec := "fnExactRectanglesByFence", plainKeys := false, apart := false, narrowed := true }
def FnExactRectanglesByFenceUptoSaid : Prop := fnExactRectanglesByFenceUptoRow.holds Try.pinned (OpenSpec.upto fnExactRectanglesByFenceSpec)

/-- 'laws.FnExactRectanglesByArea', WHERE WHAT IT READS IS OF BULK AT MOST 1048576: true; the input reads as it did. -/
def fnExactRectanglesByAreaUptoRow : OpenClaim := { program := "ytaafinjkjnejjaa", sum := "ebf81dbe0bafb04df32daa55e019c90487fc351268c5efc77d3c6f479b994a23", func := "loop.example/g01373/laws.FnExactRectanglesByArea", spec := "fnExactRectanglesByArea", plainKeys := false, apart := false, narrowed := true }
def FnExactRectanglesByAreaUptoSaid : Prop := fnExactRectanglesByAreaUptoRow.holds Try.pinned (OpenSpec.upto fnExactRectanglesByAreaSpec)

/-- 'laws.FnExactIsLand', WHERE WHAT IT READS IS OF BULK AT MOST 1048576: true; the input reads as it did. -/
def fnExactIsLandUptoRow : OpenClaim := { program := "ytaafinjkjnejjaa", sum := "ebf81dbe0bafb04df32daa55e019c90487fc351268c5efc77d3c6f479b994a23", func := "loop.example/g01373/laws.FnExactIsLand", spec := "fnExactIsLand", inPlace := ["internal/bytealg.IndexByteString"], unfollowed := true, recurses := true, plainKeys := false, apart := false, narrowed := true }
def FnExactIsLandUptoSaid : Prop := fnExactIsLandUptoRow.holds Try.pinned (OpenSpec.upto fnExactIsLandSpec)

/-- 'laws.FnExactEqualFields', WHERE WHAT IT READS IS OF BULK AT MOST 1048576: true; the input reads as it did. -/
def fnExactEqualFieldsUptoRow : OpenClaim := { program := "ytaafinjkjnejjaa", sum := "ebf81dbe0bafb04df32daa55e019c90487fc351268c5efc77d3c6f479b994a23", func := "loop.example/g01373/laws.FnExactEqualFields", spec := "fnExactEqualFields", plainKeys := false, apart := false, narrowed := true }
def FnExactEqualFieldsUptoSaid : Prop := fnExactEqualFieldsUptoRow.holds Try.pinned (OpenSpec.upto fnExactEqualFieldsSpec)

end Rows
end Go.Proofs.Ytaafinjkjnejjaa
