/-
  No cell of these rows narrows 'for every input' (looked for: loops, veiled, ifaces, maps, wideKeys, modest, calm, conditions, laid).
  DERIVED. THE GIVEN ROWS OF THIS SEAT. 8 by the template 'for every input the law returns true; each argument reads behind the call as it read before'; 0 by the template 'total and deterministic' (their statements: YtihjikmpbbjbfaaTotals.lean).
  GIVEN WITH THE SEED: the statements are not yours to turn. If you find one false, say at which input.
  Laid BY PROGRAM, IN A SANDBOX (cutbox-rows.mjs): the forced cells as the released guide's own fill.sh prints them over the translation 544e141a91d617ed… (all of the seat's roots in one cut). By AI agents, Wed Nov 11 2026. No macro, syntax, notation, axiom, sorry.
-/
import Derived.Test.YtihjikmpbbjbfaaChecked
import GoSem.Claim
import GoSem.ClaimJoined
import GoSem.ClaimMapViews
import Derived.JoinedTies
import Derived.KernelRfl
namespace Go.Proofs.Ytihjikmpbbjbfaa
/- THE CELL 'sum', in the pinned program and in every row, IS THE sha256 OF THE DUMP (.gsa) THAT YtihjikmpbbjbfaaProg.lean LOADS. Nothing in Lean hashes anything: it is a label: what it is worth is what the hold of that sum in a sandbox is worth. -/
noncomputable def Try.pinned : Pinned := { name := "ytihjikmpbbjbfaa", sum := "544e141a91d617ed76434f1d675436d3794ed9eeaf49304b97338e255e6bc332", checked := Try.checked }
namespace Rows
def none {H : Type} : Left H := { results := [], args := [] }

/-- 'laws.FnExactAreaOf': WHATEVER THE INPUT: true; the input reads as it did. -/
def fnExactAreaOfSpec : ChangeSpec := { name := "fnExactAreaOf", fn := fun _ => fun
  | [d1, d2] => { results := [.lit (.bool true)], args := [d1, d2] }
  | _ => none }
def fnExactAreaOfRow : OpenClaim := { program := "ytihjikmpbbjbfaa", sum := "544e141a91d617ed76434f1d675436d3794ed9eeaf49304b97338e255e6bc332", func := "loop.example/g01373/laws.FnExactAreaOf", spec := "fnExactAreaOf", inPlace := ["internal/bytealg.IndexByteString", "internal/bytealg.IndexString", "internal/abi.NoEscape", "internal/bytealg.MakeNoZero", "internal/bytealg.CountString"], unfollowed := true, recurses := true, named := ["internal/bytealg.MaxLen"], apart := false }
def FnExactAreaOfSaid : Prop := fnExactAreaOfRow.holds Try.pinned (OpenSpec.ofChange fnExactAreaOfSpec)

/-- ITS FALSE NEIGHBOUR: 'it returns false'. Refute it at one input. -/
def fnExactAreaOfWrong : ChangeSpec := { name := "fnExactAreaOf", fn := fun _ => fun
  | [d1, d2] => { results := [.lit (.bool false)], args := [d1, d2] }
  | _ => none }
def FnExactAreaOfWrongFalsely : Prop := fnExactAreaOfRow.holds Try.pinned (OpenSpec.ofChange fnExactAreaOfWrong)

/-- 'laws.FnExactLandText': WHATEVER THE INPUT: true; the input reads as it did. -/
def fnExactLandTextSpec : ChangeSpec := { name := "fnExactLandText", fn := fun _ => fun
  | [d] => { results := [.lit (.bool true)], args := [d] }
  | _ => none }
def fnExactLandTextRow : OpenClaim := { program := "ytihjikmpbbjbfaa", sum := "544e141a91d617ed76434f1d675436d3794ed9eeaf49304b97338e255e6bc332", func := "loop.example/g01373/laws.FnExactLandText", spec := "fnExactLandText", inPlace := ["internal/bytealg.IndexByteString", "internal/abi.NoEscape", "internal/bytealg.MakeNoZero"], unfollowed := true, recurses := true, apart := false }
def FnExactLandTextSaid : Prop := fnExactLandTextRow.holds Try.pinned (OpenSpec.ofChange fnExactLandTextSpec)

/-- ITS FALSE NEIGHBOUR: 'it returns false'. Refute it at one input. -/
def fnExactLandTextWrong : ChangeSpec := { name := "fnExactLandText", fn := fun _ => fun
  | [d] => { results := [.lit (.bool false)], args := [d] }
  | _ => none }
def FnExactLandTextWrongFalsely : Prop := fnExactLandTextRow.holds Try.pinned (OpenSpec.ofChange fnExactLandTextWrong)

/-- 'laws.FnExactPlantSquare': WHATEVER THE INPUT: true; the input reads as it did. -/
def fnExactPlantSquareSpec : ChangeSpec := { name := "fnExactPlantSquare", fn := fun _ => fun
  | [d1, d2, d3, d4] => { results := [.lit (.bool true)], args := [d1, d2, d3, d4] }
  | _ => none }
def fnExactPlantSquareRow : OpenClaim := { program := "ytihjikmpbbjbfaa", sum := "544e141a91d617ed76434f1d675436d3794ed9eeaf49304b97338e255e6bc332", func := "loop.example/g01373/laws.FnExactPlantSquare", spec := "fnExactPlantSquare", inPlace := ["internal/bytealg.IndexByteString", "internal/bytealg.IndexString"], unfollowed := true, recurses := true, named := ["internal/bytealg.MaxLen"], apart := false }
def FnExactPlantSquareSaid : Prop := fnExactPlantSquareRow.holds Try.pinned (OpenSpec.ofChange fnExactPlantSquareSpec)

/-- ITS FALSE NEIGHBOUR: 'it returns false'. Refute it at one input. -/
def fnExactPlantSquareWrong : ChangeSpec := { name := "fnExactPlantSquare", fn := fun _ => fun
  | [d1, d2, d3, d4] => { results := [.lit (.bool false)], args := [d1, d2, d3, d4] }
  | _ => none }
def FnExactPlantSquareWrongFalsely : Prop := fnExactPlantSquareRow.holds Try.pinned (OpenSpec.ofChange fnExactPlantSquareWrong)

/-- 'laws.FnExactFenceAround': WHATEVER THE INPUT: true; the input reads as it did. -/
def fnExactFenceAroundSpec : ChangeSpec := { name := "fnExactFenceAround", fn := fun _ => fun
  | [d1, d2] => { results := [.lit (.bool true)], args := [d1, d2] }
  | _ => none }
def fnExactFenceAroundRow : OpenClaim := { program := "ytihjikmpbbjbfaa", sum := "544e141a91d617ed76434f1d675436d3794ed9eeaf49304b97338e255e6bc332", func := "loop.example/g01373/laws.FnExactFenceAround", spec := "fnExactFenceAround", inPlace := ["internal/bytealg.IndexByteString", "internal/bytealg.IndexString"], unfollowed := true, recurses := true, named := ["internal/bytealg.MaxLen"], apart := false }
def FnExactFenceAroundSaid : Prop := fnExactFenceAroundRow.holds Try.pinned (OpenSpec.ofChange fnExactFenceAroundSpec)

/-- ITS FALSE NEIGHBOUR: 'it returns false'. Refute it at one input. -/
def fnExactFenceAroundWrong : ChangeSpec := { name := "fnExactFenceAround", fn := fun _ => fun
  | [d1, d2] => { results := [.lit (.bool false)], args := [d1, d2] }
  | _ => none }
def FnExactFenceAroundWrongFalsely : Prop := fnExactFenceAroundRow.holds Try.pinned (OpenSpec.ofChange fnExactFenceAroundWrong)

/-- 'laws.FnExactFenceBetween': WHATEVER THE INPUT: true; the input reads as it did. -/
def fnExactFenceBetweenSpec : ChangeSpec := { name := "fnExactFenceBetween", fn := fun _ => fun
  | [d1, d2, d3] => { results := [.lit (.bool true)], args := [d1, d2, d3] }
  | _ => none }
def fnExactFenceBetweenRow : OpenClaim := { program := "ytihjikmpbbjbfaa", sum := "544e141a91d617ed76434f1d675436d3794ed9eeaf49304b97338e255e6bc332", func := "loop.example/g01373/laws.FnExactFenceBetween", spec := "fnExactFenceBetween", inPlace := ["internal/bytealg.IndexByteString", "internal/bytealg.IndexString"], unfollowed := true, recurses := true, named := ["internal/bytealg.MaxLen"], apart := false }
def FnExactFenceBetweenSaid : Prop := fnExactFenceBetweenRow.holds Try.pinned (OpenSpec.ofChange fnExactFenceBetweenSpec)

/-- ITS FALSE NEIGHBOUR: 'it returns false'. Refute it at one input. -/
def fnExactFenceBetweenWrong : ChangeSpec := { name := "fnExactFenceBetween", fn := fun _ => fun
  | [d1, d2, d3] => { results := [.lit (.bool false)], args := [d1, d2, d3] }
  | _ => none }
def FnExactFenceBetweenWrongFalsely : Prop := fnExactFenceBetweenRow.holds Try.pinned (OpenSpec.ofChange fnExactFenceBetweenWrong)

/-- 'laws.FnExactAllFences': WHATEVER THE INPUT: true; the input reads as it did. -/
def fnExactAllFencesSpec : ChangeSpec := { name := "fnExactAllFences", fn := fun _ => fun
  | [d] => { results := [.lit (.bool true)], args := [d] }
  | _ => none }
def fnExactAllFencesRow : OpenClaim := { program := "ytihjikmpbbjbfaa", sum := "544e141a91d617ed76434f1d675436d3794ed9eeaf49304b97338e255e6bc332", func := "loop.example/g01373/laws.FnExactAllFences", spec := "fnExactAllFences", inPlace := ["internal/bytealg.IndexByteString"], unfollowed := true, recurses := true, apart := false }
def FnExactAllFencesSaid : Prop := fnExactAllFencesRow.holds Try.pinned (OpenSpec.ofChange fnExactAllFencesSpec)

/-- ITS FALSE NEIGHBOUR: 'it returns false'. Refute it at one input. -/
def fnExactAllFencesWrong : ChangeSpec := { name := "fnExactAllFences", fn := fun _ => fun
  | [d] => { results := [.lit (.bool false)], args := [d] }
  | _ => none }
def FnExactAllFencesWrongFalsely : Prop := fnExactAllFencesRow.holds Try.pinned (OpenSpec.ofChange fnExactAllFencesWrong)

/-- 'laws.FnExactTurnLand': WHATEVER THE INPUT: true; the input reads as it did. -/
def fnExactTurnLandSpec : ChangeSpec := { name := "fnExactTurnLand", fn := fun _ => fun
  | [d] => { results := [.lit (.bool true)], args := [d] }
  | _ => none }
def fnExactTurnLandRow : OpenClaim := { program := "ytihjikmpbbjbfaa", sum := "544e141a91d617ed76434f1d675436d3794ed9eeaf49304b97338e255e6bc332", func := "loop.example/g01373/laws.FnExactTurnLand", spec := "fnExactTurnLand", inPlace := ["internal/bytealg.IndexByteString"], unfollowed := true, recurses := true, apart := false }
def FnExactTurnLandSaid : Prop := fnExactTurnLandRow.holds Try.pinned (OpenSpec.ofChange fnExactTurnLandSpec)

/-- ITS FALSE NEIGHBOUR: 'it returns false'. Refute it at one input. -/
def fnExactTurnLandWrong : ChangeSpec := { name := "fnExactTurnLand", fn := fun _ => fun
  | [d] => { results := [.lit (.bool false)], args := [d] }
  | _ => none }
def FnExactTurnLandWrongFalsely : Prop := fnExactTurnLandRow.holds Try.pinned (OpenSpec.ofChange fnExactTurnLandWrong)

/-- 'laws.FnExactNeighboursOf': WHATEVER THE INPUT: true; the input reads as it did. -/
def fnExactNeighboursOfSpec : ChangeSpec := { name := "fnExactNeighboursOf", fn := fun _ => fun
  | [d1, d2] => { results := [.lit (.bool true)], args := [d1, d2] }
  | _ => none }
def fnExactNeighboursOfRow : OpenClaim := { program := "ytihjikmpbbjbfaa", sum := "544e141a91d617ed76434f1d675436d3794ed9eeaf49304b97338e255e6bc332", func := "loop.example/g01373/laws.FnExactNeighboursOf", spec := "fnExactNeighboursOf", inPlace := ["internal/bytealg.IndexByteString", "internal/bytealg.IndexString"], unfollowed := true, recurses := true, named := ["internal/bytealg.MaxLen"], apart := false }
def FnExactNeighboursOfSaid : Prop := fnExactNeighboursOfRow.holds Try.pinned (OpenSpec.ofChange fnExactNeighboursOfSpec)

/-- ITS FALSE NEIGHBOUR: 'it returns false'. Refute it at one input. -/
def fnExactNeighboursOfWrong : ChangeSpec := { name := "fnExactNeighboursOf", fn := fun _ => fun
  | [d1, d2] => { results := [.lit (.bool false)], args := [d1, d2] }
  | _ => none }
def FnExactNeighboursOfWrongFalsely : Prop := fnExactNeighboursOfRow.holds Try.pinned (OpenSpec.ofChange fnExactNeighboursOfWrong)

/- THE SECOND FORM. 'bulk': how many values and letters a reading holds, each counted each time it is reached (what is shared counts as often as it is met; a slice's spare places count too). A statement '..UptoSaid' is the law's where the arguments, and the package variables that the reading takes, are together of bulk at most 1048576: NARROWER than '..Said'. Prove '..Said' where nothing that the law and all that it calls make is longer than what came in: it says more and counts as full. Else prove '..UptoSaid'. A law counts once. -/
mutual
def uptoBulk {H : Type} : DataW H → Nat
  | .lit (.string bytes) => bytes.length + 1
  | .lit _ => 1
  | .nil => 1
  | .ptr d => uptoBulk d + 1
  | .slice elems spare => uptoBulkAll elems + uptoBulkAll spare + 1
  | .agg parts => uptoBulkAll parts + 1
  | .iface _ d => uptoBulk d + 1
  | .map entries => uptoBulkEntries entries + 1
  | .held _ => 1
def uptoBulkAll {H : Type} : List (DataW H) → Nat
  | [] => 0
  | d :: r => uptoBulk d + uptoBulkAll r
def uptoBulkEntries {H : Type} : List (Lit × DataW H) → Nat
  | [] => 0
  | x :: r => uptoBulkEntry x + uptoBulkEntries r
def uptoBulkEntry {H : Type} : Lit × DataW H → Nat
  | (.string bytes, d) => bytes.length + uptoBulk d + 1
  | (_, d) => uptoBulk d + 1
 end
def uptoSmall : (H : Type) → List (DataW H) → Bool := fun _ ds => decide (uptoBulkAll ds ≤ 1048576)
def OpenSpec.upto (s : _root_.Go.ChangeSpec) : _root_.Go.OpenSpec := { _root_.Go.OpenSpec.ofChange s with cond := some uptoSmall }

/-- 'laws.FnExactAreaOf', WHERE WHAT IT READS IS OF BULK AT MOST 1048576: true; the input reads as it did. -/
def fnExactAreaOfUptoRow : OpenClaim := { program := "ytihjikmpbbjbfaa", sum := "544e141a91d617ed76434f1d675436d3794ed9eeaf49304b97338e255e6bc332", func := "loop.example/g01373/laws.FnExactAreaOf", spec := "fnExactAreaOf", inPlace := ["internal/bytealg.IndexByteString", "internal/bytealg.IndexString", "internal/abi.NoEscape", "internal/bytealg.MakeNoZero", "internal/bytealg.CountString"], unfollowed := true, recurses := true, named := ["internal/bytealg.MaxLen"], apart := false, narrowed := true }
def FnExactAreaOfUptoSaid : Prop := fnExactAreaOfUptoRow.holds Try.pinned (OpenSpec.upto fnExactAreaOfSpec)

/-- 'laws.FnExactLandText', WHERE WHAT IT READS IS OF BULK AT MOST 1048576: true; the input reads as it did. -/
def fnExactLandTextUptoRow : OpenClaim := { program := "ytihjikmpbbjbfaa", sum := "544e141a91d617ed76434f1d675436d3794ed9eeaf49304b97338e255e6bc332", func := "loop.example/g01373/laws.FnExactLandText", spec := "fnExactLandText", inPlace := ["internal/bytealg.IndexByteString", "internal/abi.NoEscape", "internal/bytealg.MakeNoZero"], unfollowed := true, recurses := true, apart := false, narrowed := true }
def FnExactLandTextUptoSaid : Prop := fnExactLandTextUptoRow.holds Try.pinned (OpenSpec.upto fnExactLandTextSpec)

/-- 'laws.FnExactPlantSquare', WHERE WHAT IT READS IS OF BULK AT MOST 1048576: true; the input reads as it did. -/
def fnExactPlantSquareUptoRow : OpenClaim := { program := "ytihjikmpbbjbfaa", sum := "544e141a91d617ed76434f1d675436d3794ed9eeaf49304b97338e255e6bc332", func := "loop.example/g01373/laws.FnExactPlantSquare", spec := "fnExactPlantSquare", inPlace := ["internal/bytealg.IndexByteString", "internal/bytealg.IndexString"], unfollowed := true, recurses := true, named := ["internal/bytealg.MaxLen"], apart := false, narrowed := true }
def FnExactPlantSquareUptoSaid : Prop := fnExactPlantSquareUptoRow.holds Try.pinned (OpenSpec.upto fnExactPlantSquareSpec)

/-- 'laws.FnExactFenceAround', WHERE WHAT IT READS IS OF BULK AT MOST 1048576: true; the input reads as it did. -/
def fnExactFenceAroundUptoRow : OpenClaim := { program := "ytihjikmpbbjbfaa", sum := "544e141a91d617ed76434f1d675436d3794ed9eeaf49304b97338e255e6bc332", func := "loop.example/g01373/laws.FnExactFenceAround", spec := "fnExactFenceAround", inPlace := ["internal/bytealg.IndexByteString", "internal/bytealg.IndexString"], unfollowed := true, recurses := true, named := ["internal/bytealg.MaxLen"], apart := false, narrowed := true }
def FnExactFenceAroundUptoSaid : Prop := fnExactFenceAroundUptoRow.holds Try.pinned (OpenSpec.upto fnExactFenceAroundSpec)

/-- 'laws.FnExactFenceBetween', WHERE WHAT IT READS IS OF BULK AT MOST 1048576: true; the input reads as it did. -/
def fnExactFenceBetweenUptoRow : OpenClaim := { program := "ytihjikmpbbjbfaa", sum := "544e141a91d617ed76434f1d675436d3794ed9eeaf49304b97338e255e6bc332", func := "loop.example/g01373/laws.FnExactFenceBetween", spec := "fnExactFenceBetween", inPlace := ["internal/bytealg.IndexByteString", "internal/bytealg.IndexString"], unfollowed := true, recurses := true, named := ["internal/bytealg.MaxLen"], apart := false, narrowed := true }
def FnExactFenceBetweenUptoSaid : Prop := fnExactFenceBetweenUptoRow.holds Try.pinned (OpenSpec.upto fnExactFenceBetweenSpec)

/-- 'laws.FnExactAllFences', WHERE WHAT IT READS IS OF BULK AT MOST 1048576: true; the input reads as it did. -/
def fnExactAllFencesUptoRow : OpenClaim := { program := "ytihjikmpbbjbfaa", sum := "544e141a91d617ed76434f1d675436d3794ed9eeaf49304b97338e255e6bc332", func := "loop.example/g01373/laws.FnExactAllFences", spec := "fnExactAllFences", inPlace := ["internal/bytealg.IndexByteString"], unfollowed := true, recurses := true, apart := false, narrowed := true }
def FnExactAllFencesUptoSaid : Prop := fnExactAllFencesUptoRow.holds Try.pinned (OpenSpec.upto fnExactAllFencesSpec)

/-- 'laws.FnExactTurnLand', WHERE WHAT IT READS IS OF BULK AT MOST 1048576: true; the input reads as it did. -/
def fnExactTurnLandUptoRow : OpenClaim := { program := "ytihjikmpbbjbfaa", sum := "544e141a91d617ed76434f1d675436d3794ed9eeaf49304b97338e255e6bc332", func := "loop.example/g01373/laws.FnExactTurnLand", spec := "fnExactTurnLand", inPlace := ["internal/bytealg.IndexByteString"], unfollowed := true, recurses := true, apart := false, narrowed := true }
def FnExactTurnLandUptoSaid : Prop := fnExactTurnLandUptoRow.holds Try.pinned (OpenSpec.upto fnExactTurnLandSpec)

/-- 'laws.FnExactNeighboursOf', WHERE WHAT IT READS IS OF BULK AT MOST 1048576: true; the input reads as it did. -/
def fnExactNeighboursOfUptoRow : OpenClaim := { program := "ytihjikmpbbjbfaa", sum := "544e141a91d617ed76434f1d675436d3794ed9eeaf49304b97338e255e6bc332", func := "loop.example/g01373/laws.FnExactNeighboursOf", spec := "fnExactNeighboursOf", inPlace := ["internal/bytealg.IndexByteString", "internal/bytealg.IndexString"], unfollowed := true, recurses := true, named := ["internal/bytealg.MaxLen"], apart := false, narrowed := true }
def FnExactNeighboursOfUptoSaid : Prop := fnExactNeighboursOfUptoRow.holds Try.pinned (OpenSpec.upto fnExactNeighboursOfSpec)

end Rows
end Go.Proofs.Ytihjikmpbbjbfaa
