/-
  No cell of these rows narrows 'for every input' (looked for: loops, veiled, ifaces, maps, wideKeys, modest, calm, conditions, laid).
  DERIVED. THE GIVEN ROWS OF THIS SEAT. 11 by the template 'for every input the law returns true; each argument reads behind the call as it read before'; 0 by the template 'total and deterministic' (their statements: YtcdebaohefphaaaTotals.lean).
  GIVEN WITH THE SEED: the statements are not yours to turn. If you find one false, say at which input.
  Laid BY PROGRAM, IN A SANDBOX (cutbox-rows.mjs): the forced cells as the released guide's own fill.sh prints them over the translation 720bc5d1c0920b9b… (all of the seat's roots in one cut). By AI agents, Wed Nov 11 2026. No macro, syntax, notation, axiom, sorry.
-/
import Derived.Test.YtcdebaohefphaaaChecked
import GoSem.Claim
import GoSem.ClaimJoined
import GoSem.ClaimMapViews
import Derived.JoinedTies
import Derived.KernelRfl
namespace Go.Proofs.Ytcdebaohefphaaa
/- THE CELL 'sum', in the pinned program and in every row, IS THE sha256 OF THE DUMP (.gsa) THAT YtcdebaohefphaaaProg.lean LOADS. Nothing in Lean hashes anything: it is a label: what it is worth is what the hold of that sum in a sandbox is worth. -/
noncomputable def Try.pinned : Pinned := { name := "ytcdebaohefphaaa", sum := "720bc5d1c0920b9b2a46ece588f6ff51859d886f095994b1434b1e2f29df8adb", checked := Try.checked }
namespace Rows
def none {H : Type} : Left H := { results := [], args := [] }

/-- 'laws.FnExactIsStroke': WHATEVER THE INPUT: true; the input reads as it did. -/
def fnExactIsStrokeSpec : ChangeSpec := { name := "fnExactIsStroke", fn := fun _ => fun
  | [d1, d2] => { results := [.lit (.bool true)], args := [d1, d2] }
  | _ => none }
def fnExactIsStrokeRow : OpenClaim := { program := "ytcdebaohefphaaa", sum := "720bc5d1c0920b9b2a46ece588f6ff51859d886f095994b1434b1e2f29df8adb", func := "loop.example/g01373/laws.FnExactIsStroke", spec := "fnExactIsStroke", inPlace := ["internal/bytealg.IndexByteString", "internal/bytealg.IndexString"], unfollowed := true, recurses := true, named := ["internal/bytealg.MaxLen"], apart := false }
def FnExactIsStrokeSaid : Prop := fnExactIsStrokeRow.holds Try.pinned (OpenSpec.ofChange fnExactIsStrokeSpec)

/-- ITS FALSE NEIGHBOUR: 'it returns false'. Refute it at one input. -/
def fnExactIsStrokeWrong : ChangeSpec := { name := "fnExactIsStroke", fn := fun _ => fun
  | [d1, d2] => { results := [.lit (.bool false)], args := [d1, d2] }
  | _ => none }
def FnExactIsStrokeWrongFalsely : Prop := fnExactIsStrokeRow.holds Try.pinned (OpenSpec.ofChange fnExactIsStrokeWrong)

/-- 'laws.FnExactPaintUsed': WHATEVER THE INPUT: true; the input reads as it did. -/
def fnExactPaintUsedSpec : ChangeSpec := { name := "fnExactPaintUsed", fn := fun _ => fun
  | [d1, d2] => { results := [.lit (.bool true)], args := [d1, d2] }
  | _ => none }
def fnExactPaintUsedRow : OpenClaim := { program := "ytcdebaohefphaaa", sum := "720bc5d1c0920b9b2a46ece588f6ff51859d886f095994b1434b1e2f29df8adb", func := "loop.example/g01373/laws.FnExactPaintUsed", spec := "fnExactPaintUsed", inPlace := ["internal/bytealg.IndexByteString", "internal/bytealg.IndexString"], unfollowed := true, recurses := true, named := ["internal/bytealg.MaxLen"], apart := false }
def FnExactPaintUsedSaid : Prop := fnExactPaintUsedRow.holds Try.pinned (OpenSpec.ofChange fnExactPaintUsedSpec)

/-- ITS FALSE NEIGHBOUR: 'it returns false'. Refute it at one input. -/
def fnExactPaintUsedWrong : ChangeSpec := { name := "fnExactPaintUsed", fn := fun _ => fun
  | [d1, d2] => { results := [.lit (.bool false)], args := [d1, d2] }
  | _ => none }
def FnExactPaintUsedWrongFalsely : Prop := fnExactPaintUsedRow.holds Try.pinned (OpenSpec.ofChange fnExactPaintUsedWrong)

/-- 'laws.FnExactCoatsOf': WHATEVER THE INPUT: true; the input reads as it did. -/
def fnExactCoatsOfSpec : ChangeSpec := { name := "fnExactCoatsOf", fn := fun _ => fun
  | [d1, d2] => { results := [.lit (.bool true)], args := [d1, d2] }
  | _ => none }
def fnExactCoatsOfRow : OpenClaim := { program := "ytcdebaohefphaaa", sum := "720bc5d1c0920b9b2a46ece588f6ff51859d886f095994b1434b1e2f29df8adb", func := "loop.example/g01373/laws.FnExactCoatsOf", spec := "fnExactCoatsOf", inPlace := ["internal/bytealg.IndexByteString", "internal/bytealg.IndexString"], unfollowed := true, recurses := true, named := ["internal/bytealg.MaxLen"], apart := false }
def FnExactCoatsOfSaid : Prop := fnExactCoatsOfRow.holds Try.pinned (OpenSpec.ofChange fnExactCoatsOfSpec)

/-- ITS FALSE NEIGHBOUR: 'it returns false'. Refute it at one input. -/
def fnExactCoatsOfWrong : ChangeSpec := { name := "fnExactCoatsOf", fn := fun _ => fun
  | [d1, d2] => { results := [.lit (.bool false)], args := [d1, d2] }
  | _ => none }
def FnExactCoatsOfWrongFalsely : Prop := fnExactCoatsOfRow.holds Try.pinned (OpenSpec.ofChange fnExactCoatsOfWrong)

/-- 'laws.FnExactPaintStroke': WHATEVER THE INPUT: true; the input reads as it did. -/
def fnExactPaintStrokeSpec : ChangeSpec := { name := "fnExactPaintStroke", fn := fun _ => fun
  | [d1, d2] => { results := [.lit (.bool true)], args := [d1, d2] }
  | _ => none }
def fnExactPaintStrokeRow : OpenClaim := { program := "ytcdebaohefphaaa", sum := "720bc5d1c0920b9b2a46ece588f6ff51859d886f095994b1434b1e2f29df8adb", func := "loop.example/g01373/laws.FnExactPaintStroke", spec := "fnExactPaintStroke", inPlace := ["internal/bytealg.IndexByteString", "internal/bytealg.IndexString", "internal/abi.NoEscape", "internal/bytealg.MakeNoZero"], unfollowed := true, recurses := true, named := ["internal/bytealg.MaxLen"], apart := false }
def FnExactPaintStrokeSaid : Prop := fnExactPaintStrokeRow.holds Try.pinned (OpenSpec.ofChange fnExactPaintStrokeSpec)

/-- ITS FALSE NEIGHBOUR: 'it returns false'. Refute it at one input. -/
def fnExactPaintStrokeWrong : ChangeSpec := { name := "fnExactPaintStroke", fn := fun _ => fun
  | [d1, d2] => { results := [.lit (.bool false)], args := [d1, d2] }
  | _ => none }
def FnExactPaintStrokeWrongFalsely : Prop := fnExactPaintStrokeRow.holds Try.pinned (OpenSpec.ofChange fnExactPaintStrokeWrong)

/-- 'laws.FnExactSeenStrokes': WHATEVER THE INPUT: true; the input reads as it did. -/
def fnExactSeenStrokesSpec : ChangeSpec := { name := "fnExactSeenStrokes", fn := fun _ => fun
  | [d1, d2] => { results := [.lit (.bool true)], args := [d1, d2] }
  | _ => none }
def fnExactSeenStrokesRow : OpenClaim := { program := "ytcdebaohefphaaa", sum := "720bc5d1c0920b9b2a46ece588f6ff51859d886f095994b1434b1e2f29df8adb", func := "loop.example/g01373/laws.FnExactSeenStrokes", spec := "fnExactSeenStrokes", inPlace := ["internal/bytealg.IndexByteString", "internal/bytealg.IndexString"], unfollowed := true, recurses := true, named := ["internal/bytealg.MaxLen"], apart := false }
def FnExactSeenStrokesSaid : Prop := fnExactSeenStrokesRow.holds Try.pinned (OpenSpec.ofChange fnExactSeenStrokesSpec)

/-- ITS FALSE NEIGHBOUR: 'it returns false'. Refute it at one input. -/
def fnExactSeenStrokesWrong : ChangeSpec := { name := "fnExactSeenStrokes", fn := fun _ => fun
  | [d1, d2] => { results := [.lit (.bool false)], args := [d1, d2] }
  | _ => none }
def FnExactSeenStrokesWrongFalsely : Prop := fnExactSeenStrokesRow.holds Try.pinned (OpenSpec.ofChange fnExactSeenStrokesWrong)

/-- 'laws.FnExactPaintAll': WHATEVER THE INPUT: true; the input reads as it did. -/
def fnExactPaintAllSpec : ChangeSpec := { name := "fnExactPaintAll", fn := fun _ => fun
  | [d1, d2] => { results := [.lit (.bool true)], args := [d1, d2] }
  | _ => none }
def fnExactPaintAllRow : OpenClaim := { program := "ytcdebaohefphaaa", sum := "720bc5d1c0920b9b2a46ece588f6ff51859d886f095994b1434b1e2f29df8adb", func := "loop.example/g01373/laws.FnExactPaintAll", spec := "fnExactPaintAll", inPlace := ["internal/bytealg.IndexByteString", "internal/bytealg.IndexString", "internal/abi.NoEscape", "internal/bytealg.MakeNoZero"], unfollowed := true, recurses := true, named := ["internal/bytealg.MaxLen"], apart := false }
def FnExactPaintAllSaid : Prop := fnExactPaintAllRow.holds Try.pinned (OpenSpec.ofChange fnExactPaintAllSpec)

/-- ITS FALSE NEIGHBOUR: 'it returns false'. Refute it at one input. -/
def fnExactPaintAllWrong : ChangeSpec := { name := "fnExactPaintAll", fn := fun _ => fun
  | [d1, d2] => { results := [.lit (.bool false)], args := [d1, d2] }
  | _ => none }
def FnExactPaintAllWrongFalsely : Prop := fnExactPaintAllRow.holds Try.pinned (OpenSpec.ofChange fnExactPaintAllWrong)

/-- 'laws.FnExactNeedlessStrokes': WHATEVER THE INPUT: true; the input reads as it did. -/
def fnExactNeedlessStrokesSpec : ChangeSpec := { name := "fnExactNeedlessStrokes", fn := fun _ => fun
  | [d1, d2] => { results := [.lit (.bool true)], args := [d1, d2] }
  | _ => none }
def fnExactNeedlessStrokesRow : OpenClaim := { program := "ytcdebaohefphaaa", sum := "720bc5d1c0920b9b2a46ece588f6ff51859d886f095994b1434b1e2f29df8adb", func := "loop.example/g01373/laws.FnExactNeedlessStrokes", spec := "fnExactNeedlessStrokes", inPlace := ["internal/bytealg.IndexByteString", "internal/bytealg.IndexString", "internal/abi.NoEscape", "internal/bytealg.MakeNoZero"], unfollowed := true, recurses := true, named := ["internal/bytealg.MaxLen"], apart := false }
def FnExactNeedlessStrokesSaid : Prop := fnExactNeedlessStrokesRow.holds Try.pinned (OpenSpec.ofChange fnExactNeedlessStrokesSpec)

/-- ITS FALSE NEIGHBOUR: 'it returns false'. Refute it at one input. -/
def fnExactNeedlessStrokesWrong : ChangeSpec := { name := "fnExactNeedlessStrokes", fn := fun _ => fun
  | [d1, d2] => { results := [.lit (.bool false)], args := [d1, d2] }
  | _ => none }
def FnExactNeedlessStrokesWrongFalsely : Prop := fnExactNeedlessStrokesRow.holds Try.pinned (OpenSpec.ofChange fnExactNeedlessStrokesWrong)

/-- 'laws.FnExactIsClue': WHATEVER THE INPUT: true; the input reads as it did. -/
def fnExactIsClueSpec : ChangeSpec := { name := "fnExactIsClue", fn := fun _ => fun
  | [d1, d2] => { results := [.lit (.bool true)], args := [d1, d2] }
  | _ => none }
def fnExactIsClueRow : OpenClaim := { program := "ytcdebaohefphaaa", sum := "720bc5d1c0920b9b2a46ece588f6ff51859d886f095994b1434b1e2f29df8adb", func := "loop.example/g01373/laws.FnExactIsClue", spec := "fnExactIsClue", apart := false }
def FnExactIsClueSaid : Prop := fnExactIsClueRow.holds Try.pinned (OpenSpec.ofChange fnExactIsClueSpec)

/-- ITS FALSE NEIGHBOUR: 'it returns false'. Refute it at one input. -/
def fnExactIsClueWrong : ChangeSpec := { name := "fnExactIsClue", fn := fun _ => fun
  | [d1, d2] => { results := [.lit (.bool false)], args := [d1, d2] }
  | _ => none }
def FnExactIsClueWrongFalsely : Prop := fnExactIsClueRow.holds Try.pinned (OpenSpec.ofChange fnExactIsClueWrong)

/-- 'laws.FnExactIsPuzzle': WHATEVER THE INPUT: true; the input reads as it did. -/
def fnExactIsPuzzleSpec : ChangeSpec := { name := "fnExactIsPuzzle", fn := fun _ => fun
  | [d] => { results := [.lit (.bool true)], args := [d] }
  | _ => none }
def fnExactIsPuzzleRow : OpenClaim := { program := "ytcdebaohefphaaa", sum := "720bc5d1c0920b9b2a46ece588f6ff51859d886f095994b1434b1e2f29df8adb", func := "loop.example/g01373/laws.FnExactIsPuzzle", spec := "fnExactIsPuzzle", unfollowed := true, recurses := true, apart := false }
def FnExactIsPuzzleSaid : Prop := fnExactIsPuzzleRow.holds Try.pinned (OpenSpec.ofChange fnExactIsPuzzleSpec)

/-- ITS FALSE NEIGHBOUR: 'it returns false'. Refute it at one input. -/
def fnExactIsPuzzleWrong : ChangeSpec := { name := "fnExactIsPuzzle", fn := fun _ => fun
  | [d] => { results := [.lit (.bool false)], args := [d] }
  | _ => none }
def FnExactIsPuzzleWrongFalsely : Prop := fnExactIsPuzzleRow.holds Try.pinned (OpenSpec.ofChange fnExactIsPuzzleWrong)

/-- 'laws.FnExactAddClue': WHATEVER THE INPUT: true; the input reads as it did. -/
def fnExactAddClueSpec : ChangeSpec := { name := "fnExactAddClue", fn := fun _ => fun
  | [d1, d2] => { results := [.lit (.bool true)], args := [d1, d2] }
  | _ => none }
def fnExactAddClueRow : OpenClaim := { program := "ytcdebaohefphaaa", sum := "720bc5d1c0920b9b2a46ece588f6ff51859d886f095994b1434b1e2f29df8adb", func := "loop.example/g01373/laws.FnExactAddClue", spec := "fnExactAddClue", unfollowed := true, recurses := true, apart := false }
def FnExactAddClueSaid : Prop := fnExactAddClueRow.holds Try.pinned (OpenSpec.ofChange fnExactAddClueSpec)

/-- ITS FALSE NEIGHBOUR: 'it returns false'. Refute it at one input. -/
def fnExactAddClueWrong : ChangeSpec := { name := "fnExactAddClue", fn := fun _ => fun
  | [d1, d2] => { results := [.lit (.bool false)], args := [d1, d2] }
  | _ => none }
def FnExactAddClueWrongFalsely : Prop := fnExactAddClueRow.holds Try.pinned (OpenSpec.ofChange fnExactAddClueWrong)

/-- 'laws.FnExactDropClue': WHATEVER THE INPUT: true; the input reads as it did. -/
def fnExactDropClueSpec : ChangeSpec := { name := "fnExactDropClue", fn := fun _ => fun
  | [d1, d2] => { results := [.lit (.bool true)], args := [d1, d2] }
  | _ => none }
def fnExactDropClueRow : OpenClaim := { program := "ytcdebaohefphaaa", sum := "720bc5d1c0920b9b2a46ece588f6ff51859d886f095994b1434b1e2f29df8adb", func := "loop.example/g01373/laws.FnExactDropClue", spec := "fnExactDropClue", unfollowed := true, recurses := true, apart := false }
def FnExactDropClueSaid : Prop := fnExactDropClueRow.holds Try.pinned (OpenSpec.ofChange fnExactDropClueSpec)

/-- ITS FALSE NEIGHBOUR: 'it returns false'. Refute it at one input. -/
def fnExactDropClueWrong : ChangeSpec := { name := "fnExactDropClue", fn := fun _ => fun
  | [d1, d2] => { results := [.lit (.bool false)], args := [d1, d2] }
  | _ => none }
def FnExactDropClueWrongFalsely : Prop := fnExactDropClueRow.holds Try.pinned (OpenSpec.ofChange fnExactDropClueWrong)

/- THE SECOND FORM. 'bulk': how many values and letters a reading holds, each counted each time it is reached (what is shared counts as often as it is met; a slice's spare places count too). A statement '..UptoSaid' is the law's where the arguments, and the package variables that the reading takes, are together of bulk at most 1048576: NARROWER than '..Said'. Prove '..Said' where nothing that the law and all that it calls make is longer than what came in: it says more and counts as full. Else prove '..UptoSaid'. A law counts once. -/
mutual
def uptoBulk {H : Type} : DataW H → Nat
  | .lit (.string bytes) => bytes.length + 1
  | .lit _ => 1
  | .nil => 1
  | .ptr d => uptoBulk d + 1
  | .slice elems spare => uptoBulkAll elems + uptoBulkAll spare + 1
  | .agg parts => uptoBulkAll parts + 1
  | .iface _ d => uptoBulk d + 1
  | .map entries => uptoBulkEntries entries + 1
  | .held _ => 1
def uptoBulkAll {H : Type} : List (DataW H) → Nat
  | [] => 0
  | d :: r => uptoBulk d + uptoBulkAll r
def uptoBulkEntries {H : Type} : List (Lit × DataW H) → Nat
  | [] => 0
  | x :: r => uptoBulkEntry x + uptoBulkEntries r
def uptoBulkEntry {H : Type} : Lit × DataW H → Nat
  | (.string bytes, d) => bytes.length + uptoBulk d + 1
  | (_, d) => uptoBulk d + 1
 end
def uptoSmall : (H : Type) → List (DataW H) → Bool := fun _ ds => decide (uptoBulkAll ds ≤ 1048576)
def OpenSpec.upto (s : _root_.Go.ChangeSpec) : _root_.Go.OpenSpec := { _root_.Go.OpenSpec.ofChange s with cond := some uptoSmall }

/-- 'laws.FnExactIsStroke', WHERE WHAT IT READS IS OF BULK AT MOST 1048576: true; the input reads as it did. -/
def fnExactIsStrokeUptoRow : OpenClaim := { program := "ytcdebaohefphaaa", sum := "720bc5d1c0920b9b2a46ece588f6ff51859d886f095994b1434b1e2f29df8adb", func := "loop.example/g01373/laws.FnExactIsStroke", spec := "fnExactIsStroke", inPlace := ["internal/bytealg.IndexByteString", "internal/bytealg.IndexString"], unfollowed := true, recurses := true, named := ["internal/bytealg.MaxLen"], apart := false, narrowed := true }
def FnExactIsStrokeUptoSaid : Prop := fnExactIsStrokeUptoRow.holds Try.pinned (OpenSpec.upto fnExactIsStrokeSpec)

/-- 'laws.FnExactPaintUsed', WHERE WHAT IT READS IS OF BULK AT MOST 1048576: true; the input reads as it did. -/
def fnExactPaintUsedUptoRow : OpenClaim := { program := "ytcdebaohefphaaa", sum := "720bc5d1c0920b9b2a46ece588f6ff51859d886f095994b1434b1e2f29df8adb", func := "loop.example/g01373/laws.FnExactPaintUsed", spec := "fnExactPaintUsed", inPlace := ["internal/bytealg.IndexByteString", "internal/bytealg.IndexString"], unfollowed := true, recurses := true, named := ["internal/bytealg.MaxLen"], apart := false, narrowed := true }
def FnExactPaintUsedUptoSaid : Prop := fnExactPaintUsedUptoRow.holds Try.pinned (OpenSpec.upto fnExactPaintUsedSpec)

/-- 'laws.FnExactCoatsOf', WHERE WHAT IT READS IS OF BULK AT MOST 1048576: true; the input reads as it did. -/
def fnExactCoatsOfUptoRow : OpenClaim := { program := "ytcdebaohefphaaa", sum := "720bc5d1c0920b9b2a46ece588f6ff51859d886f095994b1434b1e2f29df8adb", func := "loop.example/g01373/laws.FnExactCoatsOf", spec := "fnExactCoatsOf", inPlace := ["internal/bytealg.IndexByteString", "internal/bytealg.IndexString"], unfollowed := true, recurses := true, named := ["internal/bytealg.MaxLen"], apart := false, narrowed := true }
def FnExactCoatsOfUptoSaid : Prop := fnExactCoatsOfUptoRow.holds Try.pinned (OpenSpec.upto fnExactCoatsOfSpec)

/-- 'laws.FnExactPaintStroke', WHERE WHAT IT READS IS OF BULK AT MOST 1048576: true; the input reads as it did. -/
def fnExactPaintStrokeUptoRow : OpenClaim := { program := "ytcdebaohefphaaa", sum := "720bc5d1c0920b9b2a46ece588f6ff51859d886f095994b1434b1e2f29df8adb", func := "loop.example/g01373/laws.FnExactPaintStroke", spec := "fnExactPaintStroke", inPlace := ["internal/bytealg.IndexByteString", "internal/bytealg.IndexString", "internal/abi.NoEscape", "internal/bytealg.MakeNoZero"], unfollowed := true, recurses := true, named := ["internal/bytealg.MaxLen"], apart := false, narrowed := true }
def FnExactPaintStrokeUptoSaid : Prop := fnExactPaintStrokeUptoRow.holds Try.pinned (OpenSpec.upto fnExactPaintStrokeSpec)

/-- 'laws.FnExactSeenStrokes', WHERE WHAT IT READS IS OF BULK AT MOST 1048576: true; the input reads as it did. -/
def fnExactSeenStrokesUptoRow : OpenClaim := { program := "ytcdebaohefphaaa", sum := "720bc5d1c0920b9b2a46ece588f6ff51859d886f095994b1434b1e2f29df8adb", func := "loop.example/g01373/laws.FnExactSeenStrokes", spec := "fnExactSeenStrokes", inPlace := ["internal/bytealg.IndexByteString", "internal/bytealg.IndexString"], unfollowed := true, recurses := true, named := ["internal/bytealg.MaxLen"], apart := false, narrowed := true }
def FnExactSeenStrokesUptoSaid : Prop := fnExactSeenStrokesUptoRow.holds Try.pinned (OpenSpec.upto fnExactSeenStrokesSpec)

/-- 'laws.FnExactPaintAll', WHERE WHAT IT READS IS OF BULK AT MOST 1048576: true; the input reads as it did. -/
def fnExactPaintAllUptoRow : OpenClaim := { program := "ytcdebaohefphaaa", sum := "720bc5d1c0920b9b2a46ece588f6ff51859d886f095994b1434b1e2f29df8adb", func := "loop.example/g01373/laws.FnExactPaintAll", spec := "fnExactPaintAll", inPlace := ["internal/bytealg.IndexByteString", "internal/bytealg.IndexString", "internal/abi.NoEscape", "internal/bytealg.MakeNoZero"], unfollowed := true, recurses := true, named := ["internal/bytealg.MaxLen"], apart := false, narrowed := true }
def FnExactPaintAllUptoSaid : Prop := fnExactPaintAllUptoRow.holds Try.pinned (OpenSpec.upto fnExactPaintAllSpec)

/-- 'laws.FnExactNeedlessStrokes', WHERE WHAT IT READS IS OF BULK AT MOST 1048576: true; the input reads as it did. -/
def fnExactNeedlessStrokesUptoRow : OpenClaim := { program := "ytcdebaohefphaaa", sum := "720bc5d1c0920b9b2a46ece588f6ff51859d886f095994b1434b1e2f29df8adb", func := "loop.example/g01373/laws.FnExactNeedlessStrokes", spec := "fnExactNeedlessStrokes", inPlace := ["internal/bytealg.IndexByteString", "internal/bytealg.IndexString", "internal/abi.NoEscape", "internal/bytealg.MakeNoZero"], unfollowed := true, recurses := true, named := ["internal/bytealg.MaxLen"], apart := false, narrowed := true }
def FnExactNeedlessStrokesUptoSaid : Prop := fnExactNeedlessStrokesUptoRow.holds Try.pinned (OpenSpec.upto fnExactNeedlessStrokesSpec)

/-- 'laws.FnExactIsClue', WHERE WHAT IT READS IS OF BULK AT MOST 1048576: true; the input reads as it did. -/
def fnExactIsClueUptoRow : OpenClaim := { program := "ytcdebaohefphaaa", sum := "720bc5d1c0920b9b2a46ece588f6ff51859d886f095994b1434b1e2f29df8adb", func := "loop.example/g01373/laws.FnExactIsClue", spec := "fnExactIsClue", apart := false, narrowed := true }
def FnExactIsClueUptoSaid : Prop := fnExactIsClueUptoRow.holds Try.pinned (OpenSpec.upto fnExactIsClueSpec)

/-- 'laws.FnExactIsPuzzle', WHERE WHAT IT READS IS OF BULK AT MOST 1048576: true; the input reads as it did. -/
def fnExactIsPuzzleUptoRow : OpenClaim := { program := "ytcdebaohefphaaa", sum := "720bc5d1c0920b9b2a46ece588f6ff51859d886f095994b1434b1e2f29df8adb", func := "loop.example/g01373/laws.FnExactIsPuzzle", spec := "fnExactIsPuzzle", unfollowed := true, recurses := true, apart := false, narrowed := true }
def FnExactIsPuzzleUptoSaid : Prop := fnExactIsPuzzleUptoRow.holds Try.pinned (OpenSpec.upto fnExactIsPuzzleSpec)

/-- 'laws.FnExactAddClue', WHERE WHAT IT READS IS OF BULK AT MOST 1048576: true; the input reads as it did. -/
def fnExactAddClueUptoRow : OpenClaim := { program := "ytcdebaohefphaaa", sum := "720bc5d1c0920b9b2a46ece588f6ff51859d886f095994b1434b1e2f29df8adb", func := "loop.example/g01373/laws.FnExactAddClue", spec := "fnExactAddClue", unfollowed := true, recurses := true, apart := false, narrowed := true }
def FnExactAddClueUptoSaid : Prop := fnExactAddClueUptoRow.holds Try.pinned (OpenSpec.upto fnExactAddClueSpec)

/-- 'laws.FnExactDropClue', WHERE WHAT IT READS IS OF BULK AT MOST 1048576: true; the input reads as it did. -/
def fnExactDropClueUptoRow : OpenClaim := { program := "ytcdebaohefphaaa", sum := "720bc5d1c0920b9b2a46ece588f6ff51859d886f095994b1434b1e2f29df8adb", func := "loop.example/g01373/laws.FnExactDropClue", spec := "fnExactDropClue", unfollowed := true, recurses := true, apart := false, narrowed := true }
def FnExactDropClueUptoSaid : Prop := fnExactDropClueUptoRow.holds Try.pinned (OpenSpec.upto fnExactDropClueSpec)

end Rows
end Go.Proofs.Ytcdebaohefphaaa
