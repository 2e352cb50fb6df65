/-
  No cell of these rows narrows 'for every input' (looked for: loops, veiled, ifaces, maps, wideKeys, modest, calm, conditions, laid).
  DERIVED. THE GIVEN ROWS OF THIS SEAT. 4 by the template 'for every input the law returns true; each argument reads behind the call as it read before'; 0 by the template 'total and deterministic' (their statements: YtelfljoapaoeoaaTotals.lean).
  GIVEN WITH THE SEED: the statements are not yours to turn. If you find one false, say at which input.
  Laid BY PROGRAM, IN A SANDBOX (cutbox-rows.mjs): the forced cells as the released guide's own fill.sh prints them over the translation e6bc461256b1cef3… (all of the seat's roots in one cut). By AI agents, Wed Nov 11 2026. No macro, syntax, notation, axiom, sorry.
-/
import Derived.Test.YtelfljoapaoeoaaChecked
import GoSem.Claim
import GoSem.ClaimJoined
import GoSem.ClaimMapViews
import Derived.JoinedTies
import Derived.KernelRfl
namespace Go.Proofs.Ytelfljoapaoeoaa
/- THE CELL 'sum', in the pinned program and in every row, IS THE sha256 OF THE DUMP (.gsa) THAT YtelfljoapaoeoaaProg.lean LOADS. Nothing in Lean hashes anything: it is a label: what it is worth is what the hold of that sum in a sandbox is worth. -/
noncomputable def Try.pinned : Pinned := { name := "ytelfljoapaoeoaa", sum := "e6bc461256b1cef3a0e7b967b5e502c65bff572881cbcfbb94eb2851c91e0820", checked := Try.checked }
namespace Rows
def none {H : Type} : Left H := { results := [], args := [] }

/-- 'laws.FnExactGatesOfRank': WHATEVER THE INPUT: true; the input reads as it did. -/
def fnExactGatesOfRankSpec : ChangeSpec := { name := "fnExactGatesOfRank", fn := fun _ => fun
  | [d1, d2, d3] => { results := [.lit (.bool true)], args := [d1, d2, d3] }
  | _ => none }
def fnExactGatesOfRankRow : OpenClaim := { program := "ytelfljoapaoeoaa", sum := "e6bc461256b1cef3a0e7b967b5e502c65bff572881cbcfbb94eb2851c91e0820", func := "loop.example/g01373/laws.FnExactGatesOfRank", spec := "fnExactGatesOfRank", apart := false }
def FnExactGatesOfRankSaid : Prop := fnExactGatesOfRankRow.holds Try.pinned (OpenSpec.ofChange fnExactGatesOfRankSpec)

/-- ITS FALSE NEIGHBOUR: 'it returns false'. Refute it at one input. -/
def fnExactGatesOfRankWrong : ChangeSpec := { name := "fnExactGatesOfRank", fn := fun _ => fun
  | [d1, d2, d3] => { results := [.lit (.bool false)], args := [d1, d2, d3] }
  | _ => none }
def FnExactGatesOfRankWrongFalsely : Prop := fnExactGatesOfRankRow.holds Try.pinned (OpenSpec.ofChange fnExactGatesOfRankWrong)

/-- 'laws.FnExactRankOfGates': WHATEVER THE INPUT: true; the input reads as it did. -/
def fnExactRankOfGatesSpec : ChangeSpec := { name := "fnExactRankOfGates", fn := fun _ => fun
  | [d1, d2] => { results := [.lit (.bool true)], args := [d1, d2] }
  | _ => none }
def fnExactRankOfGatesRow : OpenClaim := { program := "ytelfljoapaoeoaa", sum := "e6bc461256b1cef3a0e7b967b5e502c65bff572881cbcfbb94eb2851c91e0820", func := "loop.example/g01373/laws.FnExactRankOfGates", spec := "fnExactRankOfGates", unfollowed := true, recurses := true, apart := false }
def FnExactRankOfGatesSaid : Prop := fnExactRankOfGatesRow.holds Try.pinned (OpenSpec.ofChange fnExactRankOfGatesSpec)

/-- ITS FALSE NEIGHBOUR: 'it returns false'. Refute it at one input. -/
def fnExactRankOfGatesWrong : ChangeSpec := { name := "fnExactRankOfGates", fn := fun _ => fun
  | [d1, d2] => { results := [.lit (.bool false)], args := [d1, d2] }
  | _ => none }
def FnExactRankOfGatesWrongFalsely : Prop := fnExactRankOfGatesRow.holds Try.pinned (OpenSpec.ofChange fnExactRankOfGatesWrong)

/-- 'laws.FnExactBestGate': WHATEVER THE INPUT: true; the input reads as it did. -/
def fnExactBestGateSpec : ChangeSpec := { name := "fnExactBestGate", fn := fun _ => fun
  | [d1, d2] => { results := [.lit (.bool true)], args := [d1, d2] }
  | _ => none }
def fnExactBestGateRow : OpenClaim := { program := "ytelfljoapaoeoaa", sum := "e6bc461256b1cef3a0e7b967b5e502c65bff572881cbcfbb94eb2851c91e0820", func := "loop.example/g01373/laws.FnExactBestGate", spec := "fnExactBestGate", unfollowed := true, recurses := true, apart := false }
def FnExactBestGateSaid : Prop := fnExactBestGateRow.holds Try.pinned (OpenSpec.ofChange fnExactBestGateSpec)

/-- ITS FALSE NEIGHBOUR: 'it returns false'. Refute it at one input. -/
def fnExactBestGateWrong : ChangeSpec := { name := "fnExactBestGate", fn := fun _ => fun
  | [d1, d2] => { results := [.lit (.bool false)], args := [d1, d2] }
  | _ => none }
def FnExactBestGateWrongFalsely : Prop := fnExactBestGateRow.holds Try.pinned (OpenSpec.ofChange fnExactBestGateWrong)

/-- 'laws.FnExactTakeGate': WHATEVER THE INPUT: true; the input reads as it did. -/
def fnExactTakeGateSpec : ChangeSpec := { name := "fnExactTakeGate", fn := fun _ => fun
  | [d1, d2, d3] => { results := [.lit (.bool true)], args := [d1, d2, d3] }
  | _ => none }
def fnExactTakeGateRow : OpenClaim := { program := "ytelfljoapaoeoaa", sum := "e6bc461256b1cef3a0e7b967b5e502c65bff572881cbcfbb94eb2851c91e0820", func := "loop.example/g01373/laws.FnExactTakeGate", spec := "fnExactTakeGate", unfollowed := true, recurses := true, apart := false }
def FnExactTakeGateSaid : Prop := fnExactTakeGateRow.holds Try.pinned (OpenSpec.ofChange fnExactTakeGateSpec)

/-- ITS FALSE NEIGHBOUR: 'it returns false'. Refute it at one input. -/
def fnExactTakeGateWrong : ChangeSpec := { name := "fnExactTakeGate", fn := fun _ => fun
  | [d1, d2, d3] => { results := [.lit (.bool false)], args := [d1, d2, d3] }
  | _ => none }
def FnExactTakeGateWrongFalsely : Prop := fnExactTakeGateRow.holds Try.pinned (OpenSpec.ofChange fnExactTakeGateWrong)

/- THE SECOND FORM. 'bulk': how many values and letters a reading holds, each counted each time it is reached (what is shared counts as often as it is met; a slice's spare places count too). A statement '..UptoSaid' is the law's where the arguments, and the package variables that the reading takes, are together of bulk at most 1048576: NARROWER than '..Said'. Prove '..Said' where nothing that the law and all that it calls make is longer than what came in: it says more and counts as full. Else prove '..UptoSaid'. A law counts once. -/
mutual
def uptoBulk {H : Type} : DataW H → Nat
  | .lit (.string bytes) => bytes.length + 1
  | .lit _ => 1
  | .nil => 1
  | .ptr d => uptoBulk d + 1
  | .slice elems spare => uptoBulkAll elems + uptoBulkAll spare + 1
  | .agg parts => uptoBulkAll parts + 1
  | .iface _ d => uptoBulk d + 1
  | .map entries => uptoBulkEntries entries + 1
  | .held _ => 1
def uptoBulkAll {H : Type} : List (DataW H) → Nat
  | [] => 0
  | d :: r => uptoBulk d + uptoBulkAll r
def uptoBulkEntries {H : Type} : List (Lit × DataW H) → Nat
  | [] => 0
  | x :: r => uptoBulkEntry x + uptoBulkEntries r
def uptoBulkEntry {H : Type} : Lit × DataW H → Nat
  | (.string bytes, d) => bytes.length + uptoBulk d + 1
  | (_, d) => uptoBulk d + 1
 end
def uptoSmall : (H : Type) → List (DataW H) → Bool := fun _ ds => decide (uptoBulkAll ds ≤ 1048576)
def OpenSpec.upto (s : _root_.Go.ChangeSpec) : _root_.Go.OpenSpec := { _root_.Go.OpenSpec.ofChange s with cond := some uptoSmall }

/-- 'laws.FnExactGatesOfRank', WHERE WHAT IT READS IS OF BULK AT MOST 1048576: true; the input reads as it did. -/
def fnExactGatesOfRankUptoRow : OpenClaim := { program := "ytelfljoapaoeoaa", sum := "e6bc461256b1cef3a0e7b967b5e502c65bff572881cbcfbb94eb2851c91e0820", func := "loop.example/g01373/laws.FnExactGatesOfRank", spec := "fnExactGatesOfRank", apart := false, narrowed := true }
def FnExactGatesOfRankUptoSaid : Prop := fnExactGatesOfRankUptoRow.holds Try.pinned (OpenSpec.upto fnExactGatesOfRankSpec)

/-- 'laws.FnExactRankOfGates', WHERE WHAT IT READS IS OF BULK AT MOST 1048576: true; the input reads as it did. -/
def fnExactRankOfGatesUptoRow : OpenClaim := { program := "ytelfljoapaoeoaa", sum := "e6bc461256b1cef3a0e7b967b5e502c65bff572881cbcfbb94eb2851c91e0820", func := "loop.example/g01373/laws.FnExactRankOfGates", spec := "fnExactRankOfGates", unfollowed := true, recurses := true, apart := false, narrowed := true }
def FnExactRankOfGatesUptoSaid : Prop := fnExactRankOfGatesUptoRow.holds Try.pinned (OpenSpec.upto fnExactRankOfGatesSpec)

/-- 'laws.FnExactBestGate', WHERE WHAT IT READS IS OF BULK AT MOST 1048576: true; the input reads as it did. -/
def fnExactBestGateUptoRow : OpenClaim := { program := "ytelfljoapaoeoaa", sum := "e6bc461256b1cef3a0e7b967b5e502c65bff572881cbcfbb94eb2851c91e0820", func := "loop.example/g01373/laws.FnExactBestGate", spec := "fnExactBestGate", unfollowed := true, recurses := true, apart := false, narrowed := true }
def FnExactBestGateUptoSaid : Prop := fnExactBestGateUptoRow.holds Try.pinned (OpenSpec.upto fnExactBestGateSpec)

/-- 'laws.FnExactTakeGate', WHERE WHAT IT READS IS OF BULK AT MOST 1048576: true; the input reads as it did. -/
def fnExactTakeGateUptoRow : OpenClaim := { program := "ytelfljoapaoeoaa", sum := "e6bc461256b1cef3a0e7b967b5e502c65bff572881cbcfbb94eb2851c91e0820", func := "loop.example/g01373/laws.FnExactTakeGate", spec := "fnExactTakeGate", unfollowed := true, recurses := true, apart := false, narrowed := true }
def FnExactTakeGateUptoSaid : Prop := fnExactTakeGateUptoRow.holds Try.pinned (OpenSpec.upto fnExactTakeGateSpec)

end Rows
end Go.Proofs.Ytelfljoapaoeoaa
