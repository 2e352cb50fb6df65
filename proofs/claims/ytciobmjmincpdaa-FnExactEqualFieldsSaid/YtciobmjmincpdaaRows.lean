/-
  No cell of these rows narrows 'for every input' (looked for: loops, veiled, ifaces, maps, wideKeys, modest, calm, conditions, laid).
  DERIVED. THE GIVEN ROWS OF THIS SEAT. 4 by the template 'for every input the law returns true; each argument reads behind the call as it read before'; 0 by the template 'total and deterministic' (their statements: YtciobmjmincpdaaTotals.lean).
  GIVEN WITH THE SEED: the statements are not yours to turn. If you find one false, say at which input.
  Laid BY PROGRAM, IN A SANDBOX (cutbox-rows.mjs): the forced cells as the released guide's own fill.sh prints them over the translation 53c607ba4c6de89c… (all of the seat's roots in one cut). By AI agents, Wed Nov 11 2026. No macro, syntax, notation, axiom, sorry.
-/
import Derived.Test.YtciobmjmincpdaaChecked
import GoSem.Claim
import GoSem.ClaimJoined
import GoSem.ClaimMapViews
import Derived.JoinedTies
import Derived.KernelRfl
namespace Go.Proofs.Ytciobmjmincpdaa
/- THE CELL 'sum', in the pinned program and in every row, IS THE sha256 OF THE DUMP (.gsa) THAT YtciobmjmincpdaaProg.lean LOADS. Nothing in Lean hashes anything: it is a label: what it is worth is what the hold of that sum in a sandbox is worth. -/
noncomputable def Try.pinned : Pinned := { name := "ytciobmjmincpdaa", sum := "53c607ba4c6de89cec72e3dc8287fd488c0a60b872093804d5e25bd6b81bcafb", checked := Try.checked }
namespace Rows
def none {H : Type} : Left H := { results := [], args := [] }

/-- 'laws.FnExactSquaresInField': WHATEVER THE INPUT: true; the input reads as it did. -/
def fnExactSquaresInFieldSpec : ChangeSpec := { name := "fnExactSquaresInField", fn := fun _ => fun
  | [d1, d2] => { results := [.lit (.bool true)], args := [d1, d2] }
  | _ => none }
def fnExactSquaresInFieldRow : OpenClaim := { program := "ytciobmjmincpdaa", sum := "53c607ba4c6de89cec72e3dc8287fd488c0a60b872093804d5e25bd6b81bcafb", func := "loop.example/g01373/laws.FnExactSquaresInField", spec := "fnExactSquaresInField", unfollowed := true, recurses := true, apart := false }
def FnExactSquaresInFieldSaid : Prop := fnExactSquaresInFieldRow.holds Try.pinned (OpenSpec.ofChange fnExactSquaresInFieldSpec)

/-- ITS FALSE NEIGHBOUR: 'it returns false'. Refute it at one input. -/
def fnExactSquaresInFieldWrong : ChangeSpec := { name := "fnExactSquaresInField", fn := fun _ => fun
  | [d1, d2] => { results := [.lit (.bool false)], args := [d1, d2] }
  | _ => none }
def FnExactSquaresInFieldWrongFalsely : Prop := fnExactSquaresInFieldRow.holds Try.pinned (OpenSpec.ofChange fnExactSquaresInFieldWrong)

/-- 'laws.FnExactRectanglesByFence': WHATEVER THE INPUT: true; the input reads as it did. -/
def fnExactRectanglesByFenceSpec : ChangeSpec := { name := "fnExactRectanglesByFence", fn := fun _ => fun
  | [d] => { results := [.lit (.bool true)], args := [d] }
  | _ => none }
def fnExactRectanglesByFenceRow : OpenClaim := { program := "ytciobmjmincpdaa", sum := "53c607ba4c6de89cec72e3dc8287fd488c0a60b872093804d5e25bd6b81bcafb", func := "loop.example/g01373/laws.FnExactRectanglesByFence", spec := "fnExactRectanglesByFence", apart := false }
def FnExactRectanglesByFenceSaid : Prop := fnExactRectanglesByFenceRow.holds Try.pinned (OpenSpec.ofChange fnExactRectanglesByFenceSpec)

/-- ITS FALSE NEIGHBOUR: 'it returns false'. Refute it at one input. -/
def fnExactRectanglesByFenceWrong : ChangeSpec := { name := "fnExactRectanglesByFence", fn := fun _ => fun
  | [d] => { results := [.lit (.bool false)], args := [d] }
  | _ => none }
def FnExactRectanglesByFenceWrongFalsely : Prop := fnExactRectanglesByFenceRow.holds Try.pinned (OpenSpec.ofChange fnExactRectanglesByFenceWrong)

/-- 'laws.FnExactRectanglesByArea': WHATEVER THE INPUT: true; the input reads as it did. -/
def fnExactRectanglesByAreaSpec : ChangeSpec := { name := "fnExactRectanglesByArea", fn := fun _ => fun
  | [d] => { results := [.lit (.bool true)], args := [d] }
  | _ => none }
def fnExactRectanglesByAreaRow : OpenClaim := { program := "ytciobmjmincpdaa", sum := "53c607ba4c6de89cec72e3dc8287fd488c0a60b872093804d5e25bd6b81bcafb", func := "loop.example/g01373/laws.FnExactRectanglesByArea", spec := "fnExactRectanglesByArea", apart := false }
def FnExactRectanglesByAreaSaid : Prop := fnExactRectanglesByAreaRow.holds Try.pinned (OpenSpec.ofChange fnExactRectanglesByAreaSpec)

/-- ITS FALSE NEIGHBOUR: 'it returns false'. Refute it at one input. -/
def fnExactRectanglesByAreaWrong : ChangeSpec := { name := "fnExactRectanglesByArea", fn := fun _ => fun
  | [d] => { results := [.lit (.bool false)], args := [d] }
  | _ => none }
def FnExactRectanglesByAreaWrongFalsely : Prop := fnExactRectanglesByAreaRow.holds Try.pinned (OpenSpec.ofChange fnExactRectanglesByAreaWrong)

/-- 'laws.FnExactEqualFields': WHATEVER THE INPUT: true; the input reads as it did. -/
def fnExactEqualFieldsSpec : ChangeSpec := { name := "fnExactEqualFields", fn := fun _ => fun
  | [d] => { results := [.lit (.bool true)], args := [d] }
  | _ => none }
def fnExactEqualFieldsRow : OpenClaim := { program := "ytciobmjmincpdaa", sum := "53c607ba4c6de89cec72e3dc8287fd488c0a60b872093804d5e25bd6b81bcafb", func := "loop.example/g01373/laws.FnExactEqualFields", spec := "fnExactEqualFields", apart := false }
def FnExactEqualFieldsSaid : Prop := fnExactEqualFieldsRow.holds Try.pinned (OpenSpec.ofChange fnExactEqualFieldsSpec)

/-- ITS FALSE NEIGHBOUR: 'it returns false'. Refute it at one input. -/
def fnExactEqualFieldsWrong : ChangeSpec := { name := "fnExactEqualFields", fn := fun _ => fun
  | [d] => { results := [.lit (.bool false)], args := [d] }
  | _ => none }
def FnExactEqualFieldsWrongFalsely : Prop := fnExactEqualFieldsRow.holds Try.pinned (OpenSpec.ofChange fnExactEqualFieldsWrong)

/- THE SECOND FORM. 'bulk': how many values and letters a reading holds, each counted each time it is reached (what is shared counts as often as it is met; a slice's spare places count too). A statement '..UptoSaid' is the law's where the arguments, and the package variables that the reading takes, are together of bulk at most 1048576: NARROWER than '..Said'. Prove '..Said' where nothing that the law and all that it calls make is longer than what came in: it says more and counts as full. Else prove '..UptoSaid'. A law counts once. -/
mutual
def uptoBulk {H : Type} : DataW H → Nat
  | .lit (.string bytes) => bytes.length + 1
  | .lit _ => 1
  | .nil => 1
  | .ptr d => uptoBulk d + 1
  | .slice elems spare => uptoBulkAll elems + uptoBulkAll spare + 1
  | .agg parts => uptoBulkAll parts + 1
  | .iface _ d => uptoBulk d + 1
  | .map entries => uptoBulkEntries entries + 1
  | .held _ => 1
def uptoBulkAll {H : Type} : List (DataW H) → Nat
  | [] => 0
  | d :: r => uptoBulk d + uptoBulkAll r
def uptoBulkEntries {H : Type} : List (Lit × DataW H) → Nat
  | [] => 0
  | x :: r => uptoBulkEntry x + uptoBulkEntries r
def uptoBulkEntry {H : Type} : Lit × DataW H → Nat
  | (.string bytes, d) => bytes.length + uptoBulk d + 1
  | (_, d) => uptoBulk d + 1
 end
def uptoSmall : (H : Type) → List (DataW H) → Bool := fun _ ds => decide (uptoBulkAll ds ≤ 1048576)
def OpenSpec.upto (s : _root_.Go.ChangeSpec) : _root_.Go.OpenSpec := { _root_.Go.OpenSpec.ofChange s with cond := some uptoSmall }

/-- 'laws.FnExactSquaresInField', WHERE WHAT IT READS IS OF BULK AT MOST 1048576: true; the input reads as it did. -/
def fnExactSquaresInFieldUptoRow : OpenClaim := { program := "ytciobmjmincpdaa", sum := "53c607ba4c6de89cec72e3dc8287fd488c0a60b872093804d5e25bd6b81bcafb", func := "loop.example/g01373/laws.FnExactSquaresInField", spec := "fnExactSquaresInField", unfollowed := true, recurses := true, apart := false, narrowed := true }
def FnExactSquaresInFieldUptoSaid : Prop := fnExactSquaresInFieldUptoRow.holds Try.pinned (OpenSpec.upto fnExactSquaresInFieldSpec)

/-- 'laws.FnExactRectanglesByFence', WHERE WHAT IT READS IS OF BULK AT MOST 1048576: true; the input reads as it did. -/
def fnExactRectanglesByFenceUptoRow : OpenClaim := { program := "ytciobmjmincpdaa", sum := "53c607ba4c6de89cec72e3dc8287fd488c0a60b872093804d5e25bd6b81bcafb", func := "loop.example/g01373/laws.FnExactRectanglesByFence", spec := "fnExactRectanglesByFence", apart := false, narrowed := true }
def FnExactRectanglesByFenceUptoSaid : Prop := fnExactRectanglesByFenceUptoRow.holds Try.pinned (OpenSpec.upto fnExactRectanglesByFenceSpec)

/-- 'laws.FnExactRectanglesByArea', WHERE WHAT IT READS IS OF BULK AT MOST 1048576: true; the input reads as it did. -/
def fnExactRectanglesByAreaUptoRow : OpenClaim := { program := "ytciobmjmincpdaa", sum := "53c607ba4c6de89cec72e3dc8287fd488c0a60b872093804d5e25bd6b81bcafb", func := "loop.example/g01373/laws.FnExactRectanglesByArea", spec := "fnExactRectanglesByArea", apart := false, narrowed := true }
def FnExactRectanglesByAreaUptoSaid : Prop := fnExactRectanglesByAreaUptoRow.holds Try.pinned (OpenSpec.upto fnExactRectanglesByAreaSpec)

/-- 'laws.FnExactEqualFields', WHERE WHAT IT READS IS OF BULK AT MOST 1048576: true; the input reads as it did. -/
def fnExactEqualFieldsUptoRow : OpenClaim := { program := "ytciobmjmincpdaa", sum := "53c607ba4c6de89cec72e3dc8287fd488c0a60b872093804d5e25bd6b81bcafb", func := "loop.example/g01373/laws.FnExactEqualFields", spec := "fnExactEqualFields", apart := false, narrowed := true }
def FnExactEqualFieldsUptoSaid : Prop := fnExactEqualFieldsUptoRow.holds Try.pinned (OpenSpec.upto fnExactEqualFieldsSpec)

end Rows
end Go.Proofs.Ytciobmjmincpdaa
