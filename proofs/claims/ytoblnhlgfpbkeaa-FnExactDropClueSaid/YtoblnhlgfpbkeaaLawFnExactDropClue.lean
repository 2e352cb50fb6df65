/- Laid by xp.py, a program of this session, over the kit's print: plain Lean functions with the answers of the Go functions, and proofs that the Go calls come to these answers; no condition beside those that each theorem names. -/
import Derived.Test.YtoblnhlgfpbkeaaRows
import Derived.Test.YtoblnhlgfpbkeaaZ7
import Derived.Test.YtoblnhlgfpbkeaaPureFnExactDropClue
import Derived.Test.YtoblnhlgfpbkeaaOpen
import Derived.WalkKit
import Derived.ProofKit
import Derived.OpenShut
import Derived.ShutString
import Derived.ChangeOld
import Derived.Below
import Derived.SizedLaws
import Derived.Lib.SmallJoins
namespace Go.Proofs.Ytoblnhlgfpbkeaa.fnExactDropClue
open Go.ChangeShapes Go.WideShapes Go.ChangeAt Go.RowKit Go.Proofs.Ytoblnhlgfpbkeaa Go.Proofs.Ytoblnhlgfpbkeaa.Z Go.Proofs.YtoblnhlgfpbkeaaW.PrintWords
open Go.ChangeMaps (open_string shut_string)
set_option linter.unusedVariables false
theorem own : ownKnob Try.prog.godebug = none := by kernel_rfl
theorem laidOut : laidOutB Try.prog = true := by kernel_rfl
set_option maxRecDepth 100000 in
theorem lifted (os : Os) (started : os.Started) (H : Type) (enc : TypeId × Value → H) :
    ReturnsInHanded {} Try.checked os 5 .any (Rows.fnExactDropClueSpec.pre6 enc Try.prog Try.f5 Rows.fnExactDropClueRow.domain false) (Rows.fnExactDropClueSpec.post enc Try.prog Try.f5 false true false false) := by
  refine returnsInHanded_of_change_sized (C := Try.checked) own started (by kernel_rfl) Try.func5
    (ChangeSpec.witness6 (enc := enc) (C := Try.checked) false ⟨#[], #[.agg #[.int .i64 0, .slice none 0 0], .int .i64 0], []⟩ 8 (by kernel_rfl) (by kernel_rfl) (by kernel_rfl) (by kernel_rfl)) ?_
  intro W base args ds gs before hval0 hW hcnd hsz0 _
  have hsz : (DataW.weightsEach Try.prog (Try.f5.params.toList ++ Rows.fnExactDropClueSpec.plain.varTypes Try.prog) (ds ++ gs)).all (· ≤ reachBytes) = true := hsz0
  have hval : ∀ (j : Nat) t v, Try.f5.params[j]? = some t → args[j]? = some v → Value.okWide Try.prog W .any base t v := hval0
  have hW' := hW
  obtain ⟨p, q, hA0, hV, rfl, hfz, hnd⟩ := hW
  have hA : DataW.TrodAll enc Try.prog W 0 (fun _ => true) true Try.f5.params.toList args.toList ds p := hA0
  rw [Try.params5] at hA hval hsz
  obtain ⟨v0, vs0, d0, ds0, p0, q0, hargs, rfl, rfl, h0, r0⟩ := trodAll_cons hA
  obtain ⟨v1, vs1, d1, ds1, p1, q1, rfl, rfl, rfl, h1, r1⟩ := trodAll_cons r0
  obtain ⟨rfl, rfl, rfl⟩ := trodAll_nil r1
  obtain rfl : args = #[v0, v1] := by cases args; simp_all
  obtain ⟨rfl, rfl⟩ := trodVars_none hV
  have k0 := h0
  have lt0 : ∀ x ∈ p0, x.block < W.heap.size := by obtain ⟨m, hm⟩ := k0; exact DataW.trod_lt m _ _ _ hm
  obtain ⟨v0_0, v0_1, y0_0, y0_1, n0, rfl, rfl, rfl, t0_0, t0_1⟩ := Joins.open_agg2 Try.underlying24 (by kernel_rfl) (by kernel_rfl) (hval 0 24 v0 rfl rfl) h0
  obtain ⟨a0_0, e0_0, g0_0⟩ := (Open.opens_int Try.underlying3) _ _ _ t0_0
  have e0_0' : [v0_0] = [.int .i64 a0_0] := e0_0
  injection e0_0' with e0_0'' _
  subst e0_0''
  obtain ⟨l0_1, ⟨A0_1, c0_1, e0_1, hc0_1, hr0_1⟩, g0_1, g0_1'⟩ := (Open.opens_slice Try.underlying22 (by kernel_rfl) (Open.opens_struct3 Try.underlying34 (by kernel_rfl) (by kernel_rfl) (Open.opens_int Try.underlying3) (Open.opens_int Try.underlying3) (Open.opens_int Try.underlying3) (fun x : S34 => (x.f0, x.f1, x.f2)) (fun p => (⟨p.1, p.2.1, p.2.2⟩ : S34)) (fun _ => rfl))) _ _ _ t0_1
  have e0_1' : [v0_1] = [.slice A0_1 l0_1.length c0_1] := e0_1
  injection e0_1' with e0_1'' _
  subst e0_1''
  obtain ⟨a1, rfl, rfl, rfl, w1⟩ := open_int Try.underlying3 (hval 1 3 v1 rfl rfl) h1
  clear hA0 hval0 hsz0 hsz
  refine (Z.laws_FnExactDropClue.walk Pure.FnExactDropClue a0_0 A0_1 c0_1 l0_1 a1 W hr0_1 hc0_1 g0_0 g0_1 g0_1' w1).mono fun e W' ⟨he, bel⟩ => ?_
  subst he
  exact ⟨_, rfl, _, _, _, [], _, [], hW', trodAll_mk1 (shut_bool Try.underlying4 _), (trodAll_cons_mk (Below.trod laidOut (by kernel_rfl) (of_decide_eq_true (by kernel_rfl)) k0 bel lt0) (trodAll_cons_mk (shut_int Try.underlying3 w1) trodAll_mk0)), rfl, bel.frame _, fun h => by cases h⟩
theorem over : Rows.fnExactDropClueRow.holds Try.pinned (OpenSpec.ofChange Rows.fnExactDropClueSpec) :=
  OpenClaim.holds_of_wide 5 Try.f5 rfl rfl rfl rfl rfl rfl rfl ⟨rfl, rfl, rfl, rfl, rfl⟩ rfl rfl rfl rfl rfl (by kernel_rfl) Try.func5 (by kernel_rfl)
    (of_decide_eq_true (by kernel_rfl)) (by unfold Func.isWrapper; first | (rw [if_pos (by decide +kernel)]; kernel_rfl) | (rw [if_neg (by decide +kernel)]; exact ⟨rfl, rfl⟩))
    (fun os started H enc _ => lifted os started H enc)
theorem proved : Rows.FnExactDropClueSaid := over
#print axioms proved
end Go.Proofs.Ytoblnhlgfpbkeaa.fnExactDropClue
namespace Go.Proofs.Ytoblnhlgfpbkeaa
/-- The row, under a short name, for the claim. -/
theorem fnExactDropClue_holds : Rows.FnExactDropClueSaid := fnExactDropClue.proved
end Go.Proofs.Ytoblnhlgfpbkeaa
