/- The program's AllFences answers as the reference's AllFences does, and leaves its list alone, for all arguments that the law lets in; no condition beside that. -/
import Derived.Test.YtihjikmpbbjbfaaZ9
import Derived.Test.YtihjikmpbbjbfaaZLawStr
import Derived.Test.YtihjikmpbbjbfaaZLand
import Derived.Test.YtihjikmpbbjbfaaZSides
namespace Go.Proofs.Ytihjikmpbbjbfaa.Pure
open Go.RowKit Go.Proofs.Ytihjikmpbbjbfaa.Z Go.Proofs.YtihjikmpbbjbfaaW.PrintWords Go.Proofs.YtihjikmpbbjbfaaW.PrintLast Go.Proofs.Ytihjikmpbbjbfaa
set_option linter.unusedVariables false
set_option linter.unusedSimpArgs false

theorem core (l : List ByteArray) (hl : l.length ≤ 1048576) (Q : Nat) (hQ : 3000 < Q) : ∃ v : Int × Bool, spec_AllFences.f Q l = some v ∧ impl_AllFences.f Q l = some v := by
  obtain ⟨b, hb, hg⟩ := Land.land l hl
  obtain ⟨g1, g2⟩ := hg Q (by omega)
  unfold spec_AllFences.f impl_AllFences.f
  rw [g1, g2]
  cases b with
  | false => exact ⟨(0, false), rfl, rfl⟩
  | true =>
    have ok := hb.1 rfl
    simp only [Option.bind_some, if_true]
    rw [Sides.fences l ok 0 0 Q (by omega), Sides.sides l ok 1000 Q (by omega), Sides.sides l ok 1001 Q (by omega)]
    have h := Sides.whole l ok
    have n1 := Sides.T_nonneg l 1000
    have n2 := Sides.T_nonneg l 1001
    have nf := Sides.F_b l ok 0 0
    generalize Sides.T l (Sides.isI 1000) = n at *
    generalize Sides.T l (Sides.isI 1001) = m at *
    generalize Sides.F l 0 0 = f at *
    have e : n.tdiv 2 = f - m := by
      rw [show n = (f - m) * 2 from by omega]
      exact Int.mul_tdiv_cancel _ (by omega)
    have w1 : wrap64 (f - m) = f - m := LawStr.wid (by omega) (by omega)
    have w2 : wrap64 (f - m + m) = f := by rw [LawStr.wid (by omega) (by omega)]; omega
    refine ⟨(f, true), rfl, ?_⟩
    simp only [Option.bind_some]
    rw [e, w1, w2]

theorem FnExactAllFences : laws_FnExactAllFences.Pure := by
  intro l hm hs
  rcases LawStr.sized l hm hs with ⟨r, hr, K, hK⟩ | ⟨hl, hs', r, hr, hK⟩
  · refine ⟨K, ?_⟩
    unfold laws_FnExactAllFences.f
    simp [hK K (Nat.le_refl _), hr]
  · obtain ⟨Q, hQ⟩ : ∃ Q, Q = l.length + 5000 := ⟨_, rfl⟩
    obtain ⟨v, v1, v2⟩ := core l hl Q (by omega)
    have e1 := LawStr.toStringS l hl Q (by omega)
    have e2 := LawStr.eqStringS l hl Q (by omega)
    have n0 : ¬ r < 0 := by omega
    refine ⟨Q, ?_⟩
    unfold laws_FnExactAllFences.f
    simp [hK Q (by omega), e1, e2, v1, v2, n0]
end Go.Proofs.Ytihjikmpbbjbfaa.Pure
