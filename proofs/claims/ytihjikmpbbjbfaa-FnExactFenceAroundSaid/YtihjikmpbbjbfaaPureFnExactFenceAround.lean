/- The program's FenceAround answers as the reference's FenceAround does, and leaves its list alone, for all arguments that the law lets in; no condition beside that. -/
import Derived.Test.YtihjikmpbbjbfaaZ8
import Derived.Test.YtihjikmpbbjbfaaZLawStr
import Derived.Test.YtihjikmpbbjbfaaZLand
import Derived.Test.YtihjikmpbbjbfaaZOwner
import Derived.Test.YtihjikmpbbjbfaaZSides
namespace Go.Proofs.Ytihjikmpbbjbfaa.Pure
open Go.RowKit Go.Proofs.Ytihjikmpbbjbfaa.Z Go.Proofs.YtihjikmpbbjbfaaW.PrintWords Go.Proofs.YtihjikmpbbjbfaaW.PrintLast Go.Proofs.Ytihjikmpbbjbfaa Go.Proofs.Ytihjikmpbbjbfaa.Owner
set_option linter.unusedVariables false
set_option linter.unusedSimpArgs false

theorem core (l : List ByteArray) (hl : l.length ≤ 1048576) (a : ByteArray) (Q : Nat) (hQ : 3000 < Q) : ∃ v : Int × Bool, spec_FenceAround.f Q l a = some v ∧ impl_FenceAround.f Q l a = some v := by
  obtain ⟨b, hb, hg⟩ := Land.land l hl
  obtain ⟨g1, g2⟩ := hg Q (by omega)
  unfold spec_FenceAround.f impl_FenceAround.f spec_fiAsked.f impl_isOwned.f
  rw [g1, g2, owner_some]
  cases b with
  | false => exact ⟨(0, false), rfl, rfl⟩
  | true =>
    have ok := hb.1 rfl
    simp only [Option.bind_some, if_true, Bool.true_and, List.all_cons, List.all_nil, Bool.and_true]
    by_cases hc : impl_isColour.colour a = true
    · obtain ⟨s1, c1, c2⟩ := colour_size a hc
      rw [hc, if_pos rfl, if_pos rfl, if_pos (by omega), Sides.fences l ok (bt a 0) 0 Q (by omega), Sides.sides l ok (bt a 0) Q (by omega), Sides.around l ok (bt a 0) ⟨c1, c2⟩]
      exact ⟨_, rfl, rfl⟩
    · have hc := Bool.eq_false_iff.mpr hc
      rw [hc]
      exact ⟨(0, false), rfl, rfl⟩

theorem FnExactFenceAround : laws_FnExactFenceAround.Pure := by
  intro l a hm hs _
  by_cases ha : (a.size : Int) > 1048576
  · refine ⟨0, ?_⟩
    unfold laws_FnExactFenceAround.f
    rw [if_pos ha]
  rcases LawStr.sized l hm hs with ⟨r, hr, K, hK⟩ | ⟨hl, hs', r, hr, hK⟩
  · refine ⟨K, ?_⟩
    unfold laws_FnExactFenceAround.f
    rw [if_neg ha, hK K (Nat.le_refl _), Option.bind_some, if_pos hr]
  · obtain ⟨Q, hQ⟩ : ∃ Q, Q = l.length + 5000 := ⟨_, rfl⟩
    obtain ⟨v, v1, v2⟩ := core l hl a Q (by omega)
    have e1 := LawStr.toStringS l hl Q (by omega)
    have e2 := LawStr.eqStringS l hl Q (by omega)
    have n0 : ¬ r < 0 := by omega
    refine ⟨Q, ?_⟩
    unfold laws_FnExactFenceAround.f
    rw [if_neg ha, hK Q (by omega)]
    simp [e1, e2, v1, v2, n0]
end Go.Proofs.Ytihjikmpbbjbfaa.Pure
