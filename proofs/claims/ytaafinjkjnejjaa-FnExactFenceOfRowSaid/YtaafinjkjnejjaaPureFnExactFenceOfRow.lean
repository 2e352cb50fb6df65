/- The program's FenceOfRow answers as the reference's FenceOfRow does, for all numbers; no condition beside that. -/
import Derived.Test.YtaafinjkjnejjaaX1
namespace Go.Proofs.Ytaafinjkjnejjaa.Pure
open Go.RowKit Go.Proofs.Ytaafinjkjnejjaa.X Go.Proofs.YtaafinjkjnejjaaW.PrintWords Go.Proofs.YtaafinjkjnejjaaW.PrintLast
set_option linter.unusedVariables false
set_option linter.unusedSimpArgs false

theorem in_some (a b c : Int) : spec_l1In.f a b c = some (decide (b ≤ a ∧ a ≤ c)) := by
  unfold spec_l1In.f
  by_cases h : a ≥ b
  · rw [if_pos h]; congr 1; simp [show b ≤ a from h]
  · rw [if_neg h]; congr 1; simp [show ¬ b ≤ a from h]
theorem sides_one (a b : Int) : impl_areSides.f b [a] = some (decide (1 ≤ a ∧ a ≤ b)) := by unfold impl_areSides.f impl_allWithin.f; simp
theorem sides_two (a c b : Int) : impl_areSides.f b [a, c] = some (decide (1 ≤ a ∧ a ≤ b) && decide (1 ≤ c ∧ c ≤ b)) := by unfold impl_areSides.f impl_allWithin.f; simp

theorem FnExactFenceOfRow : laws_FnExactFenceOfRow.Pure := by
  intro a b c _ _ _
  have h : spec_FenceOfRow.f a b c = impl_FenceOfRow.f a b c ∧ ∃ r, impl_FenceOfRow.f a b c = some r := by
    unfold spec_FenceOfRow.f impl_FenceOfRow.f spec_fiSide.f
    rw [in_some, in_some, in_some, sides_one, sides_two]
    simp only [Option.bind_some]
    cases decide (1 ≤ a ∧ a ≤ 100) <;> cases decide (1 ≤ b ∧ b ≤ 1000) <;> cases decide (1 ≤ c ∧ c ≤ 1000) <;> simp
  obtain ⟨h1, r, h2⟩ := h
  unfold laws_FnExactFenceOfRow.f
  rw [h1, h2]
  simp
end Go.Proofs.Ytaafinjkjnejjaa.Pure
