/- The program's IsClue answers as the reference's IsClue does, for all numbers; no condition beside that. -/
import Derived.Test.YtaafinjkjnejjaaX4
namespace Go.Proofs.Ytaafinjkjnejjaa.Pure
open Go.RowKit Go.Proofs.Ytaafinjkjnejjaa.X Go.Proofs.YtaafinjkjnejjaaW.PrintWords Go.Proofs.YtaafinjkjnejjaaW.PrintLast
set_option linter.unusedVariables false
set_option linter.unusedSimpArgs false

theorem wid {x : Int} (h0 : -9223372036854775808 ≤ x) (h1 : x ≤ 9223372036854775807) : wrap64 x = x := by unfold wrap64; omega
theorem within_some (a b c : Int) : impl_within.f a b c = some (decide (b ≤ a ∧ a ≤ c)) := by
  unfold impl_within.f
  by_cases h : a ≥ b
  · rw [if_pos h]; congr 1; simp [show b ≤ a from h]
  · rw [if_neg h]; congr 1; simp [show ¬ b ≤ a from h]
theorem in_some (a b c : Int) : spec_l1In.f a b c = some (decide (b ≤ a ∧ a ≤ c)) := by
  unfold spec_l1In.f
  by_cases h : a ≥ b
  · rw [if_pos h]; congr 1; simp [show b ≤ a from h]
  · rw [if_neg h]; congr 1; simp [show ¬ b ≤ a from h]

/-- What a clue is, of so many boards. -/
theorem clue (a K A B : Int) (h : 2 ≤ a ∧ a ≤ 5) (k : Nat) : ∃ b, spec_pzClue.f (k + 2) a K A B = some b ∧ ((impl_within.f B 0 5).bind fun t => impl_IsClue.j0 (k + 3) a (!t) K A B) = some b := by
  unfold spec_pzClue.f
  rw [in_some, within_some]
  simp only [Option.bind_some]
  by_cases hB : 0 ≤ B ∧ B ≤ 5
  · rw [decide_eq_true hB, if_pos rfl]
    simp only [impl_IsClue.j0, Bool.not_true]
    rw [if_neg Bool.false_ne_true]
    by_cases h0 : K = 0
    · subst h0
      simp [spec_pzClue.j0, impl_IsClue.j1]
    · rw [if_neg h0, if_neg h0]
      by_cases h2 : K = 2
      · subst h2
        simp [spec_pzClue.j0, impl_IsClue.j1]
      · rw [if_neg h2, if_neg h2]
        by_cases h5 : K = 5
        · subst h5
          simp [spec_pzClue.j0, impl_IsClue.j1]
        · rw [beq_eq_false_iff_ne.2 h5]
          simp only [spec_pzClue.j0, impl_IsClue.j1]
          rw [if_neg Bool.false_ne_true, if_neg Bool.false_ne_true, in_some, in_some, in_some, in_some, within_some, within_some, within_some, within_some, wid (x := a - 1) (by omega) (by omega), wid (x := a - 2) (by omega) (by omega)]
          simp only [Option.bind_some]
          have e : decide (B < 2) = decide (B ≤ 1) := by
            by_cases q : B ≤ 1
            · rw [decide_eq_true q, decide_eq_true (by omega)]
            · rw [decide_eq_false q, decide_eq_false (by omega)]
          rw [e]
          repeat' split
          all_goals exact ⟨_, rfl, rfl⟩
  · rw [decide_eq_false hB, if_neg (by simp)]
    exact ⟨false, rfl, by simp [impl_IsClue.j0]⟩

theorem FnExactIsClue : laws_FnExactIsClue.Pure := by
  intro a K A B _ _ _ _
  refine ⟨13, ?_⟩
  have h : ∃ r, spec_IsClue.f 13 a K A B = some r ∧ impl_IsClue.f 13 a K A B = some r := by
    unfold spec_IsClue.f impl_IsClue.f spec_pzBoards.f impl_isHiddenSize.f
    rw [in_some, within_some]
    simp only [Option.bind_some]
    by_cases h : 2 ≤ a ∧ a ≤ 5
    · rw [decide_eq_true h, if_pos rfl, if_pos rfl]
      obtain ⟨b, h1, _⟩ := clue a K A B h 11
      obtain ⟨b2, h3, h4⟩ := clue a K A B h 10
      have e : b = b2 := by
        have := at_rounds (g := fun k => spec_pzClue.f k a K A B) (spec_pzClue.mono a K A B) (show 12 ≤ 13 by omega) h3
        exact Option.some.inj (h1.symm.trans this)
      subst e
      exact ⟨b, by rw [h1]; rfl, h4⟩
    · rw [decide_eq_false h]
      exact ⟨false, rfl, rfl⟩
  obtain ⟨r, hs, hi⟩ := h
  unfold laws_FnExactIsClue.f laws_toClue.f
  simp only [Option.bind_some]
  rw [hs, hi]
  simp
end Go.Proofs.Ytaafinjkjnejjaa.Pure
