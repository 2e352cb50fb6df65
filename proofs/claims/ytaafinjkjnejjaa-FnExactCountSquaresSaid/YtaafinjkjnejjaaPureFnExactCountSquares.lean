/- The program's CountSquares answers as the reference's CountSquares does, for all numbers; no condition beside that. -/
import Derived.Test.YtaafinjkjnejjaaX2
namespace Go.Proofs.Ytaafinjkjnejjaa.Pure
open Go.RowKit Go.Proofs.Ytaafinjkjnejjaa.X Go.Proofs.YtaafinjkjnejjaaW.PrintWords Go.Proofs.YtaafinjkjnejjaaW.PrintLast
set_option linter.unusedVariables false
set_option linter.unusedSimpArgs false

theorem wid {x : Int} (h0 : -9223372036854775808 ≤ x) (h1 : x ≤ 9223372036854775807) : wrap64 x = x := by unfold wrap64; omega
theorem in_some (a b c : Int) : spec_l1In.f a b c = some (decide (b ≤ a ∧ a ≤ c)) := by
  unfold spec_l1In.f
  by_cases h : a ≥ b
  · rw [if_pos h]; congr 1; simp [show b ≤ a from h]
  · rw [if_neg h]; congr 1; simp [show ¬ b ≤ a from h]
theorem sides_two (a c b : Int) : impl_areSides.f b [a, c] = some (decide (1 ≤ a ∧ a ≤ b) && decide (1 ≤ c ∧ c ≤ b)) := by unfold impl_areSides.f impl_allWithin.f; simp

theorem same (a b : Int) : ∀ (k : Nat) (n s : Int), impl_CountSquares.l0 k a b n s = spec_CountSquares.l0 k a b n s := by
  intro k
  induction k with
  | zero => intros; rfl
  | succ k ih =>
    intro n s
    simp only [impl_CountSquares.l0, spec_CountSquares.l0, ih]
    unfold mn
    by_cases h1 : s ≤ a
    · by_cases h2 : s ≤ b
      · rw [if_pos h1, if_pos h2, if_pos (by split <;> omega)]
      · rw [if_pos h1, if_neg h2, if_neg (by split <;> omega)]
    · rw [if_neg h1, if_neg (by split <;> omega)]
theorem ends (a b : Int) (ha : a ≤ 100) : ∀ (d k : Nat) (n s : Int), 1 ≤ s → s + d = a + 1 → d < k → ∃ r, spec_CountSquares.l0 k a b n s = some r := by
  intro d
  induction d with
  | zero =>
    intro k n s hs hd hk
    obtain ⟨k, rfl⟩ : ∃ m, k = m + 1 := ⟨k - 1, by omega⟩
    simp only [spec_CountSquares.l0]
    rw [if_neg (by omega)]
    exact ⟨_, rfl⟩
  | succ d ih =>
    intro k n s hs hd hk
    obtain ⟨k, rfl⟩ : ∃ m, k = m + 1 := ⟨k - 1, by omega⟩
    simp only [spec_CountSquares.l0]
    rw [if_pos (by omega), wid (x := s + 1) (by omega) (by omega)]
    by_cases h : s ≤ b
    · rw [if_pos h]
      exact ih k _ _ (by omega) (by omega) (by omega)
    · rw [if_neg h]
      exact ⟨_, rfl⟩

theorem FnExactCountSquares : laws_FnExactCountSquares.Pure := by
  intro a b _ _
  refine ⟨300, ?_⟩
  have h : ∃ r, spec_CountSquares.f 300 a b = some r ∧ impl_CountSquares.f 300 a b = some r := by
    unfold spec_CountSquares.f impl_CountSquares.f
    rw [in_some, in_some, sides_two]
    simp only [Option.bind_some]
    by_cases h1 : 1 ≤ a ∧ a ≤ 100
    · by_cases h2 : 1 ≤ b ∧ b ≤ 100
      · rw [decide_eq_true h1, decide_eq_true h2]
        obtain ⟨r, hr⟩ := ends a b h1.2 a.toNat 299 0 1 (by omega) (by omega) (by omega)
        refine ⟨r, ?_, ?_⟩
        · rw [if_pos rfl, show (300 : Nat) = 299 + 1 from rfl, spec_CountSquares.j0, if_neg (by simp)]
          exact hr
        · simp only [Bool.and_self, if_true]
          rw [same]
          exact at_rounds (g := fun k => spec_CountSquares.l0 k a b 0 1) (fun k => spec_CountSquares.mono_l k |>.2 _ _ _ _) (show 299 ≤ 300 by omega) hr
      · rw [decide_eq_true h1, decide_eq_false h2]
        exact ⟨(0, false), by rw [if_pos rfl, show (300 : Nat) = 299 + 1 from rfl, spec_CountSquares.j0]; simp, by simp⟩
    · rw [decide_eq_false h1]
      exact ⟨(0, false), by rw [if_neg (by simp), show (300 : Nat) = 299 + 1 from rfl, spec_CountSquares.j0]; simp, by simp⟩
  obtain ⟨r, hs, hi⟩ := h
  unfold laws_FnExactCountSquares.f
  rw [hs, hi]
  simp
end Go.Proofs.Ytaafinjkjnejjaa.Pure
