/- The program's AddClue answers as the reference's AddClue does, in memory of its own, and leaves its puzzle alone, for all arguments that the law lets in; no condition beside that. -/
import Derived.Test.YtoblnhlgfpbkeaaY7
import Derived.Test.YtoblnhlgfpbkeaaYClues
namespace Go.Proofs.Ytoblnhlgfpbkeaa.Pure
open Go.RowKit Go.Proofs.Ytoblnhlgfpbkeaa.Y Go.Proofs.YtoblnhlgfpbkeaaW.PrintWords Go.Proofs.YtoblnhlgfpbkeaaW.PrintLast Go.Proofs.Ytoblnhlgfpbkeaa.Clues
set_option linter.unusedVariables false
set_option linter.unusedSimpArgs false

theorem core (a : Int) (L : List S37) (hl : L.length ≤ 1048576) (K A B : Int) : ∃ r : Int × List S37 × Bool, r.2.1.length ≤ 1048576 ∧ r.2.1.length ≤ L.length + 1 ∧ ∀ k, L.length + 60 < k → spec_AddClue.f k a L K A B = some r ∧ impl_AddClue.f k a L K A B = some r := by
  obtain ⟨b, h1, h2, h3⟩ := good a L hl
  unfold spec_AddClue.f impl_AddClue.f impl_Clue.f
  cases b with
  | false =>
    refine ⟨(0, [], false), by simp, by simp, fun k hk => ?_⟩
    rw [h1, h3 k (by omega)]
    exact ⟨rfl, rfl⟩
  | true =>
    obtain ⟨g, g6⟩ := h2 rfl
    by_cases hc : impl_IsPuzzle.cl a ⟨K, A, B⟩ = true
    · by_cases c6 : (L.length : Int) = 6
      · refine ⟨(0, [], false), by simp, by simp, fun k hk => ?_⟩
        obtain ⟨o1, o2⟩ := one a g ⟨K, A, B⟩ k (by omega)
        rw [hc] at o1 o2
        constructor
        · rw [h3 k (by omega), Option.bind_some, if_pos rfl, o1, Option.bind_some, if_pos rfl, if_pos c6]
        · rw [h1, Option.bind_some, if_pos rfl, o2, Option.bind_some, if_pos rfl, if_pos c6]
      · refine ⟨(a, L ++ [⟨K, A, B⟩], true), ?_, ?_, fun k hk => ?_⟩
        · show (L ++ [(⟨K, A, B⟩ : S37)]).length ≤ _
          rw [List.length_append]
          show L.length + 1 ≤ _
          omega
        · show (L ++ [(⟨K, A, B⟩ : S37)]).length ≤ _
          rw [List.length_append]
          exact Nat.le_refl _
        obtain ⟨o1, o2⟩ := one a g ⟨K, A, B⟩ k (by omega)
        rw [hc] at o1 o2
        constructor
        · rw [h3 k (by omega), Option.bind_some, if_pos rfl, o1, Option.bind_some, if_pos rfl, if_neg c6, Option.bind_some, if_pos (by simp; omega), Option.bind_some, Option.bind_some, if_pos (by simp; omega)]
          rfl
        · rw [h1, Option.bind_some, if_pos rfl, o2, Option.bind_some, if_pos rfl, if_neg c6, if_pos (by omega), Option.bind_some, Option.bind_some, if_pos (by simp; omega)]
    · have hc := Bool.eq_false_iff.mpr hc
      refine ⟨(0, [], false), by simp, by simp, fun k hk => ?_⟩
      obtain ⟨o1, o2⟩ := one a g ⟨K, A, B⟩ k (by omega)
      rw [hc] at o1 o2
      constructor
      · rw [h3 k (by omega), Option.bind_some, if_pos rfl, o1]
        rfl
      · rw [h1, Option.bind_some, if_pos rfl, o2]
        rfl

theorem FnExactAddClue : laws_FnExactAddClue.Pure := by
  intro a l K A B _ hm _ _ _ _
  obtain ⟨t, ht, hs⟩ := sized a l hm
  have hc := conv_length l
  rcases ht with h | ⟨hl, h⟩
  · refine ⟨0, ?_⟩
    unfold laws_FnExactAddClue.f
    rw [hs, Option.bind_some, if_pos h]
  · obtain ⟨r, hr, hr', hk⟩ := core a (conv l) (by omega) K A B
    obtain ⟨Q, hQ⟩ : ∃ Q, Q = l.length + 100 := ⟨_, rfl⟩
    refine ⟨Q, ?_⟩
    obtain ⟨k1, k2⟩ := hk Q (by omega)
    have e1 := toP a l hl Q (by omega)
    have e2 := eqP a (conv l) (by omega) Q (by omega)
    have e3 := eqP r.1 r.2.1 (by omega) Q (by omega)
    obtain ⟨y1, m1, _⟩ := marked a (conv l) (by omega)
    obtain ⟨y2, m2, n2⟩ := marked r.1 r.2.1 (by omega)
    have m1 := m1 Q (by omega)
    have m2 := m2 Q (by omega)
    have n2 := n2 r.1 Q (by omega)
    have c1 : ¬ (1 + 3 * ((conv l).length : Int)) < 0 := by omega
    have c2 : ¬ (1 + 3 * (r.2.1.length : Int)) < 0 := by omega
    have e0 : laws_toClue.f K A B = some (K, A, B) := rfl
    unfold laws_FnExactAddClue.f
    rw [hs, Option.bind_some, if_neg h]
    simp [e0, e1, e2, e3, k1, k2, m1, m2, n2, c1, c2]
end Go.Proofs.Ytoblnhlgfpbkeaa.Pure
