/- The program's DropClue answers as the reference's DropClue does, in memory of its own, and leaves its puzzle alone, for all arguments that the law lets in; no condition beside that. -/
import Derived.Test.YtoblnhlgfpbkeaaZ7
import Derived.Test.YtoblnhlgfpbkeaaZClues
namespace Go.Proofs.Ytoblnhlgfpbkeaa.Pure
open Go.RowKit Go.Proofs.Ytoblnhlgfpbkeaa.Z Go.Proofs.YtoblnhlgfpbkeaaW.PrintWords Go.Proofs.YtoblnhlgfpbkeaaW.PrintLast Go.Proofs.Ytoblnhlgfpbkeaa.Clues
set_option linter.unusedVariables false
set_option linter.unusedSimpArgs false

theorem without (L : List S37) (hl : L.length ≤ 1048576) (i : Nat) (hi : i < L.length) : spec_pzWithout.f L (i : Int) = some (L.take i ++ L.drop (i + 1)) := by
  unfold spec_pzWithout.f
  have e : ((i : Int) + 1).toNat = i + 1 := by omega
  rw [Option.bind_some, if_pos (by omega), if_pos (by omega), Option.bind_some, Int.toNat_natCast, if_pos (by simp; omega), Option.bind_some, wid (x := (i : Int) + 1) (by omega) (by omega), if_pos (by omega), if_pos (by omega), Option.bind_some, e, if_pos (by simp; omega)]
  rfl

theorem core (a : Int) (L : List S37) (hl : L.length ≤ 1048576) (q : Int) : ∃ r : Int × List S37 × Bool, r.2.1.length ≤ L.length ∧ (∀ k, L.length + 60 < k → spec_DropClue.f k a L q = some r) ∧ impl_DropClue.f a L q = some r := by
  obtain ⟨b, h1, h2, h3⟩ := good a L hl
  have z : ([] : List S37).length ≤ L.length := Nat.zero_le _
  unfold spec_DropClue.f impl_DropClue.f
  cases b with
  | false =>
    refine ⟨(0, [], false), z, fun k hk => ?_, ?_⟩
    · rw [h3 k (by omega)]; rfl
    · rw [h1]; rfl
  | true =>
    obtain ⟨g, g6⟩ := h2 rfl
    by_cases c : 0 ≤ q ∧ q ≤ (L.length : Int) - 1
    · obtain ⟨i, rfl⟩ : ∃ i : Nat, (i : Int) = q := ⟨q.toNat, by omega⟩
      refine ⟨(a, L.take i ++ L.drop (i + 1), true), ?_, fun k hk => ?_, ?_⟩
      · show (L.take i ++ L.drop (i + 1)).length ≤ _
        rw [List.length_append, List.length_take, List.length_drop]
        omega
      · rw [h3 k (by omega), Option.bind_some, if_pos rfl, wid (x := (L.length : Int) - 1) (by omega) (by omega), in_some, decide_eq_true c, Option.bind_some, if_pos rfl, without L hl i (by omega)]
        rfl
      · have e : impl_dropped.f L (i : Int) = some (L.take i ++ L.drop (i + 1)) := by
          unfold impl_dropped.f impl_Clue.f
          rw [if_pos ⟨by omega, by omega, by omega⟩, if_pos (by omega), Option.bind_some, Int.toNat_natCast]
        rw [h1, Option.bind_some, if_pos rfl, wid (x := (L.length : Int) - 1) (by omega) (by omega), within_some, decide_eq_true c, Option.bind_some, if_pos rfl, e]
        rfl
    · refine ⟨(0, [], false), z, fun k hk => ?_, ?_⟩
      · rw [h3 k (by omega), Option.bind_some, if_pos rfl, wid (x := (L.length : Int) - 1) (by omega) (by omega), in_some, decide_eq_false c]
        rfl
      · rw [h1, Option.bind_some, if_pos rfl, wid (x := (L.length : Int) - 1) (by omega) (by omega), within_some, decide_eq_false c]
        rfl

theorem FnExactDropClue : laws_FnExactDropClue.Pure := by
  intro a l q _ hm _ _
  obtain ⟨t, ht, hs⟩ := sized a l hm
  have hc := conv_length l
  rcases ht with h | ⟨hl, h⟩
  · refine ⟨0, ?_⟩
    unfold laws_FnExactDropClue.f
    rw [hs, Option.bind_some, if_pos h]
  · obtain ⟨r, hr, hk, k2⟩ := core a (conv l) (by omega) q
    obtain ⟨Q, hQ⟩ : ∃ Q, Q = l.length + 100 := ⟨_, rfl⟩
    refine ⟨Q, ?_⟩
    have k1 := hk Q (by omega)
    have e1 := toP a l hl Q (by omega)
    have e2 := eqP a (conv l) (by omega) Q (by omega)
    have e3 := eqP r.1 r.2.1 (by omega) Q (by omega)
    obtain ⟨y1, m1, _⟩ := marked a (conv l) (by omega)
    obtain ⟨y2, m2, n2⟩ := marked r.1 r.2.1 (by omega)
    have m1 := m1 Q (by omega)
    have m2 := m2 Q (by omega)
    have n2 := n2 r.1 Q (by omega)
    have c1 : ¬ (1 + 3 * ((conv l).length : Int)) < 0 := by omega
    have c2 : ¬ (1 + 3 * (r.2.1.length : Int)) < 0 := by omega
    unfold laws_FnExactDropClue.f
    rw [hs, Option.bind_some, if_neg h]
    simp [e1, e2, e3, k1, k2, m1, m2, n2, c1, c2]
end Go.Proofs.Ytoblnhlgfpbkeaa.Pure
