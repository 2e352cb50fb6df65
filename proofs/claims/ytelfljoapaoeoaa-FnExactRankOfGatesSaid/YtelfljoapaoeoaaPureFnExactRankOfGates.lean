/- The program's RankOfGates answers as the reference's RankOfGates does, and leaves its list alone, for all arguments that the law lets in; no condition beside that. -/
import Derived.Test.YtelfljoapaoeoaaX4
import Derived.Test.YtelfljoapaoeoaaLawInt
import Derived.Test.YtelfljoapaoeoaaWays
namespace Go.Proofs.Ytelfljoapaoeoaa.Pure
open Go.RowKit Go.Proofs.Ytelfljoapaoeoaa.X Go.Proofs.YtelfljoapaoeoaaW.PrintWords Go.Proofs.YtelfljoapaoeoaaW.PrintLast Go.Proofs.Ytelfljoapaoeoaa Go.Proofs.Ytelfljoapaoeoaa.Gates
set_option linter.unusedVariables false
set_option linter.unusedSimpArgs false

theorem outer (a : Int) (l : List Int) (ok : OK a l) : ∀ (d i : Nat), i + d = l.length → ∀ (v G : Int), (G = 0 ∧ i = 0 ∨ 0 < i ∧ G = rd l ((i : Int) - 1)) → ∃ r F, ∀ K, F ≤ K → spec_RankOfGates.l0 K a l v G l (l.length : Int) i = some r ∧ impl_RankOfGates.l0 K a l v G l (l.length : Int) i = some r := by
  intro d
  have hl := ok.2.1
  have ha := ok.1
  induction d with
  | zero =>
    intro i hi v G hG
    refine ⟨(v, true), 1, fun K hK => ?_⟩
    obtain ⟨M, rfl⟩ : ∃ M, K = M + 1 := ⟨K - 1, by omega⟩
    simp only [spec_RankOfGates.l0, impl_RankOfGates.l0]
    rw [if_neg (by omega), if_neg (by omega)]
    exact ⟨rfl, rfl⟩
  | succ d ih =>
    intro i hi v G hG
    have hr := ok.2.2 i (Nat.zero_le _) (by omega)
    have hn : ∀ v', ∃ r F, ∀ K, F ≤ K → spec_RankOfGates.l0 K a l v' (rd l (i : Int)) l (l.length : Int) ((i : Int) + 1) = some r ∧ impl_RankOfGates.l0 K a l v' (rd l (i : Int)) l (l.length : Int) ((i : Int) + 1) = some r := by
      intro v'
      have := ih (i + 1) (by omega) v' (rd l (i : Int)) (.inr ⟨by omega, by rw [show (((i + 1 : Nat)) : Int) - 1 = (i : Int) from by omega]⟩)
      rw [show (((i + 1 : Nat)) : Int) = (i : Int) + 1 from by omega] at this
      exact this
    have hG0 : 0 ≤ G := by
      rcases hG with ⟨h, _⟩ | ⟨h, h'⟩
      · omega
      · have := ok.2.2 (i - 1) (Nat.zero_le _) (by omega)
        rw [show (((i - 1 : Nat)) : Int) = (i : Int) - 1 from by omega] at this
        omega
    have hG1 : G ≤ a := by
      rcases hG with ⟨h, _⟩ | ⟨h, h'⟩
      · omega
      · have := ok.2.2 (i - 1) (Nat.zero_le _) (by omega)
        rw [show (((i - 1 : Nat)) : Int) = (i : Int) - 1 from by omega] at this
        omega
    -- the steps of the row's own loop, to its end
    have step : ∀ (n : Nat) (o w : Int), 1 ≤ o → rd l (i : Int) - o ≤ n → ∃ r F, ∀ K, F ≤ K → spec_RankOfGates.l1 K a l w i (rd l (i : Int)) o l (l.length : Int) i = some r ∧ impl_RankOfGates.l1 K a l w i (rd l (i : Int)) o l (l.length : Int) i = some r := by
      have stop : ∀ (o w : Int), ¬ o < rd l (i : Int) → ∃ r F, ∀ K, F ≤ K → spec_RankOfGates.l1 K a l w i (rd l (i : Int)) o l (l.length : Int) i = some r ∧ impl_RankOfGates.l1 K a l w i (rd l (i : Int)) o l (l.length : Int) i = some r := by
        intro o w c
        obtain ⟨r, F, h⟩ := hn w
        refine ⟨r, F + 1, fun K hK => ?_⟩
        obtain ⟨M, rfl⟩ : ∃ M, K = M + 1 := ⟨K - 1, by omega⟩
        simp only [spec_RankOfGates.l1, impl_RankOfGates.l1]
        rw [if_neg c, if_neg c, wid (x := (i : Int) + 1) (by omega) (by omega)]
        exact h M (by omega)
      intro n
      induction n with
      | zero => intro o w h1 h2; exact stop o w (by omega)
      | succ n ihn =>
        intro o w h1 h2
        by_cases c : o < rd l (i : Int)
        · obtain ⟨B, hB⟩ : ∃ B : Nat, (B : Int) = a - o := ⟨(a - o).toNat, by omega⟩
          obtain ⟨m, hm⟩ : ∃ m : Nat, (m : Int) = (l.length : Int) - i - 1 := ⟨l.length - i - 1, by omega⟩
          obtain ⟨F1, hF1⟩ := Ways.both B m a (by omega) (by omega) (by omega) (by omega) (by omega)
          generalize (Ways.bin (B - 1) m : Int) = t at hF1
          obtain ⟨r, F2, hF2⟩ := ihn (o + 1) (wrap64 (w + t)) (by omega) (by omega)
          refine ⟨r, F1 + F2 + 1, fun K hK => ?_⟩
          obtain ⟨M, rfl⟩ : ∃ M, K = M + 1 := ⟨K - 1, by omega⟩
          obtain ⟨w1, w2⟩ := hF1 (M - F1)
          rw [Nat.sub_add_cancel (by omega)] at w1 w2
          simp only [spec_RankOfGates.l1, impl_RankOfGates.l1]
          rw [if_pos c, if_pos c, wid (x := a - o) (by omega) (by omega), wid (x := (l.length : Int) - i) (by omega) (by omega), wid (x := (l.length : Int) - i - 1) (by omega) (by omega), wid (x := a - 1) (by omega) (by omega), wid (x := a - 1 - o) (by omega) (by omega), wid (x := (l.length : Int) - 1) (by omega) (by omega), wid (x := (l.length : Int) - 1 - i) (by omega) (by omega), wid (x := o + 1) (by omega) (by omega),
            show a - 1 - o = (B : Int) - 1 from by omega, show (l.length : Int) - 1 - i = m from by omega, ← hm, ← hB, w1, w2, Option.bind_some, Option.bind_some]
          exact hF2 M (by omega)
        · exact stop o w c
    obtain ⟨r, F, h⟩ := step (rd l (i : Int) - (G + 1)).toNat (G + 1) v (by omega) (by omega)
    refine ⟨r, F + 1, fun K hK => ?_⟩
    obtain ⟨M, rfl⟩ : ∃ M, K = M + 1 := ⟨K - 1, by omega⟩
    simp only [spec_RankOfGates.l0, impl_RankOfGates.l0]
    rw [if_pos (by omega), if_pos (by omega), if_pos (by omega), if_pos (by omega), if_pos (by omega), if_pos (by omega), wid (x := G + 1) (by omega) (by omega)]
    exact h M (by omega)

theorem core (a : Int) (l : List Int) (hl : l.length ≤ 1048576) : ∃ K r, l.length < K ∧ spec_RankOfGates.f K a l = some r ∧ impl_RankOfGates.f K a l = some r := by
  obtain ⟨b, hb, hg⟩ := gates a l hl
  unfold spec_RankOfGates.f impl_RankOfGates.f
  cases b with
  | false =>
    obtain ⟨g1, g2⟩ := hg (l.length + 20) (by omega)
    refine ⟨l.length + 20, (0, false), by omega, ?_, ?_⟩
    · rw [g1]; rfl
    · rw [g2]; rfl
  | true =>
    have ok := hb.1 rfl
    obtain ⟨r, F, h⟩ := outer a l ok l.length 0 (by omega) 0 0 (.inl ⟨rfl, rfl⟩)
    obtain ⟨g1, g2⟩ := hg (l.length + F + 20) (by omega)
    obtain ⟨h1, h2⟩ := h (l.length + F + 20) (by omega)
    refine ⟨l.length + F + 20, r, by omega, ?_, ?_⟩
    · rw [g1, Option.bind_some, if_pos rfl]; exact h1
    · rw [g2, Option.bind_some, if_pos rfl]; exact h2

theorem RankOfGates_law (a : Int) (l : List Int) (K : Nat) (r : Int × Bool) (hl : l.length ≤ 1048576) (kl : l.length < K) (hs : spec_RankOfGates.f K a l = some r) (hi : impl_RankOfGates.f K a l = some r) : ∃ k, laws_FnExactRankOfGates.f k a l = some true := by
  have hTl : ∀ j, laws_toIntS.f (K + j) l = some l := fun j => LawInt.toIntS l hl _ (by omega)
  have hEl : ∀ j, laws_eqIntS.f (K + j) l l = some true := fun j => LawInt.eqIntS l hl _ (by omega)
  have hs' : ∀ j, spec_RankOfGates.f (K + j) a l = some r := fun j => at_rounds (g := fun k => spec_RankOfGates.f k a l) (spec_RankOfGates.mono a l) (Nat.le_add_right K j) hs
  have hi' : ∀ j, impl_RankOfGates.f (K + j) a l = some r := fun j => at_rounds (g := fun k => impl_RankOfGates.f k a l) (impl_RankOfGates.mono a l) (Nat.le_add_right K j) hi
  refine ⟨K + 20, ?_⟩
  unfold laws_FnExactRankOfGates.f
  rw [if_neg (by omega)]
  simp [hTl, hEl, hs', hi', laws_FnExactRankOfGates.j0]

theorem FnExactRankOfGates : laws_FnExactRankOfGates.Pure := by
  intro a l _ _ _ _
  by_cases hl : (l.length : Int) > 1048576
  · refine ⟨0, ?_⟩
    unfold laws_FnExactRankOfGates.f
    rw [if_pos hl]
  · obtain ⟨K, r, hK, hs, hi⟩ := core a l (by omega)
    exact RankOfGates_law a l K r (by omega) hK hs hi
end Go.Proofs.Ytelfljoapaoeoaa.Pure
