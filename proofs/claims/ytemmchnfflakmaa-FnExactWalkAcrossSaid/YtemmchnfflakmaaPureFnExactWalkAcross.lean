/- The program's WalkAcross answers as the reference's WalkAcross does, and leaves its list alone, for all arguments that the law lets in; no condition beside that. -/
import Derived.Test.YtemmchnfflakmaaX11
import Derived.Test.YtemmchnfflakmaaLawInt
import Derived.Test.YtemmchnfflakmaaWalk
namespace Go.Proofs.Ytemmchnfflakmaa.Pure
open Go.RowKit Go.Proofs.Ytemmchnfflakmaa.X Go.Proofs.YtemmchnfflakmaaW.PrintWords Go.Proofs.YtemmchnfflakmaaW.PrintLast Go.Proofs.Ytemmchnfflakmaa Go.Proofs.Ytemmchnfflakmaa.Gates
set_option linter.unusedVariables false
set_option linter.unusedSimpArgs false

theorem isOf_two (a b c : Int) (h : 2 ≤ a) (h' : a ≤ 40) : impl_isOf.f a [b, c] = some (decide (0 ≤ b ∧ b ≤ a - 1) && decide (0 ≤ c ∧ c ≤ a - 1)) := by
  unfold impl_isOf.f impl_allWithin.f
  rw [wid (x := a - 1) (by omega) (by omega)]
  simp

theorem core (a : Int) (l : List Int) (c e : Int) (hl : l.length ≤ 1048576) : ∃ K r, l.length < K ∧ spec_WalkAcross.f K a l c e = some r ∧ impl_WalkAcross.f K a l c e = some r := by
  obtain ⟨b, hb, hg⟩ := gates a l hl
  obtain ⟨g1, g2⟩ := hg (l.length + 2) (by omega)
  refine ⟨l.length + 2, ?_⟩
  unfold spec_WalkAcross.f spec_gaBoard.f impl_WalkAcross.f
  rw [g1, g2]
  cases b with
  | false => exact ⟨(0, false), by omega, rfl, rfl⟩
  | true =>
    have ok := hb.1 rfl
    have h1 := ok.1
    simp only [Option.bind_some, if_true]
    rw [isOf_two a c e h1.1 h1.2, in_some, in_some, wid (x := a - 1) (by omega) (by omega)]
    by_cases hn : (l.length : Int) > 0
    · rw [if_pos hn, if_neg (by omega)]
      by_cases hc : 0 ≤ c ∧ c ≤ a - 1
      · by_cases he : 0 ≤ e ∧ e ≤ a - 1
        · rw [decide_eq_true hc, decide_eq_true he]
          obtain ⟨r, r1, r2, _⟩ := Walk.walk a l ok c e hc he (by omega) (l.length + 2) (by omega)
          refine ⟨(r, true), by omega, ?_, ?_⟩
          · simp only [Option.bind_some, if_true]
            rw [r1]; rfl
          · simp only [Option.bind_some, Bool.and_self, if_true]
            rw [r2]; rfl
        · rw [decide_eq_true hc, decide_eq_false he]
          exact ⟨(0, false), by omega, rfl, rfl⟩
      · rw [decide_eq_false hc]
        exact ⟨(0, false), by omega, rfl, by simp⟩
    · rw [if_neg hn, if_pos (by omega)]
      refine ⟨(0, false), by omega, by simp, ?_⟩
      simp only [Option.bind_some]
      split <;> rfl

theorem WalkAcross_law (a : Int) (l : List Int) (c : Int) (e : Int) (K : Nat) (r : Int × Bool) (hl : l.length ≤ 1048576) (kl : l.length < K) (hs : spec_WalkAcross.f K a l c e = some r) (hi : impl_WalkAcross.f K a l c e = some r) : ∃ k, laws_FnExactWalkAcross.f k a l c e = some true := by
  have hTl : ∀ j, laws_toIntS.f (K + j) l = some l := fun j => LawInt.toIntS l hl _ (by omega)
  have hEl : ∀ j, laws_eqIntS.f (K + j) l l = some true := fun j => LawInt.eqIntS l hl _ (by omega)
  have hs' : ∀ j, spec_WalkAcross.f (K + j) a l c e = some r := fun j => at_rounds (g := fun k => spec_WalkAcross.f k a l c e) (spec_WalkAcross.mono a l c e) (Nat.le_add_right K j) hs
  have hi' : ∀ j, impl_WalkAcross.f (K + j) a l c e = some r := fun j => at_rounds (g := fun k => impl_WalkAcross.f k a l c e) (impl_WalkAcross.mono a l c e) (Nat.le_add_right K j) hi
  refine ⟨K + 20, ?_⟩
  unfold laws_FnExactWalkAcross.f
  rw [if_neg (by omega)]
  simp [hTl, hEl, hs', hi', laws_FnExactWalkAcross.j0]

theorem FnExactWalkAcross : laws_FnExactWalkAcross.Pure := by
  intro a l c e _ _ _ _ _ _
  by_cases hl : (l.length : Int) > 1048576
  · refine ⟨0, ?_⟩
    unfold laws_FnExactWalkAcross.f
    rw [if_pos hl]
  · obtain ⟨K, r, hK, hs, hi⟩ := core a l c e (by omega)
    exact WalkAcross_law a l c e K r (by omega) hK hs hi
end Go.Proofs.Ytemmchnfflakmaa.Pure
