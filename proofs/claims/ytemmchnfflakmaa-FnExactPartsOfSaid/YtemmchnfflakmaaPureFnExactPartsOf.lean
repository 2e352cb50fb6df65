/- The program's PartsOf answers as the reference's PartsOf does, in memory of its own, and leaves its list alone, for all arguments that the law lets in; no condition beside that. -/
import Derived.Test.YtemmchnfflakmaaX13
import Derived.Test.YtemmchnfflakmaaLawInt
import Derived.Test.YtemmchnfflakmaaParts
namespace Go.Proofs.Ytemmchnfflakmaa.Pure
open Go.RowKit Go.Proofs.Ytemmchnfflakmaa.X Go.Proofs.YtemmchnfflakmaaW.PrintWords Go.Proofs.YtemmchnfflakmaaW.PrintLast Go.Proofs.Ytemmchnfflakmaa Go.Proofs.Ytemmchnfflakmaa.Gates
set_option linter.unusedVariables false
set_option linter.unusedSimpArgs false

theorem core (a : Int) (l : List Int) (hl : l.length ≤ 1048576) : ∃ K r, l.length < K ∧ r.1.length ≤ 1048576 ∧ r.1.length < K ∧ spec_PartsOf.f K a l = some r ∧ impl_PartsOf.f K a l = some r := by
  obtain ⟨b, hb, hg⟩ := gates a l hl
  obtain ⟨g1, g2⟩ := hg (l.length + 20) (by omega)
  refine ⟨l.length + 20, ?_⟩
  unfold spec_PartsOf.f impl_PartsOf.f
  rw [g1, g2]
  cases b with
  | false => exact ⟨([], false), by omega, by simp, by simp, rfl, rfl⟩
  | true =>
    have ok := hb.1 rfl
    obtain ⟨r, hlen, _, hr⟩ := Parts.parts a l ok
    obtain ⟨r1, r2⟩ := hr (l.length + 20) (by omega)
    have := ok.2.1
    refine ⟨(r, true), by omega, ?_, ?_, ?_, ?_⟩
    · show r.length ≤ _; omega
    · show r.length < _; omega
    · simp only [Option.bind_some, if_true]; rw [r1]; rfl
    · simp only [Option.bind_some, if_true]; rw [r2]; rfl

theorem PartsOf_law (a : Int) (l : List Int) (K : Nat) (r : List Int × Bool) (hl : l.length ≤ 1048576) (kl : l.length < K) (hr : r.1.length ≤ 1048576) (kr : r.1.length < K) (hs : spec_PartsOf.f K a l = some r) (hi : impl_PartsOf.f K a l = some r) : ∃ k, laws_FnExactPartsOf.f k a l = some true := by
  have hTl : ∀ j, laws_toIntS.f (K + j) l = some l := fun j => LawInt.toIntS l hl _ (by omega)
  have hEl : ∀ j, laws_eqIntS.f (K + j) l l = some true := fun j => LawInt.eqIntS l hl _ (by omega)
  obtain ⟨yl, hMl0, _⟩ := LawInt.marked l hl
  have hMl : ∀ j, laws_markIntS.f (K + j) l 1 = some (1 + (l.length : Int), yl) := fun j => hMl0 _ (by omega)
  have nl : ¬ (1 + (l.length : Int)) < 0 := by omega
  have hs' : ∀ j, spec_PartsOf.f (K + j) a l = some r := fun j => at_rounds (g := fun k => spec_PartsOf.f k a l) (spec_PartsOf.mono a l) (Nat.le_add_right K j) hs
  have hi' : ∀ j, impl_PartsOf.f (K + j) a l = some r := fun j => at_rounds (g := fun k => impl_PartsOf.f k a l) (impl_PartsOf.mono a l) (Nat.le_add_right K j) hi
  have hE : ∀ j, laws_eqIntS.f (K + j) r.1 r.1 = some true := fun j => LawInt.eqIntS r.1 hr _ (by omega)
  obtain ⟨y, hM0, hH0⟩ := LawInt.marked r.1 hr
  have hM : ∀ j, laws_markIntS.f (K + j) r.1 1 = some (1 + (r.1.length : Int), y) := fun j => hM0 _ (by omega)
  have hH : ∀ j, laws_heldIntS.f (K + j) y 1 = some (1 + (r.1.length : Int)) := fun j => hH0 _ (by omega)
  have n0 : ¬ (1 + (r.1.length : Int)) < 0 := by omega
  refine ⟨K + 20, ?_⟩
  unfold laws_FnExactPartsOf.f
  rw [if_neg (by omega)]
  simp [hTl, hEl, hMl, nl, hs', hi', hE, hM, hH, n0, laws_FnExactPartsOf.j0, laws_FnExactPartsOf.j1, laws_FnExactPartsOf.j2]

theorem FnExactPartsOf : laws_FnExactPartsOf.Pure := by
  intro a l _ _ _ _
  by_cases hl : (l.length : Int) > 1048576
  · refine ⟨0, ?_⟩
    unfold laws_FnExactPartsOf.f
    rw [if_pos hl]
  · obtain ⟨K, r, hK, hr, kr, hs, hi⟩ := core a l (by omega)
    exact PartsOf_law a l K r (by omega) hK hr kr hs hi
end Go.Proofs.Ytemmchnfflakmaa.Pure
