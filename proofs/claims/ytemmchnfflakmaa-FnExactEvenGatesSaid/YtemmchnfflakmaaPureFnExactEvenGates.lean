/- The program's EvenGates answers as the reference's EvenGates does, for all numbers; no condition beside that. -/
import Derived.Test.YtemmchnfflakmaaX6
import Derived.Test.YtemmchnfflakmaaGates
namespace Go.Proofs.Ytemmchnfflakmaa.Pure
open Go.RowKit Go.Proofs.Ytemmchnfflakmaa.X Go.Proofs.YtemmchnfflakmaaW.PrintWords Go.Proofs.YtemmchnfflakmaaW.PrintLast Go.Proofs.Ytemmchnfflakmaa Go.Proofs.Ytemmchnfflakmaa.Gates
set_option linter.unusedVariables false
set_option linter.unusedSimpArgs false

theorem few : ∀ a, a < 41 → ∀ b, b < 11 → laws_FnExactEvenGates.f 40 ((a : Nat) : Int) ((b : Nat) : Int) = some true := by decide +kernel

theorem FnExactEvenGates : laws_FnExactEvenGates.Pure := by
  intro a c _ _
  by_cases h : (2 ≤ a ∧ a ≤ 40) ∧ (0 ≤ c ∧ c ≤ 10)
  · have := few a.toNat (by omega) c.toNat (by omega)
    rw [Int.toNat_of_nonneg (by omega), Int.toNat_of_nonneg (by omega)] at this
    exact ⟨40, this⟩
  · refine ⟨20, ?_⟩
    have hs : ∀ k, spec_EvenGates.f (k + 1) a c = some ([], false) := by
      intro k
      unfold spec_EvenGates.f spec_gaMany.f
      rw [gaBoards_some, in_some]
      by_cases h1 : 2 ≤ a ∧ a ≤ 40
      · rw [decide_eq_true h1, decide_eq_false (by omega)]
        simp [spec_EvenGates.j0]
      · rw [decide_eq_false h1]
        simp [spec_EvenGates.j0]
    have hi : ∀ k, impl_EvenGates.f (k + 1) a c = some ([], false) := by
      intro k
      unfold impl_EvenGates.f impl_isMany.f
      rw [isRow_some, within_some]
      by_cases h1 : 2 ≤ a ∧ a ≤ 40
      · rw [decide_eq_true h1, decide_eq_false (by omega)]
        simp [impl_EvenGates.j0]
      · rw [decide_eq_false h1]
        simp [impl_EvenGates.j0]
    unfold laws_FnExactEvenGates.f
    rw [hs, hi]
    simp [hi, laws_FnExactEvenGates.j0, laws_FnExactEvenGates.j1, laws_eqIntS.f, laws_eqIntS.l0, laws_markIntS.f, laws_markIntS.l0, laws_heldIntS.f, laws_heldIntS.l0]
end Go.Proofs.Ytemmchnfflakmaa.Pure
