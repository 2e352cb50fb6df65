/- The program's FarthestWalk answers as the reference's FarthestWalk does, and leaves its list alone, for all arguments that the law lets in; no condition beside that. -/
import Derived.Test.YtemmchnfflakmaaX15
import Derived.Test.YtemmchnfflakmaaLawInt
import Derived.Test.YtemmchnfflakmaaWalk
namespace Go.Proofs.Ytemmchnfflakmaa.Pure
open Go.RowKit Go.Proofs.Ytemmchnfflakmaa.X Go.Proofs.YtemmchnfflakmaaW.PrintWords Go.Proofs.YtemmchnfflakmaaW.PrintLast Go.Proofs.Ytemmchnfflakmaa Go.Proofs.Ytemmchnfflakmaa.Gates
set_option linter.unusedVariables false
set_option linter.unusedSimpArgs false

theorem inner (a : Int) (l : List Int) (h : OK a l) (hn : 0 < l.length) (i : Int) (hi : 0 ≤ i ∧ i ≤ a - 1) (B : Nat)
    (out : ∀ (k : Nat) (x y m : Int), B < k → ∃ r, spec_FarthestWalk.l0 k a l x y m (i + 1) = some r ∧ impl_FarthestWalk.l0 k a l x y m a (i + 1) = some r) :
    ∀ (e k : Nat) (j x y m : Int), 0 ≤ j → j + e = a → e + B + l.length + 1 < k →
    ∃ r, spec_FarthestWalk.l1 k a l x y m i j = some r ∧ impl_FarthestWalk.l1 k a l x y m i a i a j = some r := by
  have h1 := h.1
  intro e
  induction e with
  | zero =>
    intro k j x y m h0 hj hk
    obtain ⟨k, rfl⟩ : ∃ m, k = m + 1 := ⟨k - 1, by omega⟩
    simp only [spec_FarthestWalk.l1, impl_FarthestWalk.l1]
    rw [if_neg (by omega), if_neg (by omega), wid (x := i + 1) (by omega) (by omega)]
    exact out k x y m (by omega)
  | succ e ih =>
    intro k j x y m h0 hj hk
    obtain ⟨k, rfl⟩ : ∃ m, k = m + 1 := ⟨k - 1, by omega⟩
    simp only [spec_FarthestWalk.l1, impl_FarthestWalk.l1]
    obtain ⟨r, r1, r2, _⟩ := Walk.walk a l h i j hi (by omega) hn k (by omega)
    rw [if_pos (by omega), if_pos (by omega), wid (x := j + 1) (by omega) (by omega), r1, r2]
    simp only [Option.bind_some]
    by_cases hg : r > m
    · rw [if_pos hg, if_pos hg]
      exact ih k (j + 1) _ _ _ (by omega) (by omega) (by omega)
    · rw [if_neg hg, if_neg hg]
      exact ih k (j + 1) _ _ _ (by omega) (by omega) (by omega)
theorem outer (a : Int) (l : List Int) (h : OK a l) (hn : 0 < l.length) : ∀ (d k : Nat) (i x y m : Int), 0 ≤ i → i + d = a → d * 60 + 1 < k →
    ∃ r, spec_FarthestWalk.l0 k a l x y m i = some r ∧ impl_FarthestWalk.l0 k a l x y m a i = some r := by
  have h1 := h.1
  have h2 := h.2.1
  intro d
  induction d with
  | zero =>
    intro k i x y m h0 hi hk
    obtain ⟨k, rfl⟩ : ∃ m, k = m + 1 := ⟨k - 1, by omega⟩
    simp only [spec_FarthestWalk.l0, impl_FarthestWalk.l0]
    rw [if_neg (by omega), if_neg (by omega)]
    exact ⟨_, rfl, rfl⟩
  | succ d ih =>
    intro k i x y m h0 hi hk
    obtain ⟨k, rfl⟩ : ∃ m, k = m + 1 := ⟨k - 1, by omega⟩
    simp only [spec_FarthestWalk.l0, impl_FarthestWalk.l0]
    rw [if_pos (by omega), if_pos (by omega)]
    exact inner a l h hn i (by omega) (d * 60 + 1) (fun k x y m hk => ih k (i + 1) x y m (by omega) (by omega) hk) a.toNat k 0 x y m (by omega) (by omega) (by omega)

theorem core (a : Int) (l : List Int) (hl : l.length ≤ 1048576) : ∃ K r, l.length < K ∧ spec_FarthestWalk.f K a l = some r ∧ impl_FarthestWalk.f K a l = some r := by
  obtain ⟨b, hb, hg⟩ := gates a l hl
  obtain ⟨g1, g2⟩ := hg (l.length + 3000) (by omega)
  refine ⟨l.length + 3000, ?_⟩
  unfold spec_FarthestWalk.f impl_FarthestWalk.f
  rw [g1, g2]
  cases b with
  | false => exact ⟨(0, 0, 0, false), by omega, by simp [spec_FarthestWalk.j0], by simp [impl_FarthestWalk.j0]⟩
  | true =>
    have ok := hb.1 rfl
    have h1 := ok.1
    simp only [Option.bind_some, if_true]
    by_cases hn : 0 < l.length
    · have h0 : ((l.length : Int) == 0) = false := beq_eq_false_iff_ne.2 (by omega)
      obtain ⟨r, r1, r2⟩ := outer a l ok hn a.toNat (l.length + 2999) 0 0 0 (-1) (by omega) (by omega) (by omega)
      refine ⟨r, by omega, ?_, ?_⟩
      · rw [h0]; simp only [spec_FarthestWalk.j0]
        rw [if_neg (by simp)]
        exact r1
      · rw [h0]; simp only [impl_FarthestWalk.j0]
        rw [if_neg (by simp)]
        exact r2
    · have h0 : ((l.length : Int) == 0) = true := beq_iff_eq.2 (by omega)
      rw [h0]
      exact ⟨(0, 0, 0, false), by omega, by simp [spec_FarthestWalk.j0], by simp [impl_FarthestWalk.j0]⟩

theorem FarthestWalk_law (a : Int) (l : List Int) (K : Nat) (r : Int × Int × Int × Bool) (hl : l.length ≤ 1048576) (kl : l.length < K) (hs : spec_FarthestWalk.f K a l = some r) (hi : impl_FarthestWalk.f K a l = some r) : ∃ k, laws_FnExactFarthestWalk.f k a l = some true := by
  have hTl : ∀ j, laws_toIntS.f (K + j) l = some l := fun j => LawInt.toIntS l hl _ (by omega)
  have hEl : ∀ j, laws_eqIntS.f (K + j) l l = some true := fun j => LawInt.eqIntS l hl _ (by omega)
  have hs' : ∀ j, spec_FarthestWalk.f (K + j) a l = some r := fun j => at_rounds (g := fun k => spec_FarthestWalk.f k a l) (spec_FarthestWalk.mono a l) (Nat.le_add_right K j) hs
  have hi' : ∀ j, impl_FarthestWalk.f (K + j) a l = some r := fun j => at_rounds (g := fun k => impl_FarthestWalk.f k a l) (impl_FarthestWalk.mono a l) (Nat.le_add_right K j) hi
  refine ⟨K + 20, ?_⟩
  unfold laws_FnExactFarthestWalk.f
  rw [if_neg (by omega)]
  simp [hTl, hEl, hs', hi', laws_FnExactFarthestWalk.j0]

theorem FnExactFarthestWalk : laws_FnExactFarthestWalk.Pure := by
  intro a l _ _ _ _
  by_cases hl : (l.length : Int) > 1048576
  · refine ⟨0, ?_⟩
    unfold laws_FnExactFarthestWalk.f
    rw [if_pos hl]
  · obtain ⟨K, r, hK, hs, hi⟩ := core a l (by omega)
    exact FarthestWalk_law a l K r (by omega) hK hs hi
end Go.Proofs.Ytemmchnfflakmaa.Pure
