/- The program's GreatestAtWall answers as the reference's GreatestAtWall does, for every whole number; no condition beside that. -/
import Derived.Test.YtaafinjkjnejjaaPFnExactGreatestAtWallx1
namespace Go.Proofs.Ytaafinjkjnejjaa.Pure
open Go.RowKit Go.Proofs.Ytaafinjkjnejjaa.PFnExactGreatestAtWall Go.Proofs.YtaafinjkjnejjaaW.PrintWords Go.Proofs.YtaafinjkjnejjaaW.PrintLast
set_option linter.unusedVariables false
set_option linter.unusedSimpArgs false

theorem wid {x : Int} (h0 : -9223372036854775808 ≤ x) (h1 : x ≤ 9223372036854775807) : wrap64 x = x := by unfold wrap64; omega
theorem mulb {x y : Int} (hx : 0 ≤ x) (hx1 : x ≤ 1000) (hy : 0 ≤ y) (hy1 : y ≤ 1000) : 0 ≤ x * y ∧ x * y ≤ 1000000 := by
  refine ⟨Int.mul_nonneg hx hy, ?_⟩
  have := Int.mul_le_mul hx1 hy1 hy (by omega : (0 : Int) ≤ 1000)
  omega

theorem walls (a : Int) (h3 : 3 ≤ a) (h1000 : a ≤ 1000) : ∀ (d k : Nat) (s w o : Int), 1 ≤ s → s + d = a → d < k → 0 ≤ w → w ≤ 1000 → 0 ≤ o → o ≤ 1000 →
    ∃ r, spec_GreatestAtWall.l0 k a w o (w * o) s = some r ∧ impl_GreatestAtWall.l0 k a w o s = some r := by
  intro d
  induction d with
  | zero =>
    intro k s w o hs hd hk _ _ _ _
    obtain ⟨k, rfl⟩ : ∃ m, k = m + 1 := ⟨k - 1, by omega⟩
    refine ⟨(w, o, true), ?_, ?_⟩
    · simp only [spec_GreatestAtWall.l0]; rw [if_neg (by omega)]
    · simp only [impl_GreatestAtWall.l0]; rw [wid (x := a - 1) (by omega) (by omega), if_neg (by omega)]
  | succ d ih =>
    intro k s w o hs hd hk hw0 hw1 ho0 ho1
    obtain ⟨k, rfl⟩ : ∃ m, k = m + 1 := ⟨k - 1, by omega⟩
    have h2 : Int.tdiv (a - s) 2 = (a - s) / 2 := Int.tdiv_eq_ediv_of_nonneg (by omega)
    have hm : Int.tmod (a - s) 2 = (a - s) % 2 := Int.tmod_eq_emod_of_nonneg (by omega)
    have hp := mulb (x := s) (y := (a - s) / 2) (by omega) (by omega) (by omega) (by omega)
    have hq := mulb hw0 hw1 ho0 ho1
    simp only [spec_GreatestAtWall.l0, impl_GreatestAtWall.l0]
    rw [if_pos (show s < a by omega), wid (x := a - s) (by omega) (by omega), h2, hm, wid (x := (a - s) / 2) (by omega) (by omega), wid (x := 2 * ((a - s) / 2)) (by omega) (by omega),
      wid (x := 2 * ((a - s) / 2) + s) (by omega) (by omega), wid (x := s * ((a - s) / 2)) (by omega) (by omega), wid (x := s + 1) (by omega) (by omega), wid (x := a - 1) (by omega) (by omega),
      wid (x := w * o) (by omega) (by omega)]
    by_cases hl : s < a - 1
    · rw [if_pos hl]
      by_cases he : (a - s) % 2 = 0
      · rw [if_pos (show 2 * ((a - s) / 2) + s = a by omega), if_pos he]
        by_cases hg : s * ((a - s) / 2) > w * o
        · rw [if_pos hg, if_pos hg]
          exact ih k (s + 1) s ((a - s) / 2) (by omega) (by omega) (by omega) (by omega) (by omega) (by omega) (by omega)
        · rw [if_neg hg, if_neg hg]
          exact ih k (s + 1) w o (by omega) (by omega) (by omega) hw0 hw1 ho0 ho1
      · rw [if_neg (show ¬ 2 * ((a - s) / 2) + s = a by omega), if_neg he]
        exact ih k (s + 1) w o (by omega) (by omega) (by omega) hw0 hw1 ho0 ho1
    · rw [if_neg hl, if_neg (show ¬ 2 * ((a - s) / 2) + s = a by omega)]
      obtain ⟨k, rfl⟩ : ∃ m, k = m + 1 := ⟨k - 1, by omega⟩
      refine ⟨(w, o, true), ?_, rfl⟩
      simp only [spec_GreatestAtWall.l0]
      rw [if_neg (by omega)]

theorem within_some (a b c : Int) : impl_within.f a b c = some (decide (b ≤ a ∧ a ≤ c)) := by
  unfold impl_within.f
  by_cases h : a ≥ b
  · rw [if_pos h]; congr 1; simp [show b ≤ a from h]
  · rw [if_neg h]; congr 1; simp [show ¬ b ≤ a from h]
theorem in_some (a b c : Int) : spec_l1In.f a b c = some (decide (b ≤ a ∧ a ≤ c)) := by
  unfold spec_l1In.f
  by_cases h : a ≥ b
  · rw [if_pos h]; congr 1; simp [show b ≤ a from h]
  · rw [if_neg h]; congr 1; simp [show ¬ b ≤ a from h]

theorem law_of {k : Nat} {a : Int} {r : Int × Int × Bool} (hs : spec_GreatestAtWall.f k a = some r) (hi : impl_GreatestAtWall.f k a = some r) : laws_FnExactGreatestAtWall.f k a = some true := by
  unfold laws_FnExactGreatestAtWall.f
  rw [hs, hi]; simp

theorem FnExactGreatestAtWall : laws_FnExactGreatestAtWall.Pure := by
  intro a _
  by_cases hb : 3 ≤ a ∧ a ≤ 1000
  · obtain ⟨r, hs, hi⟩ := walls a hb.1 hb.2 (a - 1).toNat 2000 1 0 0 (by omega) (by omega) (by omega) (by omega) (by omega) (by omega) (by omega)
    refine ⟨2000, law_of (r := r) ?_ ?_⟩
    · unfold spec_GreatestAtWall.f
      rw [in_some, decide_eq_true hb]
      exact hs
    · unfold impl_GreatestAtWall.f
      rw [within_some, decide_eq_true hb]
      exact hi
  · refine ⟨0, law_of (r := (0, 0, false)) ?_ ?_⟩
    · unfold spec_GreatestAtWall.f
      rw [in_some, decide_eq_false hb]; rfl
    · unfold impl_GreatestAtWall.f
      rw [within_some, decide_eq_false hb]; rfl

end Go.Proofs.Ytaafinjkjnejjaa.Pure
