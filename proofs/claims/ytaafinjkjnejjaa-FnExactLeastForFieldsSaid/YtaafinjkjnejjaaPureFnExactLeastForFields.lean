/- The program's LeastForFields answers as the reference's LeastForFields does, for every whole number; no condition beside that. -/
import Derived.Test.YtaafinjkjnejjaaX3
namespace Go.Proofs.Ytaafinjkjnejjaa.Pure
open Go.RowKit Go.Proofs.Ytaafinjkjnejjaa.X Go.Proofs.YtaafinjkjnejjaaW.PrintWords Go.Proofs.YtaafinjkjnejjaaW.PrintLast
set_option linter.unusedVariables false
set_option linter.unusedSimpArgs false

theorem wid {x : Int} (h0 : -9223372036854775808 ≤ x) (h1 : x ≤ 9223372036854775807) : wrap64 x = x := by unfold wrap64; omega

theorem same (a : Int) : ∀ (k : Nat) (L : List (List Int)) (h : Int), impl_RectanglesByArea.l0 k a L h = (spec_fiByArea.l0 k a L h).map fun r => (r, true) := by
  intro k
  induction k with
  | zero => intro L h; rfl
  | succ k ih =>
    intro L h
    simp only [impl_RectanglesByArea.l0, spec_fiByArea.l0, ih]
    repeat' split
    all_goals rfl

theorem sq {h : Int} (h1 : 1 ≤ h) (h2 : h ≤ 1001) : h ≤ h * h ∧ h * h ≤ 1002001 := by
  have a := Int.mul_le_mul h1 (Int.le_refl h) (by omega) (by omega)
  have b := Int.mul_le_mul h2 h2 (by omega) (by omega : (0 : Int) ≤ 1001)
  omega

theorem ends (a : Int) (h1 : 1 ≤ a) (h1000 : a ≤ 1000) : ∀ (d k : Nat) (L : List (List Int)) (h : Int), 1 ≤ h → h + d = a + 1 → d < k → (L.length : Int) < h → (h = 1 ∨ L ≠ []) → (∀ e ∈ L, e.length = 2) →
    ∃ R, spec_fiByArea.l0 k a L h = some R ∧ R ≠ [] ∧ R.length ≤ 1000 ∧ ∀ e ∈ R, e.length = 2 := by
  intro d
  induction d with
  | zero =>
    intro k L h hh hd hk hlen hne hall
    obtain ⟨k, rfl⟩ : ∃ m, k = m + 1 := ⟨k - 1, by omega⟩
    have hs := sq hh (by omega)
    refine ⟨L, ?_, by rcases hne with hne | hne; omega; exact hne, by omega, hall⟩
    simp only [spec_fiByArea.l0]
    rw [wid (x := h * h) (by omega) (by omega), if_neg (by omega)]
  | succ d ih =>
    intro k L h hh hd hk hlen hne hall
    obtain ⟨k, rfl⟩ : ∃ m, k = m + 1 := ⟨k - 1, by omega⟩
    have hs := sq hh (by omega)
    simp only [spec_fiByArea.l0]
    rw [wid (x := h * h) (by omega) (by omega)]
    by_cases hc : h * h ≤ a
    · rw [if_pos hc, if_neg (by omega), wid (x := h + 1) (by omega) (by omega)]
      by_cases hm : Int.tmod a h = 0
      · rw [if_pos hm, if_pos (by omega)]
        refine ih k _ (h + 1) (by omega) (by omega) (by omega) (by simp; omega) (.inr (by simp)) ?_
        intro e he
        rcases List.mem_append.1 he with he | he
        · exact hall e he
        · rw [List.mem_singleton.1 he]; rfl
      · rw [if_neg hm]
        refine ih k L (h + 1) (by omega) (by omega) (by omega) (by omega) (.inr ?_) hall
        rcases hne with hne | hne
        · exfalso; apply hm; rw [hne]; exact Int.tmod_one a
        · exact hne
    · rw [if_neg hc]
      refine ⟨L, rfl, ?_, by omega, hall⟩
      rcases hne with hne | hne
      · exfalso; apply hc; rw [hne]; omega
      · exact hne

theorem within_some (a b c : Int) : impl_within.f a b c = some (decide (b ≤ a ∧ a ≤ c)) := by
  unfold impl_within.f
  by_cases h : a ≥ b
  · rw [if_pos h]; congr 1; simp [show b ≤ a from h]
  · rw [if_neg h]; congr 1; simp [show ¬ b ≤ a from h]
theorem in_some (a b c : Int) : spec_l1In.f a b c = some (decide (b ≤ a ∧ a ≤ c)) := by
  unfold spec_l1In.f
  by_cases h : a ≥ b
  · rw [if_pos h]; congr 1; simp [show b ≤ a from h]
  · rw [if_neg h]; congr 1; simp [show ¬ b ≤ a from h]

theorem last_two {R : List (List Int)} (hne : R ≠ []) (hall : ∀ e ∈ R, e.length = 2) (hl : R.length ≤ 1000) : wrap64 ((R.length : Int) - 1) = (R.length : Int) - 1 ∧ (0 : Int) ≤ (R.length : Int) - 1 ∧ (rd_L1 R ((R.length : Int) - 1)).length = 2 := by
  have hp : 0 < R.length := List.length_pos_iff.2 hne
  refine ⟨wid (by omega) (by omega), by omega, ?_⟩
  unfold rd_L1
  rw [List.getD_eq_getElem?_getD, List.getElem?_eq_getElem (by omega)]
  exact hall _ (List.getElem_mem _)

theorem sides_one (a b : Int) : impl_areSides.f b [a] = some (decide (1 ≤ a ∧ a ≤ b)) := by unfold impl_areSides.f impl_allWithin.f; simp

theorem FnExactLeastForFields : laws_FnExactLeastForFields.Pure := by
  intro a _
  refine ⟨2000, ?_⟩
  have h : ∃ r, spec_LeastForFields.f 2000 a = some r ∧ impl_LeastForFields.f 2000 a = some r := by
    unfold spec_LeastForFields.f impl_LeastForFields.f
    rw [in_some, sides_one]
    simp only [Option.bind_some]
    by_cases hb : 1 ≤ a ∧ a ≤ 100
    · obtain ⟨R, hR, hne, hl, hall⟩ := ends a hb.1 (by omega) a.toNat 2000 [] 1 (by omega) (by omega) (by omega) (by simp) (.inl rfl) (by simp)
      obtain ⟨e1, e2, e3⟩ := last_two hne hall hl
      refine ⟨(rd (rd_L1 R ((R.length : Int) - 1)) 1, rd (rd_L1 R ((R.length : Int) - 1)) 0, true), ?_, ?_⟩
      · unfold spec_fiByArea.f
        rw [decide_eq_true hb, if_pos rfl, hR]
        simp only [Option.bind_some]
        rw [e1, e3, if_pos e2, if_pos (by omega), if_pos (by omega), if_pos (by omega)]
      · unfold impl_LeastFence.f impl_RectanglesByArea.f
        rw [decide_eq_true hb, if_pos rfl, within_some, decide_eq_true (by omega), same, hR]
        simp only [Option.map_some, Option.bind_some, if_true]
        rw [e1, e3, if_pos e2, if_pos (by omega), if_pos (by omega), if_pos (by omega)]
        rfl
    · rw [decide_eq_false hb]
      exact ⟨(0, 0, false), rfl, rfl⟩
  obtain ⟨r, hs, hi⟩ := h
  unfold laws_FnExactLeastForFields.f
  rw [hs, hi]
  simp
end Go.Proofs.Ytaafinjkjnejjaa.Pure
