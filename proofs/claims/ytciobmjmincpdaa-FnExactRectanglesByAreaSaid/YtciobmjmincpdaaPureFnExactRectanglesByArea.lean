/- The program's RectanglesByArea answers as the reference's RectanglesByArea does, in memory of its own, for every whole number; no condition beside that. -/
import Derived.Test.YtciobmjmincpdaaY3
import Derived.Test.YtciobmjmincpdaaYGrid
namespace Go.Proofs.Ytciobmjmincpdaa.Pure
open Go.RowKit Go.Proofs.Ytciobmjmincpdaa.Y Go.Proofs.YtciobmjmincpdaaW.PrintWords Go.Proofs.YtciobmjmincpdaaW.PrintLast Go.Proofs.Ytciobmjmincpdaa
set_option linter.unusedVariables false
set_option linter.unusedSimpArgs false

theorem wid {x : Int} (h0 : -9223372036854775808 ≤ x) (h1 : x ≤ 9223372036854775807) : wrap64 x = x := by unfold wrap64; omega
theorem within_some (a b c : Int) : impl_within.f a b c = some (decide (b ≤ a ∧ a ≤ c)) := by
  unfold impl_within.f
  by_cases h : a ≥ b
  · rw [if_pos h]; congr 1; simp [show b ≤ a from h]
  · rw [if_neg h]; congr 1; simp [show ¬ b ≤ a from h]
theorem in_some (a b c : Int) : spec_l1In.f a b c = some (decide (b ≤ a ∧ a ≤ c)) := by
  unfold spec_l1In.f
  by_cases h : a ≥ b
  · rw [if_pos h]; congr 1; simp [show b ≤ a from h]
  · rw [if_neg h]; congr 1; simp [show ¬ b ≤ a from h]
theorem same (a : Int) : ∀ (k : Nat) (L : List (List Int)) (h : Int), impl_RectanglesByArea.l0 k a L h = (spec_fiByArea.l0 k a L h).map fun r => (r, true) := by
  intro k
  induction k with
  | zero => intro L h; rfl
  | succ k ih =>
    intro L h
    simp only [impl_RectanglesByArea.l0, spec_fiByArea.l0, ih]
    repeat' split
    all_goals rfl
theorem sq {h : Int} (h1 : 1 ≤ h) (h2 : h ≤ 1001) : h ≤ h * h ∧ h * h ≤ 1002001 := by
  have a := Int.mul_le_mul h1 (Int.le_refl h) (by omega) (by omega)
  have b := Int.mul_le_mul h2 h2 (by omega) (by omega : (0 : Int) ≤ 1001)
  omega
theorem ends (a : Int) (h1 : 1 ≤ a) (h1000 : a ≤ 1000) : ∀ (d k : Nat) (L : List (List Int)) (h : Int), 1 ≤ h → h + d = a + 1 → d < k → (L.length : Int) < h → (∀ e ∈ L, e.length = 2) →
    ∃ R, spec_fiByArea.l0 k a L h = some R ∧ R.length ≤ 1000 ∧ ∀ e ∈ R, e.length = 2 := by
  intro d
  induction d with
  | zero =>
    intro k L h hh hd hk hlen hall
    obtain ⟨k, rfl⟩ : ∃ m, k = m + 1 := ⟨k - 1, by omega⟩
    have hs := sq hh (by omega)
    refine ⟨L, ?_, by omega, hall⟩
    simp only [spec_fiByArea.l0]
    rw [wid (x := h * h) (by omega) (by omega), if_neg (by omega)]
  | succ d ih =>
    intro k L h hh hd hk hlen hall
    obtain ⟨k, rfl⟩ : ∃ m, k = m + 1 := ⟨k - 1, by omega⟩
    have hs := sq hh (by omega)
    simp only [spec_fiByArea.l0]
    rw [wid (x := h * h) (by omega) (by omega)]
    by_cases hc : h * h ≤ a
    · rw [if_pos hc, if_neg (by omega), wid (x := h + 1) (by omega) (by omega)]
      by_cases hm : Int.tmod a h = 0
      · rw [if_pos hm, if_pos (by omega)]
        refine ih k _ (h + 1) (by omega) (by omega) (by omega) (by simp; omega) ?_
        intro e he
        rcases List.mem_append.1 he with he | he
        · exact hall e he
        · rw [List.mem_singleton.1 he]; rfl
      · rw [if_neg hm]
        exact ih k L (h + 1) (by omega) (by omega) (by omega) (by omega) hall
    · rw [if_neg hc]
      exact ⟨L, rfl, by omega, hall⟩
theorem side_some (a : Int) : spec_fiSide.f a = some (decide (1 ≤ a ∧ a ≤ 1000)) := by
  unfold spec_fiSide.f
  rw [in_some]
  rfl
theorem FnExactRectanglesByArea : laws_FnExactRectanglesByArea.Pure := by
  intro a _
  refine ⟨3000, ?_⟩
  have h : ∃ R b, spec_RectanglesByArea.f 3000 a = some (R, b) ∧ impl_RectanglesByArea.f 3000 a = some (R, b) ∧ R.length ≤ 1000 ∧ ∀ e ∈ R, e.length = 2 := by
    unfold spec_RectanglesByArea.f impl_RectanglesByArea.f
    rw [side_some, within_some]
    simp only [Option.bind_some]
    by_cases hb : 1 ≤ a ∧ a ≤ 1000
    · obtain ⟨R, hR, hl, hall⟩ := ends a hb.1 hb.2 a.toNat 3000 [] 1 (by omega) (by omega) (by omega) (by simp) (by simp)
      refine ⟨R, true, ?_, ?_, hl, hall⟩
      · unfold spec_fiByArea.f
        rw [decide_eq_true hb, if_pos rfl, hR]
        rfl
      · rw [decide_eq_true hb, if_pos rfl, same, hR]
        rfl
    · rw [decide_eq_false hb]
      exact ⟨[], false, rfl, rfl, by simp, by simp⟩
  obtain ⟨R, b, hs, hi, hl, hall⟩ := h
  obtain ⟨l3, hm, hh⟩ := Grid.markedSS R (by omega) hall 3000 (by omega)
  unfold laws_FnExactRectanglesByArea.f
  rw [hs, hi]
  simp only [Option.bind_some]
  rw [Grid.eqSS R (by omega) hall 3000 (by omega), Option.bind_some, hm, Option.bind_some, hh, Option.bind_some, if_pos (by refine ⟨?_, ?_, ?_, ?_⟩ <;> first | rfl | trivial | omega)]
end Go.Proofs.Ytciobmjmincpdaa.Pure
