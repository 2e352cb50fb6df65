/- The program's EqualFields answers as the reference's EqualFields does, in memory of its own, for every whole number; no condition beside that. -/
import Derived.Test.YtciobmjmincpdaaY4
import Derived.Test.YtciobmjmincpdaaY3
import Derived.Test.YtciobmjmincpdaaYGrid
namespace Go.Proofs.Ytciobmjmincpdaa.Pure
open Go.RowKit Go.Proofs.Ytciobmjmincpdaa.Y Go.Proofs.YtciobmjmincpdaaW.PrintWords Go.Proofs.YtciobmjmincpdaaW.PrintLast Go.Proofs.Ytciobmjmincpdaa
set_option linter.unusedVariables false
set_option linter.unusedSimpArgs false

theorem wid {x : Int} (h0 : -9223372036854775808 ≤ x) (h1 : x ≤ 9223372036854775807) : wrap64 x = x := by unfold wrap64; omega
theorem within_some (a b c : Int) : impl_within.f a b c = some (decide (b ≤ a ∧ a ≤ c)) := by
  unfold impl_within.f
  by_cases h : a ≥ b
  · rw [if_pos h]; congr 1; simp [show b ≤ a from h]
  · rw [if_neg h]; congr 1; simp [show ¬ b ≤ a from h]
theorem in_some (a b c : Int) : spec_l1In.f a b c = some (decide (b ≤ a ∧ a ≤ c)) := by
  unfold spec_l1In.f
  by_cases h : a ≥ b
  · rw [if_pos h]; congr 1; simp [show b ≤ a from h]
  · rw [if_neg h]; congr 1; simp [show ¬ b ≤ a from h]
theorem at_more {α : Type} {f : Nat → Option α} {r : α} (h : ∃ N, ∀ k, N ≤ k → f k = some r) {g : Nat → Option α} (e : ∀ k, g (k + 1) = f k) : ∃ N, ∀ k, N ≤ k → g k = some r := by
  obtain ⟨N, h⟩ := h
  refine ⟨N + 1, fun k hk => ?_⟩
  obtain ⟨k, rfl⟩ : ∃ m, k = m + 1 := ⟨k - 1, by omega⟩
  rw [e, h k (by omega)]
theorem big {w h : Int} (h5 : 5 ≤ h) (hw : h ≤ w) (h1000 : w ≤ 1000) : ¬ w * h = 2 * (w + h) ∧ 0 ≤ w * h ∧ w * h ≤ 1000000 := by
  have a := Int.mul_le_mul_of_nonneg_left h5 (show 0 ≤ w by omega)
  have b := Int.mul_le_mul h1000 (show h ≤ 1000 by omega) (by omega) (by omega)
  omega
theorem small {w h : Int} (h1 : 1 ≤ h) (hw : h ≤ w) (h1000 : w ≤ 1000) : 0 ≤ w * h ∧ w * h ≤ 1000000 := by
  have a := Int.mul_nonneg (show 0 ≤ w by omega) (show 0 ≤ h by omega)
  have b := Int.mul_le_mul h1000 (show h ≤ 1000 by omega) (by omega) (by omega)
  omega
/-- Beyond high = 4 the program finds nothing more. -/
theorem rest (a w : Int) (L : List (List Int)) (r : List (List Int) × Bool) (hw1 : 1 ≤ w) (hw : w ≤ 1000) (hr : ∃ N, ∀ k, N ≤ k → impl_EqualFields.l0 k a L (w + 1) = some r) : ∀ (d : Nat) (h : Int), 5 ≤ h → h + d = w + 1001 →
    ∃ N, ∀ k, N ≤ k → impl_EqualFields.l1 k a L w h = some r := by
  intro d
  induction d with
  | zero =>
    intro h h5 hd
    refine at_more hr (fun k => ?_)
    simp only [impl_EqualFields.l1]
    rw [if_neg (by omega), wid (x := w + 1) (by omega) (by omega)]
  | succ d ih =>
    intro h h5 hd
    by_cases hc : h ≤ w
    · refine at_more (ih (h + 1) (by omega) (by omega)) (fun k => ?_)
      have hb := big h5 hc hw
      simp only [impl_EqualFields.l1]
      rw [if_pos hc, wid (x := w * h) (by omega) (by omega), wid (x := w + h) (by omega) (by omega), wid (x := 2 * (w + h)) (by omega) (by omega), if_neg hb.1, wid (x := h + 1) (by omega) (by omega)]
    · refine at_more hr (fun k => ?_)
      simp only [impl_EqualFields.l1]
      rw [if_neg hc, wid (x := w + 1) (by omega) (by omega)]
/-- One width: both find the same. -/
theorem width (a w : Int) (hw1 : 1 ≤ w) (hw : w ≤ 1000) : ∀ (d : Nat) (h : Int) (L : List (List Int)), 1 ≤ h → h + d = 5 → L.length + d ≤ 10000 → (∀ e ∈ L, e.length = 2) →
    ∃ L', L'.length ≤ L.length + d ∧ (∀ e ∈ L', e.length = 2) ∧ (∀ r, (∃ N, ∀ k, N ≤ k → impl_EqualFields.l0 k a L' (w + 1) = some r) → ∃ N, ∀ k, N ≤ k → impl_EqualFields.l1 k a L w h = some r) ∧
      ∀ r, (∃ N, ∀ k, N ≤ k → spec_EqualFields.l0 k a L' (w + 1) = some r) → ∃ N, ∀ k, N ≤ k → spec_EqualFields.l1 k a L w h = some r := by
  intro d
  induction d with
  | zero =>
    intro h L h1 hd hL hall
    refine ⟨L, by omega, hall, fun r hr => rest a w L r hw1 hw hr (w + 996).toNat h (by omega) (by omega), fun r hr => ?_⟩
    have hj : ∃ N, ∀ k, N ≤ k → spec_EqualFields.j2 k a L w h false = some r := by
      refine at_more hr (fun k => ?_)
      simp only [spec_EqualFields.j2]
      rw [if_neg (by simp), wid (x := w + 1) (by omega) (by omega)]
    refine at_more hj (fun k => ?_)
    simp only [spec_EqualFields.l1]
    by_cases hc : h ≤ w
    · rw [if_pos hc, decide_eq_false (show ¬ h ≤ 4 by omega)]
    · rw [if_neg hc]
  | succ d ih =>
    intro h L h1 hd hL hall
    by_cases hc : h ≤ w
    · have hb := small h1 hc hw
      by_cases he : w * h = 2 * (w + h)
      · obtain ⟨L', e1, e2, e3, e4⟩ := ih (h + 1) (L ++ [[w, h]]) (by omega) (by omega) (by simp; omega) (by
          intro e he
          rcases List.mem_append.1 he with he | he
          · exact hall e he
          · rw [List.mem_singleton.1 he]; rfl)
        refine ⟨L', by simp at e1; omega, e2, fun r hr => ?_, fun r hr => ?_⟩
        · refine at_more (e3 r hr) (fun k => ?_)
          simp only [impl_EqualFields.l1]
          rw [if_pos hc, wid (x := w * h) (by omega) (by omega), wid (x := w + h) (by omega) (by omega), wid (x := 2 * (w + h)) (by omega) (by omega), if_pos he, if_pos (by omega), wid (x := h + 1) (by omega) (by omega)]
        · have hj : ∃ N, ∀ k, N ≤ k → spec_EqualFields.j2 k a L w h true = some r := by
            refine at_more (e4 r hr) (fun k => ?_)
            simp only [spec_EqualFields.j2]
            rw [if_pos trivial, wid (x := w * h) (by omega) (by omega), wid (x := w + h) (by omega) (by omega), wid (x := 2 * (w + h)) (by omega) (by omega), if_pos he, if_pos (by omega), wid (x := h + 1) (by omega) (by omega)]
          refine at_more hj (fun k => ?_)
          simp only [spec_EqualFields.l1]
          rw [if_pos hc, decide_eq_true (show h ≤ 4 by omega)]
      · obtain ⟨L', e1, e2, e3, e4⟩ := ih (h + 1) L (by omega) (by omega) (by omega) hall
        refine ⟨L', by omega, e2, fun r hr => ?_, fun r hr => ?_⟩
        · refine at_more (e3 r hr) (fun k => ?_)
          simp only [impl_EqualFields.l1]
          rw [if_pos hc, wid (x := w * h) (by omega) (by omega), wid (x := w + h) (by omega) (by omega), wid (x := 2 * (w + h)) (by omega) (by omega), if_neg he, wid (x := h + 1) (by omega) (by omega)]
        · have hj : ∃ N, ∀ k, N ≤ k → spec_EqualFields.j2 k a L w h true = some r := by
            refine at_more (e4 r hr) (fun k => ?_)
            simp only [spec_EqualFields.j2]
            rw [if_pos trivial, wid (x := w * h) (by omega) (by omega), wid (x := w + h) (by omega) (by omega), wid (x := 2 * (w + h)) (by omega) (by omega), if_neg he, wid (x := h + 1) (by omega) (by omega)]
          refine at_more hj (fun k => ?_)
          simp only [spec_EqualFields.l1]
          rw [if_pos hc, decide_eq_true (show h ≤ 4 by omega)]
    · refine ⟨L, by omega, hall, fun r hr => ?_, fun r hr => ?_⟩
      · refine at_more hr (fun k => ?_)
        simp only [impl_EqualFields.l1]
        rw [if_neg hc, wid (x := w + 1) (by omega) (by omega)]
      · have hj : ∃ N, ∀ k, N ≤ k → spec_EqualFields.j2 k a L w h false = some r := by
          refine at_more hr (fun k => ?_)
          simp only [spec_EqualFields.j2]
          rw [if_neg (by simp), wid (x := w + 1) (by omega) (by omega)]
        refine at_more hj (fun k => ?_)
        simp only [spec_EqualFields.l1]
        rw [if_neg hc]
theorem ends (a : Int) (h1000 : a ≤ 1000) : ∀ (d : Nat) (w : Int) (L : List (List Int)), 1 ≤ w → w + d = a + 1 → L.length + 4 * d ≤ 4000 → (∀ e ∈ L, e.length = 2) →
    ∃ R b, R.length ≤ 4000 ∧ (∀ e ∈ R, e.length = 2) ∧ (∃ N, ∀ k, N ≤ k → impl_EqualFields.l0 k a L w = some (R, b)) ∧ ∃ N, ∀ k, N ≤ k → spec_EqualFields.l0 k a L w = some (R, b) := by
  intro d
  induction d with
  | zero =>
    intro w L hw hd hL hall
    refine ⟨L, true, by omega, hall, at_more (f := fun _ => some (L, true)) ⟨0, fun _ _ => rfl⟩ (fun k => ?_), at_more (f := fun _ => some (L, true)) ⟨0, fun _ _ => rfl⟩ (fun k => ?_)⟩
    · simp only [impl_EqualFields.l0]
      rw [if_neg (by omega)]
    · simp only [spec_EqualFields.l0]
      rw [if_neg (by omega)]
  | succ d ih =>
    intro w L hw hd hL hall
    obtain ⟨L', e1, e2, e3, e4⟩ := width a w hw (by omega) 4 1 L (by omega) (by omega) (by omega) hall
    obtain ⟨R, b, f1, f2, f3, f4⟩ := ih (w + 1) L' (by omega) (by omega) (by omega) e2
    refine ⟨R, b, f1, f2, at_more (e3 _ f3) (fun k => ?_), at_more (e4 _ f4) (fun k => ?_)⟩
    · simp only [impl_EqualFields.l0]
      rw [if_pos (by omega)]
    · simp only [spec_EqualFields.l0]
      rw [if_pos (by omega)]
theorem side_some (a : Int) : spec_fiSide.f a = some (decide (1 ≤ a ∧ a ≤ 1000)) := by
  unfold spec_fiSide.f
  rw [in_some]
  rfl
theorem FnExactEqualFields : laws_FnExactEqualFields.Pure := by
  intro a _
  have h : ∃ (R : List (List Int)) (b : Bool) (N : Nat), (∀ k, N ≤ k → spec_EqualFields.f k a = some (R, b) ∧ impl_EqualFields.f k a = some (R, b)) ∧ R.length ≤ 4000 ∧ ∀ e ∈ R, e.length = 2 := by
    unfold spec_EqualFields.f impl_EqualFields.f
    rw [side_some, within_some]
    simp only [Option.bind_some]
    by_cases hb : 1 ≤ a ∧ a ≤ 1000
    · obtain ⟨R, b, hl, hall, ⟨N1, hi⟩, ⟨N2, hs⟩⟩ := ends a hb.2 a.toNat 1 [] (by omega) (by omega) (by simp; omega) (by simp)
      refine ⟨R, b, N1 + N2, fun k hk => ⟨?_, ?_⟩, hl, hall⟩
      · rw [decide_eq_true hb, if_pos rfl, hs k (by omega)]
      · rw [decide_eq_true hb, if_pos rfl, hi k (by omega)]
    · rw [decide_eq_false hb]
      exact ⟨[], false, 0, fun _ _ => ⟨rfl, rfl⟩, by simp, by simp⟩
  obtain ⟨R, b, N, hf, hl, hall⟩ := h
  obtain ⟨hs, hi⟩ := hf (N + 10000) (by omega)
  obtain ⟨l3, hm, hh⟩ := Grid.markedSS R (by omega) hall (N + 10000) (by omega)
  refine ⟨N + 10000, ?_⟩
  unfold laws_FnExactEqualFields.f
  rw [hs, hi]
  simp only [Option.bind_some]
  rw [Grid.eqSS R (by omega) hall (N + 10000) (by omega), Option.bind_some, hm, Option.bind_some, hh, Option.bind_some, if_pos (by refine ⟨?_, ?_, ?_, ?_⟩ <;> first | rfl | trivial | omega)]
end Go.Proofs.Ytciobmjmincpdaa.Pure
