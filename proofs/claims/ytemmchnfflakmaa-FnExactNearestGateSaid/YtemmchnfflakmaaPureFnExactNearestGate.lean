/- The program's NearestGate answers as the reference's NearestGate does, and leaves its list alone, for all arguments that the law lets in; no condition beside that. -/
import Derived.Test.YtemmchnfflakmaaX3
import Derived.Test.YtemmchnfflakmaaLawInt
import Derived.Test.YtemmchnfflakmaaGates
namespace Go.Proofs.Ytemmchnfflakmaa.Pure
open Go.RowKit Go.Proofs.Ytemmchnfflakmaa.X Go.Proofs.YtemmchnfflakmaaW.PrintWords Go.Proofs.YtemmchnfflakmaaW.PrintLast Go.Proofs.Ytemmchnfflakmaa Go.Proofs.Ytemmchnfflakmaa.Gates
set_option linter.unusedVariables false
set_option linter.unusedSimpArgs false

theorem near_l0 (a : Int) (l : List Int) (h : OK a l) (c : Int) (hc : 0 ≤ c ∧ c ≤ a - 1) : ∀ (d k i : Nat) (best : Int), i + d = l.length → d < k → 1 ≤ best → best ≤ 39 →
    ∃ r, spec_NearestGate.l0 k c best l (l.length : Int) (i : Int) = some r ∧ impl_NearestGate.l0 k c best l (l.length : Int) (i : Int) = some r := by
  have h1 := h.1
  have h2 := h.2.1
  intro d
  induction d with
  | zero =>
    intro k i best hi hk b1 b2
    obtain ⟨k, rfl⟩ : ∃ m, k = m + 1 := ⟨k - 1, by omega⟩
    simp only [spec_NearestGate.l0, impl_NearestGate.l0]
    rw [if_neg (by omega), if_neg (by omega), far_spec best c (by omega) (by omega) (by omega) (by omega), far_impl best c (by omega) (by omega) (by omega) (by omega)]
    exact ⟨_, rfl, rfl⟩
  | succ d ih =>
    intro k i best hi hk b1 b2
    obtain ⟨k, rfl⟩ : ∃ m, k = m + 1 := ⟨k - 1, by omega⟩
    have hr := h.2.2 i (Nat.zero_le _) (by omega)
    simp only [spec_NearestGate.l0, impl_NearestGate.l0]
    rw [if_pos (by omega), if_pos (by omega), if_pos (by omega), if_pos (by omega), if_pos (by omega), if_pos (by omega), wid (x := (i : Int) + 1) (by omega) (by omega),
      far_spec best c (by omega) (by omega) (by omega) (by omega), far_impl best c (by omega) (by omega) (by omega) (by omega), far_spec (rd l (i : Int)) c (by omega) (by omega) (by omega) (by omega), far_impl (rd l (i : Int)) c (by omega) (by omega) (by omega) (by omega)]
    simp only [Option.bind_some]
    by_cases hlt : far (rd l (i : Int)) c < far best c
    · rw [if_pos hlt, if_pos hlt]
      exact ih k (i + 1) (rd l (i : Int)) (by omega) (by omega) (by omega) (by omega)
    · rw [if_neg hlt, if_neg hlt]
      exact ih k (i + 1) best (by omega) (by omega) b1 b2

theorem core (a : Int) (l : List Int) (c : Int) (hl : l.length ≤ 1048576) : ∃ K r, l.length < K ∧ spec_NearestGate.f K a l c = some r ∧ impl_NearestGate.f K a l c = some r := by
  obtain ⟨b, hb, hg⟩ := gates a l hl
  obtain ⟨g1, g2⟩ := hg (l.length + 2) (by omega)
  refine ⟨l.length + 2, ?_⟩
  unfold spec_NearestGate.f spec_gaBoard.f impl_NearestGate.f
  rw [g1, g2]
  cases b with
  | false => exact ⟨(0, 0, false), by omega, rfl, by simp [impl_NearestGate.j0]⟩
  | true =>
    have ok := hb.1 rfl
    have h1 := ok.1
    simp only [Option.bind_some, if_true]
    rw [isOf_one a c h1.1 h1.2, in_some, wid (x := a - 1) (by omega) (by omega)]
    by_cases hn : (l.length : Int) > 0
    · rw [if_pos hn]
      by_cases hc : 0 ≤ c ∧ c ≤ a - 1
      · rw [decide_eq_true hc]
        have hf := ok.2.2 0 (Nat.le_refl _) (by omega)
        obtain ⟨r, r1, r2⟩ := near_l0 a l ok c hc l.length (l.length + 1) 0 (rd l 0) (by omega) (by omega) (by have := hf.1; simpa using this) (by have := hf.2.1; simp at this; omega)
        have r1' := at_rounds (g := fun k => spec_NearestGate.l0 k c (rd l 0) l (l.length : Int) ((0 : Nat) : Int)) (fun k => spec_NearestGate.mono_l k _ _ _ _ _) (Nat.le_succ _) r1
        refine ⟨r, by omega, ?_, ?_⟩
        · simp only [Option.bind_some, if_true]
          rw [if_pos (by omega)]
          exact r1'
        · simp only [Option.bind_some, if_true, impl_NearestGate.j0]
          rw [beq_eq_false_iff_ne.2 (show (l.length : Int) ≠ 0 by omega), if_neg (by simp), if_pos (by omega)]
          exact r2
      · rw [decide_eq_false hc]
        exact ⟨(0, 0, false), by omega, by simp, by simp [impl_NearestGate.j0]⟩
    · rw [if_neg hn]
      refine ⟨(0, 0, false), by omega, by simp, ?_⟩
      have h0 : ((l.length : Int) == 0) = true := beq_iff_eq.2 (by omega)
      simp only [Option.bind_some, impl_NearestGate.j0, h0]
      split <;> rfl

theorem NearestGate_law (a : Int) (l : List Int) (c : Int) (K : Nat) (r : Int × Int × Bool) (hl : l.length ≤ 1048576) (kl : l.length < K) (hs : spec_NearestGate.f K a l c = some r) (hi : impl_NearestGate.f K a l c = some r) : ∃ k, laws_FnExactNearestGate.f k a l c = some true := by
  have hTl : ∀ j, laws_toIntS.f (K + j) l = some l := fun j => LawInt.toIntS l hl _ (by omega)
  have hEl : ∀ j, laws_eqIntS.f (K + j) l l = some true := fun j => LawInt.eqIntS l hl _ (by omega)
  have hs' : ∀ j, spec_NearestGate.f (K + j) a l c = some r := fun j => at_rounds (g := fun k => spec_NearestGate.f k a l c) (spec_NearestGate.mono a l c) (Nat.le_add_right K j) hs
  have hi' : ∀ j, impl_NearestGate.f (K + j) a l c = some r := fun j => at_rounds (g := fun k => impl_NearestGate.f k a l c) (impl_NearestGate.mono a l c) (Nat.le_add_right K j) hi
  refine ⟨K + 20, ?_⟩
  unfold laws_FnExactNearestGate.f
  rw [if_neg (by omega)]
  simp [hTl, hEl, hs', hi', laws_FnExactNearestGate.j0]

theorem FnExactNearestGate : laws_FnExactNearestGate.Pure := by
  intro a l c _ _ _ _ _
  by_cases hl : (l.length : Int) > 1048576
  · refine ⟨0, ?_⟩
    unfold laws_FnExactNearestGate.f
    rw [if_pos hl]
  · obtain ⟨K, r, hK, hs, hi⟩ := core a l c (by omega)
    exact NearestGate_law a l c K r (by omega) hK hs hi
end Go.Proofs.Ytemmchnfflakmaa.Pure
