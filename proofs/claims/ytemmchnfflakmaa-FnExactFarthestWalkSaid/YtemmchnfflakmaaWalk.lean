/- The least walk across gates, as the program and as the reference tell it; plain lemmas, no condition beside those named. -/
import Derived.Test.YtemmchnfflakmaaX11
import Derived.Test.YtemmchnfflakmaaGates
namespace Go.Proofs.Ytemmchnfflakmaa.Walk
open Go.RowKit Go.Proofs.Ytemmchnfflakmaa.X Go.Proofs.YtemmchnfflakmaaW.PrintWords Go.Proofs.YtemmchnfflakmaaW.PrintLast Go.Proofs.Ytemmchnfflakmaa.Gates
set_option linter.unusedVariables false
set_option linter.unusedSimpArgs false

theorem walk_l0 (a : Int) (l : List Int) (h : OK a l) (x y : Int) (hx : 0 ≤ x ∧ x ≤ a - 1) (hy : 0 ≤ y ∧ y ≤ a - 1) : ∀ (d k i : Nat) (v : Int), i + d = l.length → d < k → 0 ≤ v → v ≤ 10000 →
    ∃ r, spec_gaWalk.l0 k x y v l (l.length : Int) (i : Int) = some r ∧ impl_across.l0 k x y v l (l.length : Int) (i : Int) = some r ∧ 0 ≤ r ∧ r ≤ 10000 := by
  have h1 := h.1
  have h2 := h.2.1
  intro d
  induction d with
  | zero =>
    intro k i v hi hk b1 b2
    obtain ⟨k, rfl⟩ : ∃ m, k = m + 1 := ⟨k - 1, by omega⟩
    simp only [spec_gaWalk.l0, impl_across.l0]
    rw [if_neg (by omega), if_neg (by omega)]
    exact ⟨_, rfl, rfl, b1, b2⟩
  | succ d ih =>
    intro k i v hi hk b1 b2
    obtain ⟨k, rfl⟩ : ∃ m, k = m + 1 := ⟨k - 1, by omega⟩
    have hr := h.2.2 i (Nat.zero_le _) (by omega)
    have f1 := far_le (rd l (i : Int)) x (by omega) (by omega) (by omega) (by omega)
    have f2 := far_le (rd l (i : Int)) y (by omega) (by omega) (by omega) (by omega)
    have f3 := far_nonneg (rd l (i : Int)) x
    have f4 := far_nonneg (rd l (i : Int)) y
    simp only [spec_gaWalk.l0, impl_across.l0]
    rw [if_pos (by omega), if_pos (by omega), if_pos (by omega), if_pos (by omega), if_pos (by omega), if_pos (by omega), wid (x := (i : Int) + 1) (by omega) (by omega),
      far_spec (rd l (i : Int)) x (by omega) (by omega) (by omega) (by omega), far_impl (rd l (i : Int)) x (by omega) (by omega) (by omega) (by omega), far_spec (rd l (i : Int)) y (by omega) (by omega) (by omega) (by omega), far_impl (rd l (i : Int)) y (by omega) (by omega) (by omega) (by omega)]
    simp only [Option.bind_some]
    rw [wid (x := far (rd l (i : Int)) x + far (rd l (i : Int)) y) (by omega) (by omega), if_neg (by omega)]
    unfold mn
    by_cases hlt : far (rd l (i : Int)) x + far (rd l (i : Int)) y < v
    · rw [if_pos hlt, if_pos hlt]
      exact ih k (i + 1) _ (by omega) (by omega) (by omega) (by omega)
    · rw [if_neg hlt, if_neg hlt]
      exact ih k (i + 1) v (by omega) (by omega) b1 b2
theorem walk (a : Int) (l : List Int) (h : OK a l) (x y : Int) (hx : 0 ≤ x ∧ x ≤ a - 1) (hy : 0 ≤ y ∧ y ≤ a - 1) (hn : 0 < l.length) (k : Nat) (hk : l.length < k) :
    ∃ r, spec_gaWalk.f k l x y = some r ∧ impl_across.f k l x y = some r ∧ 0 ≤ r ∧ r ≤ 10000 := by
  have h1 := h.1
  have h2 := h.2.1
  obtain ⟨k, rfl⟩ : ∃ m, k = m + 1 := ⟨k - 1, by omega⟩
  have hr := h.2.2 0 (Nat.zero_le _) hn
  have f1 := far_le (rd l ((0 : Nat) : Int)) x (by omega) (by omega) (by omega) (by omega)
  have f2 := far_le (rd l ((0 : Nat) : Int)) y (by omega) (by omega) (by omega) (by omega)
  have f3 := far_nonneg (rd l ((0 : Nat) : Int)) x
  have f4 := far_nonneg (rd l ((0 : Nat) : Int)) y
  unfold spec_gaWalk.f impl_across.f
  rw [show (0 : Int) = ((0 : Nat) : Int) from rfl]
  simp only [spec_gaWalk.l0, impl_across.l0]
  rw [if_pos (by omega), if_pos (by omega), if_pos (by omega), if_pos (by omega), if_pos (by omega), if_pos (by omega), wid (x := ((0 : Nat) : Int) + 1) (by omega) (by omega),
    far_spec (rd l ((0 : Nat) : Int)) x (by omega) (by omega) (by omega) (by omega), far_impl (rd l ((0 : Nat) : Int)) x (by omega) (by omega) (by omega) (by omega), far_spec (rd l ((0 : Nat) : Int)) y (by omega) (by omega) (by omega) (by omega), far_impl (rd l ((0 : Nat) : Int)) y (by omega) (by omega) (by omega) (by omega)]
  simp only [Option.bind_some]
  rw [wid (x := far (rd l ((0 : Nat) : Int)) x + far (rd l ((0 : Nat) : Int)) y) (by omega) (by omega), if_pos (by omega)]
  unfold mn
  rw [if_pos (by omega)]
  exact walk_l0 a l h x y hx hy (l.length - 1) k 1 _ (by omega) (by omega) (by omega) (by omega)
end Go.Proofs.Ytemmchnfflakmaa.Walk
