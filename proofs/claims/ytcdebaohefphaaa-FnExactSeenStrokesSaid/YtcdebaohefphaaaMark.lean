/- The law's own marks on strokes; plain lemmas; no condition beside the bounds that each names. -/
import Derived.Test.YtcdebaohefphaaaX8
import Derived.Test.YtcdebaohefphaaaStrokes
namespace Go.Proofs.Ytcdebaohefphaaa.Mark
open Go.RowKit Go.Proofs.Ytcdebaohefphaaa.X Go.Proofs.YtcdebaohefphaaaW.PrintWords Go.Proofs.YtcdebaohefphaaaW.PrintLast Go.Proofs.Ytcdebaohefphaaa.Fence
set_option linter.unusedVariables false
set_option linter.unusedSimpArgs false

theorem one_size (x : Int) : (strOfNums [x]).size = 1 := rfl
theorem text_l0 : ∀ (d k : Nat) (n : Int) (x : ByteArray), 0 ≤ n → n < (10 : Int) ^ d → n ≤ 4000000 → d < k → x.size + d ≤ 1000 → ∃ t, laws_markText.l0 k n x = some t := by
  intro d
  induction d with
  | zero =>
    intro k n x h0 h1 h2 hk hx
    obtain ⟨k, rfl⟩ : ∃ m, k = m + 1 := ⟨k - 1, by omega⟩
    rw [Int.pow_zero] at h1
    simp only [laws_markText.l0]
    rw [if_neg (by omega), if_pos (by omega)]
    exact ⟨_, rfl⟩
  | succ d ih =>
    intro k n x h0 h1 h2 hk hx
    obtain ⟨k, rfl⟩ : ∃ m, k = m + 1 := ⟨k - 1, by omega⟩
    rw [Int.pow_succ] at h1
    simp only [laws_markText.l0]
    by_cases c : n > 0
    · rw [if_pos c]
      simp only [Option.bind_some]
      rw [if_pos (by rw [one_size]; omega), Int.tdiv_eq_ediv_of_nonneg h0, wid (x := n / 10) (by omega) (by omega)]
      generalize (10 : Int) ^ d = p at *
      exact ih k (n / 10) _ (by omega) (by omega) (by omega) (by omega) (by rw [ByteArray.size_append, one_size]; omega)
    · rw [if_neg c, if_pos (by omega)]
      exact ⟨_, rfl⟩
theorem text (n : Int) (h0 : 0 ≤ n) (h1 : n ≤ 4000000) (k : Nat) (hk : 20 < k) : ∃ t, laws_markText.f k n = some t := by
  unfold laws_markText.f
  by_cases c : n ≤ 0
  · rw [if_pos c]; exact ⟨_, rfl⟩
  · rw [if_neg c]
    exact text_l0 7 k n _ h0 (by omega) h1 (by omega) (by show 0 + 7 ≤ 1000; omega)
theorem mark_l0 : ∀ (d k i : Nat) (m : Int) (x : List S27), x.length ≤ 1048576 → i + d = x.length → 30 + d < k → 0 ≤ m → m + 3 * d ≤ 3500000 → ∃ y, laws_markStrokeS.l0 k x m (i : Int) = some (m + 3 * d, y) := by
  intro d
  induction d with
  | zero =>
    intro k i m x hl hi hk h0 h1
    obtain ⟨k, rfl⟩ : ∃ m, k = m + 1 := ⟨k - 1, by omega⟩
    simp only [laws_markStrokeS.l0]
    rw [if_neg (by omega)]
    exact ⟨x, by simp⟩
  | succ d ih =>
    intro k i m x hl hi hk h0 h1
    obtain ⟨k, rfl⟩ : ∃ m, k = m + 1 := ⟨k - 1, by omega⟩
    simp only [laws_markStrokeS.l0, Option.bind_some]
    rw [if_pos (by omega), if_pos (by omega), wid (x := (i : Int) + 1) (by omega) (by omega), wid (x := m + 1) (by omega) (by omega), wid (x := m + 1 + 1) (by omega) (by omega), wid (x := m + 1 + 1 + 1) (by omega) (by omega)]
    obtain ⟨t, ht⟩ := text (m + 1 + 1) (by omega) (by omega) k (by omega)
    rw [ht]
    simp only [Option.bind_some]
    have key : ∀ X : List S27, X.length = x.length → ∃ y, laws_markStrokeS.l0 k X (m + 1 + 1 + 1) ((i : Int) + 1) = some (m + 3 * ((d + 1 : Nat) : Int), y) := fun X hX => by
      obtain ⟨y, hy⟩ := ih k (i + 1) (m + 1 + 1 + 1) X (by omega) (by omega) (by omega) (by omega) (by omega)
      rw [show ((i + 1 : Nat) : Int) = (i : Int) + 1 from by omega] at hy
      refine ⟨y, Eq.trans hy ?_⟩
      congr 2
      omega
    exact key _ (by rw [List.length_set, List.length_set, List.length_set])
theorem mark (x : List S27) (hl : x.length ≤ 1048576) (k : Nat) (hk : x.length + 40 < k) : ∃ y, laws_markStrokeS.f k x 1 = some (1 + 3 * (x.length : Int), y) := by
  unfold laws_markStrokeS.f
  exact mark_l0 x.length k 0 1 x hl (by omega) (by omega) (by omega) (by omega)
end Go.Proofs.Ytcdebaohefphaaa.Mark
