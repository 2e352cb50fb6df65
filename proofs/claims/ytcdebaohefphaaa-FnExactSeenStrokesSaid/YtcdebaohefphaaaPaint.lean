/- A stroke painted over a fence, as the program and as the reference paint it; plain lemmas, no condition beside those named. -/
import Derived.Test.YtcdebaohefphaaaX2
import Derived.Test.YtcdebaohefphaaaX3
import Derived.Test.YtcdebaohefphaaaFence
import Derived.Lib.Repeat
namespace Go.Proofs.Ytcdebaohefphaaa.Paint
open Go.RowKit Go.Proofs.Ytcdebaohefphaaa.X Go.Proofs.YtcdebaohefphaaaW.PrintWords Go.Proofs.YtcdebaohefphaaaW.PrintLast Go.Proofs.Ytcdebaohefphaaa.Fence
set_option linter.unusedVariables false
set_option linter.unusedSimpArgs false

/-- So many copies of a text. -/
def R (c : ByteArray) (n : Nat) : ByteArray := ⟨(Lib.repeatL c.data.toList n).toArray⟩
theorem R_succ (x c : ByteArray) (n : Nat) : (x ++ c) ++ R c n = x ++ R c (n + 1) := by
  apply ByteArray.ext
  rw [ByteArray.data_append, ByteArray.data_append, ByteArray.data_append]
  apply Array.ext'
  simp [R, Lib.repeatL]
theorem R_zero (x c : ByteArray) : x ++ R c 0 = x := by
  apply ByteArray.ext
  rw [ByteArray.data_append]
  simp [R, Lib.repeatL]
theorem R_size (c : ByteArray) (n : Nat) : (R c n).size = n * c.size := by
  have h : (R c n).data.toList.length = (R c n).size := data_length _
  rw [← h]
  show ((Lib.repeatL c.data.toList n).toArray).toList.length = _
  rw [List.toList_toArray, Lib.repeatL_length, data_length]

theorem paint_l0 (s c : ByteArray) (f t : Int) (hs : s.size ≤ 20) (hc : c.size = 1) (ht0 : -1 ≤ t) (ht : t < s.size) : ∀ (d k : Nat) (i : Int) (x : ByteArray), i + d = t + 1 → d < k → 0 ≤ i → x.size + d ≤ 1000 →
    spec_stPaint.l0 k s x i f t c = some ((x ++ R c d) ++ s.extract (t + 1).toNat s.size) := by
  intro d
  induction d with
  | zero =>
    intro k i x hi hk h0 hx
    obtain ⟨k, rfl⟩ : ∃ m, k = m + 1 := ⟨k - 1, by omega⟩
    simp only [spec_stPaint.l0]
    rw [if_neg (by omega), wid (x := t + 1) (by omega) (by omega), if_pos (by omega), if_pos (by omega), if_pos (by rw [ByteArray.size_extract]; omega), R_zero]
  | succ d ih =>
    intro k i x hi hk h0 hx
    obtain ⟨k, rfl⟩ : ∃ m, k = m + 1 := ⟨k - 1, by omega⟩
    simp only [spec_stPaint.l0]
    rw [if_pos (by omega), if_pos (by omega), wid (x := i + 1) (by omega) (by omega)]
    rw [ih k (i + 1) (x ++ c) (by omega) (by omega) (by omega) (by rw [ByteArray.size_append]; omega), R_succ]

theorem paint (s c : ByteArray) (f t : Int) (hs : s.size ≤ 20) (h : Is (s.size : Int) f t c) : ∃ r : ByteArray, r.size = s.size ∧ impl_painted.f s f t c = some r ∧ ∀ k, 25 < k → spec_stPaint.f k s f t c = some r := by
  obtain ⟨⟨h1, h2, h3⟩, hc, _⟩ := h
  refine ⟨(s.extract 0 f.toNat ++ R c (t - f + 1).toNat) ++ s.extract (t + 1).toNat s.size, ?_, ?_, fun k hk => ?_⟩
  · rw [ByteArray.size_append, ByteArray.size_append, ByteArray.size_extract, ByteArray.size_extract, R_size, hc]
    omega
  · unfold impl_painted.f strings_Repeat.f
    rw [if_pos (by omega), if_pos (by omega), wid (x := t - f) (by omega) (by omega), wid (x := t - f + 1) (by omega) (by omega), wid (x := t + 1) (by omega) (by omega), if_pos ⟨by omega, by omega, by omega⟩]
    simp only [Option.bind_some]
    have hR := R_size c (t - f + 1).toNat
    rw [hc] at hR
    show (if (s.extract 0 f.toNat).size + (R c (t - f + 1).toNat).size ≤ 9223372036854775807 then _ else none) = _
    rw [if_pos (by rw [ByteArray.size_extract, hR]; omega), if_pos (by omega), if_pos (by omega)]
    show (if (s.extract 0 f.toNat ++ R c (t - f + 1).toNat).size + (s.extract (t + 1).toNat s.size).size ≤ 9223372036854775807 then _ else none) = _
    rw [if_pos (by rw [ByteArray.size_append, ByteArray.size_extract, ByteArray.size_extract, hR]; omega)]
    rfl
  · unfold spec_stPaint.f
    rw [if_pos (by omega), if_pos (by omega)]
    exact paint_l0 s c f t hs hc (by omega) h3 (t - f + 1).toNat k f (s.extract 0 f.toNat) (by omega) (by omega) h1 (by rw [ByteArray.size_extract]; omega)
end Go.Proofs.Ytcdebaohefphaaa.Paint
