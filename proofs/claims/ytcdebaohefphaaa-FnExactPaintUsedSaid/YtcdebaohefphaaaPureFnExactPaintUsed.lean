/- The program's PaintUsed answers as the reference's PaintUsed does, and leaves its list alone, for all arguments that the law lets in; no condition beside that. -/
import Derived.Test.YtcdebaohefphaaaX6
import Derived.Test.YtcdebaohefphaaaPaint
import Derived.Test.YtcdebaohefphaaaStrokes
import Derived.Test.YtcdebaohefphaaaCoats
namespace Go.Proofs.Ytcdebaohefphaaa.Pure
open Go.RowKit Go.Proofs.Ytcdebaohefphaaa.X Go.Proofs.YtcdebaohefphaaaW.PrintWords Go.Proofs.YtcdebaohefphaaaW.PrintLast Go.Proofs.Ytcdebaohefphaaa Go.Proofs.Ytcdebaohefphaaa.Fence
set_option linter.unusedVariables false
set_option linter.unusedSimpArgs false

theorem spec_l0 (L : List S27) (hl : L.length ≤ 40) (n : Nat) (hn : n ≤ 20) (h : ∀ x ∈ L, Is (n : Int) x.f0 x.f1 x.f2) : ∀ (d k i : Nat) (m : Int), i + d = L.length → d < k → 0 ≤ m → m ≤ 20 * (i : Int) →
    spec_PaintUsed.l0 k m L (L.length : Int) (i : Int) = some (m + ((L.drop i).map fun x => x.f1 - x.f0 + 1).sum, true) := by
  intro d
  induction d with
  | zero =>
    intro k i m hi hk h0 h1
    obtain ⟨k, rfl⟩ : ∃ m, k = m + 1 := ⟨k - 1, by omega⟩
    simp only [spec_PaintUsed.l0]
    rw [if_neg (by omega), List.drop_of_length_le (by omega)]
    simp
  | succ d ih =>
    intro k i m hi hk h0 h1
    obtain ⟨k, rfl⟩ : ∃ m, k = m + 1 := ⟨k - 1, by omega⟩
    have hx := h (L[i]'(by omega)) (List.getElem_mem _)
    obtain ⟨⟨x1, x2, x3⟩, _⟩ := hx
    simp only [spec_PaintUsed.l0]
    rw [if_pos (by omega), if_pos (by omega), if_pos (by omega), Strokes.get27 L i (by omega), wid (x := (i : Int) + 1) (by omega) (by omega), wid (x := (L[i]'(by omega)).f1 - (L[i]'(by omega)).f0) (by omega) (by omega), wid (x := (L[i]'(by omega)).f1 - (L[i]'(by omega)).f0 + 1) (by omega) (by omega), wid (x := m + ((L[i]'(by omega)).f1 - (L[i]'(by omega)).f0 + 1)) (by omega) (by omega)]
    have := ih k (i + 1) (m + ((L[i]'(by omega)).f1 - (L[i]'(by omega)).f0 + 1)) (by omega) (by omega) (by omega) (by omega)
    rw [show ((i + 1 : Nat) : Int) = (i : Int) + 1 from by omega] at this
    rw [this, List.drop_eq_getElem_cons (show i < L.length by omega), List.map_cons, List.sum_cons]
    congr 2
    omega

theorem sum_l0 (p : List Int) (hp : p.length ≤ 20) (hq : ∀ x ∈ p, 0 ≤ x ∧ x ≤ 1000) : ∀ (d k i : Nat) (m : Int), i + d = p.length → d < k → 0 ≤ m → m ≤ 1000 * (i : Int) → impl_sumOf.l0 k m p (p.length : Int) (i : Int) = some (m + (p.drop i).sum) := by
  intro d
  induction d with
  | zero =>
    intro k i m hi hk h0 h1
    obtain ⟨k, rfl⟩ : ∃ m, k = m + 1 := ⟨k - 1, by omega⟩
    simp only [impl_sumOf.l0]
    rw [if_neg (by omega), List.drop_of_length_le (by omega)]
    simp
  | succ d ih =>
    intro k i m hi hk h0 h1
    obtain ⟨k, rfl⟩ : ∃ m, k = m + 1 := ⟨k - 1, by omega⟩
    have hx := hq (p[i]'(by omega)) (List.getElem_mem _)
    simp only [impl_sumOf.l0]
    rw [if_pos (by omega), if_pos (by omega), if_pos (by omega), Coats.rd_get p i (by omega), wid (x := (i : Int) + 1) (by omega) (by omega), wid (x := m + p[i]'(by omega)) (by omega) (by omega)]
    have := ih k (i + 1) (m + p[i]'(by omega)) (by omega) (by omega) (by omega) (by omega)
    rw [show ((i + 1 : Nat) : Int) = (i : Int) + 1 from by omega] at this
    rw [this, List.drop_eq_getElem_cons (show i < p.length by omega), List.sum_cons]
    congr 1
    omega

theorem core (s : ByteArray) (L : List S27) (hl : L.length ≤ 1048576) : ∃ (M : Nat) (r : Int × Bool), (∀ k, M ≤ k → spec_PaintUsed.f k s L = some r) ∧ ∀ k, M ≤ k → impl_PaintUsed.f k s L = some r := by
  obtain ⟨b, e1, iff1, e2⟩ := Strokes.list s L hl
  cases b with
  | false =>
    refine ⟨L.length + 51, (0, false), fun k hk => ?_, fun k hk => ?_⟩
    · unfold spec_PaintUsed.f
      rw [e2 k (by omega)]; rfl
    · unfold impl_PaintUsed.f
      rw [e1]; rfl
  | true =>
    have ok := iff1 rfl
    obtain ⟨c, c0, c1, c2, c3⟩ := Coats.coats L ok.2.1 s.size ok.1.2 ok.2.2
    refine ⟨20000, ((L.map fun x => x.f1 - x.f0 + 1).sum, true), fun k hk => ?_, fun k hk => ?_⟩
    · have hL := ok.2.1
      unfold spec_PaintUsed.f
      rw [e2 k (by omega)]
      simp only [Option.bind_some, if_true]
      have := spec_l0 L ok.2.1 s.size ok.1.2 ok.2.2 L.length k 0 0 (by omega) (by omega) (by omega) (by omega)
      rw [show (0 : Int) = ((0 : Nat) : Int) from rfl]
      simpa using this
    · unfold impl_PaintUsed.f impl_sumOf.f
      rw [e1]
      simp only [Option.bind_some, if_true]
      rw [c3 k (by omega)]
      simp only [Option.bind_some]
      have h20 := ok.1.2
      have := sum_l0 c (by omega) c1 c.length k 0 0 (by omega) (by omega) (by omega) (by omega)
      rw [show ((0 : Nat) : Int) = 0 from rfl, List.drop_zero, Int.zero_add, c2] at this
      rw [this]
      rfl

theorem FnExactPaintUsed : laws_FnExactPaintUsed.Pure := by
  intro s l _ hm hy
  by_cases h : (s.size : Int) > 1048576
  · refine ⟨0, ?_⟩
    unfold laws_FnExactPaintUsed.f
    rw [if_pos h]
  · obtain ⟨z, hz, K, hK⟩ := Strokes.sized l hm (fun y h => (hy y h).2.2)
    by_cases hn : z < 0
    · refine ⟨K, ?_⟩
      unfold laws_FnExactPaintUsed.f
      rw [if_neg h, hK K (Nat.le_refl _)]
      simp only [Option.bind_some]
      rw [if_pos hn]
    · have hl : l.length ≤ 1048576 := by rcases hz with hz | hz; exact absurd hz hn; exact hz
      have hc := Strokes.conv_length l
      obtain ⟨M, r, hs, hi⟩ := core s (Strokes.conv l) (by omega)
      obtain ⟨Q, hQ⟩ : ∃ Q, Q = K + M + l.length + 1 := ⟨_, rfl⟩
      have e1 : ∀ j, laws_szStrokeS.f (Q + j) l 1048576 = some z := fun j => hK _ (by omega)
      have e2 : ∀ j, laws_toStrokeS.f (Q + j) l = some (Strokes.conv l) := fun j => Strokes.toS l hl _ (by omega)
      have e3 : ∀ j, laws_eqStrokeS.f (Q + j) (Strokes.conv l) (Strokes.conv l) = some true := fun j => Strokes.eqS _ (by omega) _ (by omega)
      have e4 : ∀ j, spec_PaintUsed.f (Q + j) s (Strokes.conv l) = some r := fun j => hs _ (by omega)
      have e5 : ∀ j, impl_PaintUsed.f (Q + j) s (Strokes.conv l) = some r := fun j => hi _ (by omega)
      refine ⟨Q + 20, ?_⟩
      unfold laws_FnExactPaintUsed.f
      rw [if_neg h]
      simp [e1, e2, e3, e4, e5, hn, laws_FnExactPaintUsed.j0]
end Go.Proofs.Ytcdebaohefphaaa.Pure
