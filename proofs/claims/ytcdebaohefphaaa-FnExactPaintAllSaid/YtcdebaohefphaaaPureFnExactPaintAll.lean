/- The program's PaintAll answers as the reference's PaintAll does, and leaves its list alone, for all arguments that the law lets in; no condition beside that. -/
import Derived.Test.YtcdebaohefphaaaX10
import Derived.Test.YtcdebaohefphaaaPaint
import Derived.Test.YtcdebaohefphaaaStrokes
namespace Go.Proofs.Ytcdebaohefphaaa.Pure
open Go.RowKit Go.Proofs.Ytcdebaohefphaaa.X Go.Proofs.YtcdebaohefphaaaW.PrintWords Go.Proofs.YtcdebaohefphaaaW.PrintLast Go.Proofs.Ytcdebaohefphaaa Go.Proofs.Ytcdebaohefphaaa.Fence
set_option linter.unusedVariables false
set_option linter.unusedSimpArgs false

theorem all_l0 (L : List S27) (hl : L.length ≤ 40) (n : Nat) (hn : n ≤ 20) (h : ∀ x ∈ L, Is (n : Int) x.f0 x.f1 x.f2) : ∀ (d i : Nat) (s : ByteArray), i + d = L.length → s.size = n →
    ∃ r, ∀ k, d + 30 < k → spec_stAll.l0 k s L (L.length : Int) (i : Int) = some r ∧ impl_paintedAll.l0 k s L (L.length : Int) (i : Int) = some r := by
  intro d
  induction d with
  | zero =>
    intro i s hi hs
    refine ⟨s, fun k hk => ?_⟩
    obtain ⟨k, rfl⟩ : ∃ m, k = m + 1 := ⟨k - 1, by omega⟩
    simp only [spec_stAll.l0, impl_paintedAll.l0]
    rw [if_neg (by omega), if_neg (by omega)]
    exact ⟨rfl, rfl⟩
  | succ d ih =>
    intro i s hi hs
    obtain ⟨y, y0, y1, y2⟩ := Paint.paint s (L[i]'(by omega)).f2 (L[i]'(by omega)).f0 (L[i]'(by omega)).f1 (by omega) (by rw [hs]; exact h _ (List.getElem_mem _))
    obtain ⟨r, hr⟩ := ih (i + 1) y (by omega) (by omega)
    refine ⟨r, fun k hk => ?_⟩
    obtain ⟨k, rfl⟩ : ∃ m, k = m + 1 := ⟨k - 1, by omega⟩
    obtain ⟨r1, r2⟩ := hr k (by omega)
    simp only [spec_stAll.l0, impl_paintedAll.l0]
    rw [if_pos (by omega), if_pos (by omega), if_pos (by omega), if_pos (by omega), if_pos (by omega), if_pos (by omega), Strokes.get27 L i (by omega), wid (x := (i : Int) + 1) (by omega) (by omega), y1, y2 k (by omega)]
    simp only [Option.bind_some]
    exact ⟨r1, r2⟩

theorem core (s : ByteArray) (L : List S27) (hl : L.length ≤ 1048576) : ∃ (M : Nat) (r : ByteArray × Bool), (∀ k, M ≤ k → spec_PaintAll.f k s L = some r) ∧ ∀ k, M ≤ k → impl_PaintAll.f k s L = some r := by
  obtain ⟨b, e1, iff1, e2⟩ := Strokes.list s L hl
  cases b with
  | false =>
    refine ⟨L.length + 51, (⟨#[]⟩, false), fun k hk => ?_, fun k hk => ?_⟩
    · unfold spec_PaintAll.f
      rw [e2 k (by omega)]; rfl
    · unfold impl_PaintAll.f
      rw [e1]; rfl
  | true =>
    have ok := iff1 rfl
    obtain ⟨r, hr⟩ := all_l0 L ok.2.1 s.size ok.1.2 ok.2.2 L.length 0 s (by omega) rfl
    refine ⟨L.length + 51, (r, true), fun k hk => ?_, fun k hk => ?_⟩
    · unfold spec_PaintAll.f spec_stAll.f
      rw [e2 k (by omega)]
      simp only [Option.bind_some, if_true]
      rw [show (0 : Int) = ((0 : Nat) : Int) from rfl, (hr k (by omega)).1]; rfl
    · unfold impl_PaintAll.f impl_paintedAll.f
      rw [e1]
      simp only [Option.bind_some, if_true]
      rw [show (0 : Int) = ((0 : Nat) : Int) from rfl, (hr k (by omega)).2]; rfl

theorem FnExactPaintAll : laws_FnExactPaintAll.Pure := by
  intro s l _ hm hy
  by_cases h : (s.size : Int) > 1048576
  · refine ⟨0, ?_⟩
    unfold laws_FnExactPaintAll.f
    rw [if_pos h]
  · obtain ⟨z, hz, K, hK⟩ := Strokes.sized l hm (fun y h => (hy y h).2.2)
    by_cases hn : z < 0
    · refine ⟨K, ?_⟩
      unfold laws_FnExactPaintAll.f
      rw [if_neg h, hK K (Nat.le_refl _)]
      simp only [Option.bind_some]
      rw [if_pos hn]
    · have hl : l.length ≤ 1048576 := by rcases hz with hz | hz; exact absurd hz hn; exact hz
      have hc := Strokes.conv_length l
      obtain ⟨M, r, hs, hi⟩ := core s (Strokes.conv l) (by omega)
      obtain ⟨Q, hQ⟩ : ∃ Q, Q = K + M + l.length + 1 := ⟨_, rfl⟩
      have e1 : ∀ j, laws_szStrokeS.f (Q + j) l 1048576 = some z := fun j => hK _ (by omega)
      have e2 : ∀ j, laws_toStrokeS.f (Q + j) l = some (Strokes.conv l) := fun j => Strokes.toS l hl _ (by omega)
      have e3 : ∀ j, laws_eqStrokeS.f (Q + j) (Strokes.conv l) (Strokes.conv l) = some true := fun j => Strokes.eqS _ (by omega) _ (by omega)
      have e4 : ∀ j, spec_PaintAll.f (Q + j) s (Strokes.conv l) = some r := fun j => hs _ (by omega)
      have e5 : ∀ j, impl_PaintAll.f (Q + j) s (Strokes.conv l) = some r := fun j => hi _ (by omega)
      refine ⟨Q + 20, ?_⟩
      unfold laws_FnExactPaintAll.f
      rw [if_neg h]
      simp [e1, e2, e3, e4, e5, hn, laws_FnExactPaintAll.j0]
end Go.Proofs.Ytcdebaohefphaaa.Pure
