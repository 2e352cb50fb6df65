/- The program's CoatsOf answers as the reference's CoatsOf does, in memory of its own, and leaves its list alone, for all arguments that the law lets in; no condition beside that. -/
import Derived.Test.YtcdebaohefphaaaX9
import Derived.Test.YtcdebaohefphaaaPaint
import Derived.Test.YtcdebaohefphaaaStrokes
import Derived.Test.YtcdebaohefphaaaCoats
import Derived.Test.YtcdebaohefphaaaMark
import Derived.Test.YtcdebaohefphaaaLawInt
namespace Go.Proofs.Ytcdebaohefphaaa.Pure
open Go.RowKit Go.Proofs.Ytcdebaohefphaaa.X Go.Proofs.YtcdebaohefphaaaW.PrintWords Go.Proofs.YtcdebaohefphaaaW.PrintLast Go.Proofs.Ytcdebaohefphaaa Go.Proofs.Ytcdebaohefphaaa.Fence
set_option linter.unusedVariables false
set_option linter.unusedSimpArgs false

theorem same : ∀ k, (∀ (x : List Int) (L : List S27) (n i : Int), spec_stCoats.l0 k x L n i = impl_coats.l0 k x L n i) ∧ ∀ (x : List Int) (j : Int) (L : List S27) (n i f0 f1 : Int) (c : ByteArray), spec_stCoats.l1 k x j L n i f0 f1 c = impl_coats.l1 k x j L n i f0 f1 c := by
  intro k
  induction k with
  | zero => exact ⟨fun _ _ _ _ => rfl, fun _ _ _ _ _ _ _ _ => rfl⟩
  | succ k ih =>
    refine ⟨fun x L n i => ?_, fun x j L n i f0 f1 c => ?_⟩
    · simp only [spec_stCoats.l0, impl_coats.l0, ih.2]
    · simp only [spec_stCoats.l1, impl_coats.l1, ih.1, ih.2]
theorem same_f (k : Nat) (n : Int) (L : List S27) : spec_stCoats.f k n L = impl_coats.f k n L := by
  unfold spec_stCoats.f impl_coats.f
  rw [(same k).1]

theorem core (s : ByteArray) (L : List S27) (hl : L.length ≤ 1048576) : ∃ (M : Nat) (r : List Int × Bool), (r.1.length ≤ 1048576 ∧ r.1.length ≤ M) ∧ (∀ k, M ≤ k → spec_CoatsOf.f k s L = some r) ∧ ∀ k, M ≤ k → impl_CoatsOf.f k s L = some r := by
  obtain ⟨b, e1, iff1, e2⟩ := Strokes.list s L hl
  cases b with
  | false =>
    refine ⟨L.length + 51, ([], false), by simp, fun k hk => ?_, fun k hk => ?_⟩
    · unfold spec_CoatsOf.f
      rw [e2 k (by omega)]; rfl
    · unfold impl_CoatsOf.f
      rw [e1]; rfl
  | true =>
    have ok := iff1 rfl
    have hL := ok.2.1
    have h20 := ok.1.2
    obtain ⟨c, c0, c1, c2, c3⟩ := Coats.coats L ok.2.1 s.size ok.1.2 ok.2.2
    refine ⟨20000, (c, true), ?_, fun k hk => ?_, fun k hk => ?_⟩
    · show c.length ≤ 1048576 ∧ c.length ≤ 20000; omega
    · unfold spec_CoatsOf.f
      rw [e2 k (by omega)]
      simp only [Option.bind_some, if_true]
      rw [same_f, c3 k (by omega)]; rfl
    · unfold impl_CoatsOf.f
      rw [e1]
      simp only [Option.bind_some, if_true]
      rw [c3 k (by omega)]; rfl

theorem FnExactCoatsOf : laws_FnExactCoatsOf.Pure := by
  intro s l _ hm hy
  by_cases h : (s.size : Int) > 1048576
  · refine ⟨0, ?_⟩
    unfold laws_FnExactCoatsOf.f
    rw [if_pos h]
  · obtain ⟨z, hz, K, hK⟩ := Strokes.sized l hm (fun y h => (hy y h).2.2)
    by_cases hn : z < 0
    · refine ⟨K, ?_⟩
      unfold laws_FnExactCoatsOf.f
      rw [if_neg h, hK K (Nat.le_refl _)]
      simp only [Option.bind_some]
      rw [if_pos hn]
    · have hl : l.length ≤ 1048576 := by rcases hz with hz | hz; exact absurd hz hn; exact hz
      have hc := Strokes.conv_length l
      obtain ⟨M, r, hr, hs, hi⟩ := core s (Strokes.conv l) (by omega)
      obtain ⟨Q, hQ⟩ : ∃ Q, Q = K + M + l.length + 100 := ⟨_, rfl⟩
      have hmk : ∀ j, ∃ y, laws_markStrokeS.f (Q + j) (Strokes.conv l) 1 = some (1 + 3 * ((Strokes.conv l).length : Int), y) := fun j => Mark.mark _ (by omega) _ (by omega)
      obtain ⟨Y, e6⟩ : ∃ Y : Nat → List S27, ∀ j, laws_markStrokeS.f (Q + j) (Strokes.conv l) 1 = some (1 + 3 * ((Strokes.conv l).length : Int), Y j) := ⟨fun j => Classical.choose (hmk j), fun j => Classical.choose_spec (hmk j)⟩
      clear hmk
      have n6 : ¬ (1 + 3 * ((Strokes.conv l).length : Int)) < 0 := by omega
      have hE : ∀ j, laws_eqIntS.f (Q + j) r.1 r.1 = some true := fun j => LawInt.eqIntS r.1 (by omega) _ (by omega)
      obtain ⟨y, hM0, hH0⟩ := LawInt.marked r.1 (by omega)
      have hM : ∀ j, laws_markIntS.f (Q + j) r.1 1 = some (1 + (r.1.length : Int), y) := fun j => hM0 _ (by omega)
      have hH : ∀ j, laws_heldIntS.f (Q + j) y 1 = some (1 + (r.1.length : Int)) := fun j => hH0 _ (by omega)
      have n0 : ¬ (1 + (r.1.length : Int)) < 0 := by omega
      have e1 : ∀ j, laws_szStrokeS.f (Q + j) l 1048576 = some z := fun j => hK _ (by omega)
      have e2 : ∀ j, laws_toStrokeS.f (Q + j) l = some (Strokes.conv l) := fun j => Strokes.toS l hl _ (by omega)
      have e3 : ∀ j, laws_eqStrokeS.f (Q + j) (Strokes.conv l) (Strokes.conv l) = some true := fun j => Strokes.eqS _ (by omega) _ (by omega)
      have e4 : ∀ j, spec_CoatsOf.f (Q + j) s (Strokes.conv l) = some r := fun j => hs _ (by omega)
      have e5 : ∀ j, impl_CoatsOf.f (Q + j) s (Strokes.conv l) = some r := fun j => hi _ (by omega)
      refine ⟨Q + 20, ?_⟩
      unfold laws_FnExactCoatsOf.f
      rw [if_neg h]
      simp [e1, e2, e3, e4, e5, hn, e6, n6, hE, hM, hH, n0, laws_FnExactCoatsOf.j0, laws_FnExactCoatsOf.j1, laws_FnExactCoatsOf.j2]
end Go.Proofs.Ytcdebaohefphaaa.Pure
