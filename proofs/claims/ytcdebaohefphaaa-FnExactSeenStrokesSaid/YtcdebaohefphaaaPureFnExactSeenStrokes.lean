/- The program's SeenStrokes answers as the reference's SeenStrokes does, in memory of its own, and leaves its list alone, for all arguments that the law lets in; no condition beside that. -/
import Derived.Test.YtcdebaohefphaaaX13
import Derived.Test.YtcdebaohefphaaaPaint
import Derived.Test.YtcdebaohefphaaaStrokes
import Derived.Test.YtcdebaohefphaaaCoats
import Derived.Test.YtcdebaohefphaaaMark
import Derived.Test.YtcdebaohefphaaaLawInt
namespace Go.Proofs.Ytcdebaohefphaaa.Pure
open Go.RowKit Go.Proofs.Ytcdebaohefphaaa.X Go.Proofs.YtcdebaohefphaaaW.PrintWords Go.Proofs.YtcdebaohefphaaaW.PrintLast Go.Proofs.Ytcdebaohefphaaa Go.Proofs.Ytcdebaohefphaaa.Fence
set_option linter.unusedVariables false
set_option linter.unusedSimpArgs false
set_option linter.unusedSectionVars false

theorem same : ∀ k, (∀ (x : List Int) (L : List S27) (n i : Int), spec_stCoats.l0 k x L n i = impl_coats.l0 k x L n i) ∧ ∀ (x : List Int) (j : Int) (L : List S27) (n i f0 f1 : Int) (c : ByteArray), spec_stCoats.l1 k x j L n i f0 f1 c = impl_coats.l1 k x j L n i f0 f1 c := by
  intro k
  induction k with
  | zero => exact ⟨fun _ _ _ _ => rfl, fun _ _ _ _ _ _ _ _ => rfl⟩
  | succ k ih =>
    refine ⟨fun x L n i => ?_, fun x j L n i f0 f1 c => ?_⟩
    · simp only [spec_stCoats.l0, impl_coats.l0, ih.2]
    · simp only [spec_stCoats.l1, impl_coats.l1, ih.1, ih.2]
theorem same_f (k : Nat) (n : Int) (L : List S27) : spec_stCoats.f k n L = impl_coats.f k n L := by
  unfold spec_stCoats.f impl_coats.f
  rw [(same k).1]

theorem at_most (L : List S27) (n : Nat) (h : ∀ x ∈ L, Is (n : Int) x.f0 x.f1 x.f2) (t : List S27) (ht : ∀ x ∈ t, x ∈ L) : ∀ x ∈ t, Is (n : Int) x.f0 x.f1 x.f2 := fun x hx => h x (ht x hx)

theorem index_l0 (p : List Int) (hp : p.length ≤ 1000) : ∀ (d k i : Nat), i + d = p.length → d < k → ∃ r : Int, slices_Index_int_int.l0 k p 0 (p.length : Int) (i : Int) = some r ∧ (0 ≤ r ↔ ∃ q : Nat, i ≤ q ∧ q < p.length ∧ rd p (q : Int) = 0) := by
  intro d
  induction d with
  | zero =>
    intro k i hi hk
    obtain ⟨k, rfl⟩ : ∃ m, k = m + 1 := ⟨k - 1, by omega⟩
    simp only [slices_Index_int_int.l0]
    rw [if_neg (by omega)]
    exact ⟨-1, rfl, fun h => absurd h (by omega), fun ⟨q, h1, h2, _⟩ => by omega⟩
  | succ d ih =>
    intro k i hi hk
    obtain ⟨k, rfl⟩ : ∃ m, k = m + 1 := ⟨k - 1, by omega⟩
    simp only [slices_Index_int_int.l0]
    rw [if_pos (by omega), if_pos (by omega), if_pos (by omega)]
    by_cases c : 0 = rd p (i : Int)
    · rw [if_pos c]
      exact ⟨_, rfl, fun _ => ⟨i, Nat.le_refl _, by omega, c.symm⟩, fun _ => by omega⟩
    · rw [if_neg c, wid (x := (i : Int) + 1) (by omega) (by omega)]
      obtain ⟨r, h1, h2⟩ := ih k (i + 1) (by omega) (by omega)
      rw [show ((i + 1 : Nat) : Int) = (i : Int) + 1 from by omega] at h1
      refine ⟨r, h1, h2.trans ⟨fun ⟨q, a1, a2, a3⟩ => ⟨q, by omega, a2, a3⟩, fun ⟨q, a1, a2, a3⟩ => ⟨q, ?_, a2, a3⟩⟩⟩
      by_cases e : q = i
      · subst e; exact absurd a3.symm c
      · omega

theorem upto (q : Nat) (f : Int) : q < (f + 1).toNat ↔ (q : Int) ≤ f := by omega
theorem window (c : List Int) (u w : Nat) (hw : w ≤ c.length) : (∃ q : Nat, 0 ≤ q ∧ q < ((c.take w).drop u).length ∧ rd ((c.take w).drop u) (q : Int) = 0) ↔ ∃ q : Nat, u ≤ q ∧ q < w ∧ rd c (q : Int) = 0 := by
  have hl : ((c.take w).drop u).length = w - u := by rw [List.length_drop, List.length_take]; omega
  constructor
  · rintro ⟨q, _, a2, a3⟩
    rw [Coats.rd_get _ q a2, List.getElem_drop, List.getElem_take] at a3
    refine ⟨u + q, by omega, by omega, ?_⟩
    rw [Coats.rd_get c _ (by omega)]
    exact a3
  · rintro ⟨q, a1, a2, a3⟩
    rw [Coats.rd_get c q (by omega)] at a3
    refine ⟨q - u, by omega, by omega, ?_⟩
    rw [Coats.rd_get _ _ (by omega), List.getElem_drop, List.getElem_take]
    simp only [show u + (q - u) = q from by omega]
    exact a3
section
variable (s : ByteArray) (L : List S27) (ok : Strokes.OK s L)
include ok
theorem seen_l1 (out : List Int) (ho : out.length ≤ 1000) (i : Int) (hi : 0 ≤ i ∧ i ≤ 1000) (c : List Int) (hc : c.length = s.size) (f0 f1 : Int) (c2 : ByteArray) (hf : f1 < (s.size : Int)) (h1 : -1 ≤ f1) (M : Nat) (r1 r2 : List Int × Bool)
    (g1 : ∀ k, M ≤ k → spec_SeenStrokes.l0 k s L (out ++ [i]) L (L.length : Int) (i + 1) = some r1) (g2 : ∀ k, M ≤ k → spec_SeenStrokes.l0 k s L out L (L.length : Int) (i + 1) = some r2) : ∀ (d j : Nat), (j : Int) + d = f1 + 1 →
    ∃ b : Bool, (b = true ↔ ∃ q : Nat, j ≤ q ∧ (q : Int) ≤ f1 ∧ rd c (q : Int) = 0) ∧ ∀ k, M + d + 1 ≤ k → spec_SeenStrokes.l1 k s L out i c (j : Int) L (L.length : Int) i f0 f1 c2 = some (if b = true then r1 else r2) := by
  have h20 := ok.1.2
  intro d
  induction d with
  | zero =>
    intro j hj
    refine ⟨false, ⟨fun h => (by cases h), fun ⟨q, a1, a2, _⟩ => by omega⟩, fun k hk => ?_⟩
    obtain ⟨k, rfl⟩ : ∃ m, k = m + 1 := ⟨k - 1, by omega⟩
    rw [spec_SeenStrokes.l1, if_neg (by omega), wid (x := i + 1) (by omega) (by omega), g2 k (by omega)]
    rfl
  | succ d ih =>
    intro j hj
    by_cases z : rd c (j : Int) = 0
    · refine ⟨true, ⟨fun _ => ⟨j, Nat.le_refl _, by omega, z⟩, fun _ => rfl⟩, fun k hk => ?_⟩
      obtain ⟨k, rfl⟩ : ∃ m, k = m + 1 := ⟨k - 1, by omega⟩
      rw [spec_SeenStrokes.l1, if_pos (by omega), if_pos (by omega), if_pos (by omega), if_pos z, if_pos (by omega), wid (x := i + 1) (by omega) (by omega), g1 k (by omega)]
      rfl
    · obtain ⟨b, b1, b2⟩ := ih (j + 1) (by omega)
      refine ⟨b, b1.trans ⟨fun ⟨q, a1, a2, a3⟩ => ⟨q, by omega, a2, a3⟩, fun ⟨q, a1, a2, a3⟩ => ⟨q, ?_, a2, a3⟩⟩, fun k hk => ?_⟩
      · by_cases e : q = j
        · subst e; exact absurd a3 z
        · omega
      · obtain ⟨k, rfl⟩ : ∃ m, k = m + 1 := ⟨k - 1, by omega⟩
        have := b2 k (by omega)
        rw [show ((j + 1 : Nat) : Int) = (j : Int) + 1 from by omega] at this
        rw [spec_SeenStrokes.l1, if_pos (by omega), if_pos (by omega), if_pos (by omega), if_neg z, wid (x := (j : Int) + 1) (by omega) (by omega), this]

theorem seen_l0 : ∀ (d i : Nat) (out : List Int), i + d = L.length → out.length ≤ i → ∃ (M : Nat) (r : List Int), r.length ≤ L.length ∧ ∀ k, M ≤ k → spec_SeenStrokes.l0 k s L out L (L.length : Int) (i : Int) = some (r, true) ∧ impl_SeenStrokes.l0 k s L out L (L.length : Int) (i : Int) = some (r, true) := by
  have hl := ok.2.1
  have h20 := ok.1.2
  intro d
  induction d with
  | zero =>
    intro i out hi ho
    refine ⟨1, out, by omega, fun k hk => ?_⟩
    obtain ⟨k, rfl⟩ : ∃ m, k = m + 1 := ⟨k - 1, by omega⟩
    rw [spec_SeenStrokes.l0, impl_SeenStrokes.l0, if_neg (by omega), if_neg (by omega)]
    exact ⟨rfl, rfl⟩
  | succ d ih =>
    intro i out hi ho
    obtain ⟨M1, r1, p1, q1⟩ := ih (i + 1) (out ++ [(i : Int)]) (by omega) (by simp; omega)
    obtain ⟨M2, r2, p2, q2⟩ := ih (i + 1) out (by omega) (by omega)
    have hd : (L.drop (i + 1)).length = d := by rw [List.length_drop]; omega
    obtain ⟨c, c0, _, _, c3⟩ := Coats.coats (L.drop (i + 1)) (by omega) s.size h20 (at_most L s.size ok.2.2 _ (fun y hy => List.mem_of_mem_drop hy))
    have hI := ok.2.2 (L[i]'(by omega)) (List.getElem_mem _)
    obtain ⟨⟨x1, x2, x3⟩, _⟩ := hI
    have hg := Strokes.get27 L i (by omega)
    generalize L[i]'(by omega) = y at *
    rw [show ((i + 1 : Nat) : Int) = (i : Int) + 1 from by omega] at q1 q2
    obtain ⟨b, b1, b2⟩ := seen_l1 s L ok out (by omega) (i : Int) (by omega) c c0 y.f0 y.f1 y.f2 x3 (by omega) (M1 + M2) (r1, true) (r2, true) (fun k hk => (q1 k (by omega)).1) (fun k hk => (q2 k (by omega)).1) (y.f1 - y.f0 + 1).toNat y.f0.toNat (by omega)
    rw [Int.toNat_of_nonneg x1] at b2
    have hcw0 : (y.f1 + 1).toNat ≤ c.length := by omega
    have hw : ((c.take (y.f1 + 1).toNat).drop y.f0.toNat).length = (y.f1 + 1).toNat - y.f0.toNat := by rw [List.length_drop, List.length_take]; omega
    obtain ⟨v, v1, v2⟩ := index_l0 ((c.take (y.f1 + 1).toNat).drop y.f0.toNat) (by omega) ((c.take (y.f1 + 1).toNat).drop y.f0.toNat).length 100 0 (by omega) (by omega)
    have hcw : (y.f1 + 1).toNat ≤ c.length := hcw0
    have same : decide (v ≥ 0) = b := by
      rw [Bool.eq_iff_iff, decide_eq_true_eq, b1]
      exact v2.trans ((window c y.f0.toNat (y.f1 + 1).toNat hcw).trans ⟨fun ⟨q, a1, a2, a3⟩ => ⟨q, a1, (upto q y.f1).1 a2, a3⟩, fun ⟨q, a1, a2, a3⟩ => ⟨q, a1, (upto q y.f1).2 a2, a3⟩⟩)
    have hC : ∀ k, 100 ≤ k → slices_Contains_int_int.f k ((c.take (y.f1 + 1).toNat).drop y.f0.toNat) 0 = some b := fun k hk => by
      unfold slices_Contains_int_int.f slices_Index_int_int.f
      have := at_rounds (g := fun k => slices_Index_int_int.l0 k ((c.take (y.f1 + 1).toNat).drop y.f0.toNat) 0 (((c.take (y.f1 + 1).toNat).drop y.f0.toNat).length : Int) 0) (fun k => slices_Index_int_int.mono_l k _ _ _ _) hk v1
      rw [this, Option.bind_some, same]
    refine ⟨M1 + M2 + 3000, if b = true then r1 else r2, by split <;> omega, fun k hk => ?_⟩
    obtain ⟨k, rfl⟩ : ∃ m, k = m + 1 := ⟨k - 1, by omega⟩
    constructor
    · rw [spec_SeenStrokes.l0, if_pos (by omega), if_pos (by omega), if_pos (by omega), wid (x := (i : Int) + 1) (by omega) (by omega), if_pos (by omega), if_pos (by omega), show ((i : Int) + 1).toNat = i + 1 from by omega, same_f, c3 k (by omega), Option.bind_some, hg, b2 k (by omega)]
      cases b <;> rfl
    · rw [impl_SeenStrokes.l0, if_pos (by omega), if_pos (by omega), if_pos (by omega), wid (x := (i : Int) + 1) (by omega) (by omega), if_pos (by omega), if_pos (by omega), show ((i : Int) + 1).toNat = i + 1 from by omega, c3 k (by omega), Option.bind_some, hg, wid (x := y.f1 + 1) (by omega) (by omega), if_pos (by omega), if_pos (by omega), if_pos (by omega), hC k (by omega), Option.bind_some]
      cases b with
      | true => rw [if_pos rfl, if_pos (by omega), (q1 k (by omega)).2]; rfl
      | false => rw [if_neg (by simp), (q2 k (by omega)).2]; rfl
end

theorem core (s : ByteArray) (L : List S27) (hl : L.length ≤ 1048576) : ∃ (M : Nat) (r : List Int × Bool), (r.1.length ≤ 1048576 ∧ r.1.length ≤ M) ∧ (∀ k, M ≤ k → spec_SeenStrokes.f k s L = some r) ∧ ∀ k, M ≤ k → impl_SeenStrokes.f k s L = some r := by
  obtain ⟨b, e1, iff1, e2⟩ := Strokes.list s L hl
  cases b with
  | false =>
    refine ⟨L.length + 51, ([], false), by simp, fun k hk => ?_, fun k hk => ?_⟩
    · unfold spec_SeenStrokes.f
      rw [e2 k (by omega)]; rfl
    · unfold impl_SeenStrokes.f
      rw [e1]; rfl
  | true =>
    have ok := iff1 rfl
    have h40 := ok.2.1
    obtain ⟨M, r, hr, hq⟩ := seen_l0 s L ok L.length 0 [] (by omega) (by simp)
    refine ⟨M + 1000, (r, true), ?_, fun k hk => ?_, fun k hk => ?_⟩
    · show r.length ≤ 1048576 ∧ r.length ≤ M + 1000; omega
    · unfold spec_SeenStrokes.f
      rw [e2 k (by omega), Option.bind_some, if_pos rfl]
      exact (hq k (by omega)).1
    · unfold impl_SeenStrokes.f
      rw [e1, Option.bind_some, if_pos rfl]
      exact (hq k (by omega)).2

theorem FnExactSeenStrokes : laws_FnExactSeenStrokes.Pure := by
  intro s l _ hm hy
  by_cases h : (s.size : Int) > 1048576
  · refine ⟨0, ?_⟩
    unfold laws_FnExactSeenStrokes.f
    rw [if_pos h]
  · obtain ⟨z, hz, K, hK⟩ := Strokes.sized l hm (fun y h => (hy y h).2.2)
    by_cases hn : z < 0
    · refine ⟨K, ?_⟩
      unfold laws_FnExactSeenStrokes.f
      rw [if_neg h, hK K (Nat.le_refl _)]
      simp only [Option.bind_some]
      rw [if_pos hn]
    · have hl : l.length ≤ 1048576 := by rcases hz with hz | hz; exact absurd hz hn; exact hz
      have hc := Strokes.conv_length l
      obtain ⟨M, r, hr, hs, hi⟩ := core s (Strokes.conv l) (by omega)
      obtain ⟨Q, hQ⟩ : ∃ Q, Q = K + M + l.length + 100 := ⟨_, rfl⟩
      have hmk : ∀ j, ∃ y, laws_markStrokeS.f (Q + j) (Strokes.conv l) 1 = some (1 + 3 * ((Strokes.conv l).length : Int), y) := fun j => Mark.mark _ (by omega) _ (by omega)
      obtain ⟨Y, e6⟩ : ∃ Y : Nat → List S27, ∀ j, laws_markStrokeS.f (Q + j) (Strokes.conv l) 1 = some (1 + 3 * ((Strokes.conv l).length : Int), Y j) := ⟨fun j => Classical.choose (hmk j), fun j => Classical.choose_spec (hmk j)⟩
      clear hmk
      have n6 : ¬ (1 + 3 * ((Strokes.conv l).length : Int)) < 0 := by omega
      have hE : ∀ j, laws_eqIntS.f (Q + j) r.1 r.1 = some true := fun j => LawInt.eqIntS r.1 (by omega) _ (by omega)
      obtain ⟨y, hM0, hH0⟩ := LawInt.marked r.1 (by omega)
      have hM : ∀ j, laws_markIntS.f (Q + j) r.1 1 = some (1 + (r.1.length : Int), y) := fun j => hM0 _ (by omega)
      have hH : ∀ j, laws_heldIntS.f (Q + j) y 1 = some (1 + (r.1.length : Int)) := fun j => hH0 _ (by omega)
      have n0 : ¬ (1 + (r.1.length : Int)) < 0 := by omega
      have e1 : ∀ j, laws_szStrokeS.f (Q + j) l 1048576 = some z := fun j => hK _ (by omega)
      have e2 : ∀ j, laws_toStrokeS.f (Q + j) l = some (Strokes.conv l) := fun j => Strokes.toS l hl _ (by omega)
      have e3 : ∀ j, laws_eqStrokeS.f (Q + j) (Strokes.conv l) (Strokes.conv l) = some true := fun j => Strokes.eqS _ (by omega) _ (by omega)
      have e4 : ∀ j, spec_SeenStrokes.f (Q + j) s (Strokes.conv l) = some r := fun j => hs _ (by omega)
      have e5 : ∀ j, impl_SeenStrokes.f (Q + j) s (Strokes.conv l) = some r := fun j => hi _ (by omega)
      refine ⟨Q + 20, ?_⟩
      unfold laws_FnExactSeenStrokes.f
      rw [if_neg h]
      simp [e1, e2, e3, e4, e5, hn, e6, n6, hE, hM, hH, n0, laws_FnExactSeenStrokes.j0, laws_FnExactSeenStrokes.j1, laws_FnExactSeenStrokes.j2]
end Go.Proofs.Ytcdebaohefphaaa.Pure
