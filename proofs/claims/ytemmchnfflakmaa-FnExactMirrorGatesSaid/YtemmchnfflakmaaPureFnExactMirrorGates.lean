/- The program's MirrorGates answers as the reference's MirrorGates does, in memory of its own, and leaves its list alone, for all arguments that the law lets in; no condition beside that. -/
import Derived.Test.YtemmchnfflakmaaX10
import Derived.Test.YtemmchnfflakmaaLawInt
import Derived.Test.YtemmchnfflakmaaGates
import Derived.Test.YtemmchnfflakmaaRev
namespace Go.Proofs.Ytemmchnfflakmaa.Pure
open Go.RowKit Go.Proofs.Ytemmchnfflakmaa.X Go.Proofs.YtemmchnfflakmaaW.PrintWords Go.Proofs.YtemmchnfflakmaaW.PrintLast Go.Proofs.Ytemmchnfflakmaa Go.Proofs.Ytemmchnfflakmaa.Gates
set_option linter.unusedVariables false
set_option linter.unusedSimpArgs false

theorem spec_l0 (a : Int) (l : List Int) (h : OK a l) : ∀ (i k : Nat) (p : List Int), i ≤ l.length → i < k → p.length + i ≤ 20 →
    spec_MirrorGates.l0 k a l p ((i : Int) - 1) = some (p ++ ((l.take i).map fun g => a - g).reverse, true) := by
  have h1 := h.1
  have h2 := h.2.1
  intro i
  induction i with
  | zero =>
    intro k p hi hk hp
    obtain ⟨k, rfl⟩ : ∃ m, k = m + 1 := ⟨k - 1, by omega⟩
    simp only [spec_MirrorGates.l0]
    rw [if_neg (by omega)]
    simp
  | succ i ih =>
    intro k p hi hk hp
    obtain ⟨k, rfl⟩ : ∃ m, k = m + 1 := ⟨k - 1, by omega⟩
    have hr := h.2.2 i (Nat.zero_le _) (by omega)
    simp only [spec_MirrorGates.l0]
    rw [show ((i + 1 : Nat) : Int) - 1 = (i : Int) from by omega, if_pos (by omega), if_pos (by omega), if_pos (by omega), if_pos (by omega), wid (x := a - rd l (i : Int)) (by omega) (by omega), wid (x := (i : Int) - 1) (by omega) (by omega),
      ih k _ (by omega) (by omega) (by simp; omega)]
    rw [List.take_succ_eq_append_getElem (by omega), rd_get l i (by omega)]
    simp only [List.map_append, List.map_cons, List.map_nil, List.reverse_append, List.reverse_cons, List.reverse_nil, List.nil_append, List.append_assoc, List.cons_append]
theorem impl_l0 (a : Int) (l : List Int) (h : OK a l) : ∀ (d k i : Nat), i + d = l.length → d + 30 < k →
    impl_MirrorGates.l0 k a ((l.take i).map fun g => a - g) l (l.length : Int) (i : Int) = some ((l.map fun g => a - g).reverse, true) := by
  have h1 := h.1
  have h2 := h.2.1
  intro d
  induction d with
  | zero =>
    intro k i hi hk
    obtain ⟨k, rfl⟩ : ∃ m, k = m + 1 := ⟨k - 1, by omega⟩
    simp only [impl_MirrorGates.l0]
    rw [if_neg (by omega), List.take_of_length_le (by omega), Rev.reverse _ (by simp; omega) k (by simp; omega)]
    rfl
  | succ d ih =>
    intro k i hi hk
    obtain ⟨k, rfl⟩ : ∃ m, k = m + 1 := ⟨k - 1, by omega⟩
    have hr := h.2.2 i (Nat.zero_le _) (by omega)
    simp only [impl_MirrorGates.l0]
    rw [if_pos (by omega), if_pos (by omega), if_pos (by omega), if_pos (by simp; omega), wid (x := a - rd l (i : Int)) (by omega) (by omega), wid (x := (i : Int) + 1) (by omega) (by omega)]
    have e : (l.take i).map (fun g => a - g) ++ [a - rd l (i : Int)] = (l.take (i + 1)).map fun g => a - g := by
      rw [List.take_succ_eq_append_getElem (by omega), rd_get l i (by omega)]
      simp only [List.map_append, List.map_cons, List.map_nil]
    rw [e]
    exact ih k (i + 1) (by omega) (by omega)

theorem core (a : Int) (l : List Int) (hl : l.length ≤ 1048576) : ∃ K r, l.length < K ∧ r.1.length ≤ 1048576 ∧ r.1.length < K ∧ spec_MirrorGates.f K a l = some r ∧ impl_MirrorGates.f K a l = some r := by
  obtain ⟨b, hb, hg⟩ := gates a l hl
  obtain ⟨g1, g2⟩ := hg (l.length + 50) (by omega)
  refine ⟨l.length + 50, ?_⟩
  unfold spec_MirrorGates.f impl_MirrorGates.f
  rw [g1, g2]
  cases b with
  | false => exact ⟨([], false), by omega, by simp, by simp, rfl, rfl⟩
  | true =>
    have ok := hb.1 rfl
    have h2 := ok.2.1
    refine ⟨((l.map fun g => a - g).reverse, true), by omega, by simp; omega, by simp; try omega, ?_, ?_⟩
    · simp only [Option.bind_some, if_true]
      rw [wid (x := (l.length : Int) - 1) (by omega) (by omega), spec_l0 a l ok l.length _ [] (Nat.le_refl _) (by omega) (by simp; omega)]
      simp
    · simp only [Option.bind_some, if_true]
      exact impl_l0 a l ok l.length _ 0 (by omega) (by omega)

theorem MirrorGates_law (a : Int) (l : List Int) (K : Nat) (r : List Int × Bool) (hl : l.length ≤ 1048576) (kl : l.length < K) (hr : r.1.length ≤ 1048576) (kr : r.1.length < K) (hs : spec_MirrorGates.f K a l = some r) (hi : impl_MirrorGates.f K a l = some r) : ∃ k, laws_FnExactMirrorGates.f k a l = some true := by
  have hTl : ∀ j, laws_toIntS.f (K + j) l = some l := fun j => LawInt.toIntS l hl _ (by omega)
  have hEl : ∀ j, laws_eqIntS.f (K + j) l l = some true := fun j => LawInt.eqIntS l hl _ (by omega)
  obtain ⟨yl, hMl0, _⟩ := LawInt.marked l hl
  have hMl : ∀ j, laws_markIntS.f (K + j) l 1 = some (1 + (l.length : Int), yl) := fun j => hMl0 _ (by omega)
  have nl : ¬ (1 + (l.length : Int)) < 0 := by omega
  have hs' : ∀ j, spec_MirrorGates.f (K + j) a l = some r := fun j => at_rounds (g := fun k => spec_MirrorGates.f k a l) (spec_MirrorGates.mono a l) (Nat.le_add_right K j) hs
  have hi' : ∀ j, impl_MirrorGates.f (K + j) a l = some r := fun j => at_rounds (g := fun k => impl_MirrorGates.f k a l) (impl_MirrorGates.mono a l) (Nat.le_add_right K j) hi
  have hE : ∀ j, laws_eqIntS.f (K + j) r.1 r.1 = some true := fun j => LawInt.eqIntS r.1 hr _ (by omega)
  obtain ⟨y, hM0, hH0⟩ := LawInt.marked r.1 hr
  have hM : ∀ j, laws_markIntS.f (K + j) r.1 1 = some (1 + (r.1.length : Int), y) := fun j => hM0 _ (by omega)
  have hH : ∀ j, laws_heldIntS.f (K + j) y 1 = some (1 + (r.1.length : Int)) := fun j => hH0 _ (by omega)
  have n0 : ¬ (1 + (r.1.length : Int)) < 0 := by omega
  refine ⟨K + 20, ?_⟩
  unfold laws_FnExactMirrorGates.f
  rw [if_neg (by omega)]
  simp [hTl, hEl, hMl, nl, hs', hi', hE, hM, hH, n0, laws_FnExactMirrorGates.j0, laws_FnExactMirrorGates.j1, laws_FnExactMirrorGates.j2]

theorem FnExactMirrorGates : laws_FnExactMirrorGates.Pure := by
  intro a l _ _ _ _
  by_cases hl : (l.length : Int) > 1048576
  · refine ⟨0, ?_⟩
    unfold laws_FnExactMirrorGates.f
    rw [if_pos hl]
  · obtain ⟨K, r, hK, hr, kr, hs, hi⟩ := core a l (by omega)
    exact MirrorGates_law a l K r (by omega) hK hr kr hs hi
end Go.Proofs.Ytemmchnfflakmaa.Pure
