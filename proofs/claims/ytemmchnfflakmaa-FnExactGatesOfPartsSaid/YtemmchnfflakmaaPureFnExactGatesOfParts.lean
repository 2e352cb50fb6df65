/- The program's GatesOfParts answers as the reference's GatesOfParts does, in memory of its own, and leaves its list alone, for all arguments that the law lets in; no condition beside that. -/
import Derived.Test.YtemmchnfflakmaaX8
import Derived.Test.YtemmchnfflakmaaLawInt
import Derived.Test.YtemmchnfflakmaaGates
namespace Go.Proofs.Ytemmchnfflakmaa.Pure
open Go.RowKit Go.Proofs.Ytemmchnfflakmaa.X Go.Proofs.YtemmchnfflakmaaW.PrintWords Go.Proofs.YtemmchnfflakmaaW.PrintLast Go.Proofs.Ytemmchnfflakmaa Go.Proofs.Ytemmchnfflakmaa.Gates
set_option linter.unusedVariables false
set_option linter.unusedSimpArgs false

theorem all_l0 (l : List Int) (lo hi : Int) (hl : l.length ≤ 1048576) : ∀ (d k i : Nat), i + d = l.length → d < k →
    ∃ b, spec_l1All.l0 k lo hi l (l.length : Int) (i : Int) = some b ∧ (b = true ↔ ∀ j : Nat, i ≤ j → j < l.length → lo ≤ rd l (j : Int) ∧ rd l (j : Int) ≤ hi) := by
  intro d
  induction d with
  | zero =>
    intro k i hi' hk
    obtain ⟨k, rfl⟩ : ∃ m, k = m + 1 := ⟨k - 1, by omega⟩
    simp only [spec_l1All.l0]
    rw [if_neg (by omega)]
    exact ⟨true, rfl, by simp; intro j h1 h2; omega⟩
  | succ d ih =>
    intro k i hi' hk
    obtain ⟨k, rfl⟩ : ∃ m, k = m + 1 := ⟨k - 1, by omega⟩
    simp only [spec_l1All.l0]
    rw [if_pos (by omega), if_pos (by omega), if_pos (by omega), in_some, wid (x := (i : Int) + 1) (by omega) (by omega)]
    simp only [Option.bind_some]
    by_cases h : lo ≤ rd l (i : Int) ∧ rd l (i : Int) ≤ hi
    · rw [decide_eq_true h, if_pos rfl]
      obtain ⟨b, hb, hiff⟩ := ih k (i + 1) (by omega) (by omega)
      refine ⟨b, hb, hiff.trans ⟨fun hall j h1 h2 => ?_, fun hall j h1 h2 => hall j (by omega) h2⟩⟩
      by_cases e : j = i
      · subst e; exact h
      · exact hall j (by omega) h2
    · rw [decide_eq_false h, if_neg (by simp)]
      exact ⟨false, rfl, by simp, fun hall => absurd (hall i (Nat.le_refl _) (by omega)) h⟩
theorem all_same (l : List Int) (lo hi : Int) (hl : l.length ≤ 1048576) (k : Nat) (hk : l.length < k) : spec_l1All.f k l lo hi = impl_allWithin.f l lo hi := by
  obtain ⟨b, hb, hiff⟩ := all_l0 l lo hi hl l.length k 0 (by omega) hk
  unfold spec_l1All.f impl_allWithin.f
  rw [show (0 : Int) = ((0 : Nat) : Int) from rfl, hb]
  congr 1
  rw [Bool.eq_iff_iff, hiff, all_rd]
  exact ⟨fun h j hj => h j (Nat.zero_le _) hj, fun h j _ hj => h j hj⟩
theorem sum_same : ∀ (k : Nat) (s : Int) (l : List Int) (n i : Int), impl_sumOf.l0 k s l n i = spec_shSum.l0 k s l n i := by
  intro k
  induction k with
  | zero => intros; rfl
  | succ k ih => intros; simp only [impl_sumOf.l0, spec_shSum.l0, ih]
theorem sum_ends (l : List Int) (hl : l.length ≤ 1048576) : ∀ (d k i : Nat) (s : Int), i + d = l.length → d < k → ∃ r, spec_shSum.l0 k s l (l.length : Int) (i : Int) = some r := by
  intro d
  induction d with
  | zero =>
    intro k i s hi hk
    obtain ⟨k, rfl⟩ : ∃ m, k = m + 1 := ⟨k - 1, by omega⟩
    simp only [spec_shSum.l0]
    rw [if_neg (by omega)]
    exact ⟨_, rfl⟩
  | succ d ih =>
    intro k i s hi hk
    obtain ⟨k, rfl⟩ : ∃ m, k = m + 1 := ⟨k - 1, by omega⟩
    simp only [spec_shSum.l0]
    rw [if_pos (by omega), if_pos (by omega), if_pos (by omega), wid (x := (i : Int) + 1) (by omega) (by omega)]
    exact ih k (i + 1) _ (by omega) (by omega)
theorem gates_same : ∀ (k : Nat) (p : List Int) (s : Int) (l : List Int) (n i : Int), impl_GatesOfParts.l0 k p s l n i = spec_GatesOfParts.l0 k p s l n i := by
  intro k
  induction k with
  | zero => intros; rfl
  | succ k ih => intros; simp only [impl_GatesOfParts.l0, spec_GatesOfParts.l0, ih]
theorem gates_ends (l : List Int) (hl : l.length ≤ 11) : ∀ (d k i : Nat) (p : List Int) (s : Int), i + d = l.length → d < k → p.length = i → ∃ r, spec_GatesOfParts.l0 k p s l (l.length : Int) (i : Int) = some r ∧ r.1.length ≤ 11 := by
  intro d
  induction d with
  | zero =>
    intro k i p s hi hk hp
    obtain ⟨k, rfl⟩ : ∃ m, k = m + 1 := ⟨k - 1, by omega⟩
    simp only [spec_GatesOfParts.l0]
    rw [if_neg (by omega)]
    exact ⟨_, rfl, by show p.length ≤ 11; omega⟩
  | succ d ih =>
    intro k i p s hi hk hp
    obtain ⟨k, rfl⟩ : ∃ m, k = m + 1 := ⟨k - 1, by omega⟩
    simp only [spec_GatesOfParts.l0]
    rw [if_pos (by omega), if_pos (by omega), if_pos (by omega), if_pos (by omega), wid (x := (i : Int) + 1) (by omega) (by omega)]
    exact ih k (i + 1) _ _ (by omega) (by omega) (by simp; omega)

theorem core (l : List Int) (hl : l.length ≤ 1048576) : ∃ K r, l.length < K ∧ r.1.length ≤ 1048576 ∧ r.1.length < K ∧ spec_GatesOfParts.f K l = some r ∧ impl_GatesOfParts.f K l = some r := by
  refine ⟨l.length + 30, ?_⟩
  unfold spec_GatesOfParts.f impl_GatesOfParts.f
  rw [in_some, within_some, all_same l 1 40 hl _ (by omega)]
  by_cases hn : 1 ≤ (l.length : Int) ∧ (l.length : Int) ≤ 11
  · rw [decide_eq_true hn]
    unfold impl_allWithin.f
    simp only [Option.bind_some, if_true]
    cases (l.all fun x => decide (1 ≤ x ∧ x ≤ 40)) with
    | false => exact ⟨([], false), by omega, by simp, by simp, by simp [spec_GatesOfParts.j0], by simp [impl_GatesOfParts.j0]⟩
    | true =>
      obtain ⟨s, hs⟩ := sum_ends l hl l.length (l.length + 30) 0 0 (by omega) (by omega)
      have hs' : impl_sumOf.l0 (l.length + 30) 0 l (l.length : Int) ((0 : Nat) : Int) = some s := by rw [sum_same]; exact hs
      unfold spec_shSum.f impl_sumOf.f
      rw [show (0 : Int) = ((0 : Nat) : Int) from rfl] at hs hs' ⊢
      rw [hs, hs']
      simp only [Option.bind_some, if_true]
      rw [gaBoards_some, isRow_some]
      simp only [Option.bind_some]
      cases decide (2 ≤ s ∧ s ≤ 40) with
      | false => exact ⟨([], false), by omega, by simp, by simp, by simp [spec_GatesOfParts.j0], by simp [impl_GatesOfParts.j0]⟩
      | true =>
        have hlt : (l.take ((l.length : Int) - 1).toNat).length ≤ 11 := by rw [List.length_take]; omega
        obtain ⟨r, hr, hrl⟩ := gates_ends (l.take ((l.length : Int) - 1).toNat) hlt _ (l.length + 29) 0 [] 0 (Nat.zero_add _) (by rw [List.length_take]; omega) rfl
        have hr' := hr
        rw [← gates_same] at hr'
        refine ⟨r, by omega, by omega, by omega, ?_, ?_⟩
        · simp only [spec_GatesOfParts.j0, Bool.not_true]
          rw [if_neg (by simp), wid (x := (l.length : Int) - 1) (by omega) (by omega), if_pos (by omega), if_pos (by omega)]
          exact hr
        · simp only [impl_GatesOfParts.j0, Bool.not_true]
          rw [if_neg (by simp), wid (x := (l.length : Int) - 1) (by omega) (by omega), if_pos (by omega), if_pos (by omega)]
          exact hr'
  · rw [decide_eq_false hn]
    exact ⟨([], false), by omega, by simp, by simp, by simp [spec_GatesOfParts.j0], by simp [impl_GatesOfParts.j0]⟩

theorem GatesOfParts_law (l : List Int) (K : Nat) (r : List Int × Bool) (hl : l.length ≤ 1048576) (kl : l.length < K) (hr : r.1.length ≤ 1048576) (kr : r.1.length < K) (hs : spec_GatesOfParts.f K l = some r) (hi : impl_GatesOfParts.f K l = some r) : ∃ k, laws_FnExactGatesOfParts.f k l = some true := by
  have hTl : ∀ j, laws_toIntS.f (K + j) l = some l := fun j => LawInt.toIntS l hl _ (by omega)
  have hEl : ∀ j, laws_eqIntS.f (K + j) l l = some true := fun j => LawInt.eqIntS l hl _ (by omega)
  obtain ⟨yl, hMl0, _⟩ := LawInt.marked l hl
  have hMl : ∀ j, laws_markIntS.f (K + j) l 1 = some (1 + (l.length : Int), yl) := fun j => hMl0 _ (by omega)
  have nl : ¬ (1 + (l.length : Int)) < 0 := by omega
  have hs' : ∀ j, spec_GatesOfParts.f (K + j) l = some r := fun j => at_rounds (g := fun k => spec_GatesOfParts.f k l) (spec_GatesOfParts.mono l) (Nat.le_add_right K j) hs
  have hi' : ∀ j, impl_GatesOfParts.f (K + j) l = some r := fun j => at_rounds (g := fun k => impl_GatesOfParts.f k l) (impl_GatesOfParts.mono l) (Nat.le_add_right K j) hi
  have hE : ∀ j, laws_eqIntS.f (K + j) r.1 r.1 = some true := fun j => LawInt.eqIntS r.1 hr _ (by omega)
  obtain ⟨y, hM0, hH0⟩ := LawInt.marked r.1 hr
  have hM : ∀ j, laws_markIntS.f (K + j) r.1 1 = some (1 + (r.1.length : Int), y) := fun j => hM0 _ (by omega)
  have hH : ∀ j, laws_heldIntS.f (K + j) y 1 = some (1 + (r.1.length : Int)) := fun j => hH0 _ (by omega)
  have n0 : ¬ (1 + (r.1.length : Int)) < 0 := by omega
  refine ⟨K + 20, ?_⟩
  unfold laws_FnExactGatesOfParts.f
  rw [if_neg (by omega)]
  simp [hTl, hEl, hMl, nl, hs', hi', hE, hM, hH, n0, laws_FnExactGatesOfParts.j0, laws_FnExactGatesOfParts.j1, laws_FnExactGatesOfParts.j2]

theorem FnExactGatesOfParts : laws_FnExactGatesOfParts.Pure := by
  intro l _ _ _
  by_cases hl : (l.length : Int) > 1048576
  · refine ⟨0, ?_⟩
    unfold laws_FnExactGatesOfParts.f
    rw [if_pos hl]
  · obtain ⟨K, r, hK, hr, kr, hs, hi⟩ := core l (by omega)
    exact GatesOfParts_law l K r (by omega) hK hr kr hs hi
end Go.Proofs.Ytemmchnfflakmaa.Pure
