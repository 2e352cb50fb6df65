/- The program's IsEven answers as the reference's IsEven does, and leaves its list alone, for all arguments that the law lets in; no condition beside that. -/
import Derived.Test.YtemmchnfflakmaaX16
import Derived.Test.YtemmchnfflakmaaLawInt
import Derived.Test.YtemmchnfflakmaaParts
namespace Go.Proofs.Ytemmchnfflakmaa.Pure
open Go.RowKit Go.Proofs.Ytemmchnfflakmaa.X Go.Proofs.YtemmchnfflakmaaW.PrintWords Go.Proofs.YtemmchnfflakmaaW.PrintLast Go.Proofs.Ytemmchnfflakmaa Go.Proofs.Ytemmchnfflakmaa.Gates
set_option linter.unusedVariables false
set_option linter.unusedSimpArgs false

theorem even_l0 (a : Int) (p : List Int) (ha : a ≤ 40) (hp : p.length ≤ 1000) (h0 : 0 < p.length) (hq : ∀ q ∈ p, 1 ≤ q ∧ q ≤ a) (M m : Int) (hM : Parts.Top p M) (hm : Parts.Low p m) : ∀ (d k i : Nat) (lo hi : Int), i + d = p.length → d < k →
    (∀ j : Nat, j < i → lo ≤ rd p (j : Int)) → (lo ∈ p ∨ lo = a) → (∀ j : Nat, j < i → rd p (j : Int) ≤ hi) → (hi ∈ p ∨ hi = 0) →
    spec_IsEven.l0 k lo hi p (p.length : Int) (i : Int) = some (decide (M - m ≤ 1), true) := by
  have bM := hq M hM.1
  have bm := hq m hm.1
  intro d
  induction d with
  | zero =>
    intro k i lo hi hi' hk h1 h2 h3 h4
    obtain ⟨k, rfl⟩ : ∃ m, k = m + 1 := ⟨k - 1, by omega⟩
    simp only [spec_IsEven.l0]
    rw [if_neg (by omega)]
    have a1 : ∀ q ∈ p, lo ≤ q := Parts.all_of p (fun q => lo ≤ q) (fun j hj => h1 j (by omega))
    have a2 : ∀ q ∈ p, q ≤ hi := Parts.all_of p (fun q => q ≤ hi) (fun j hj => h3 j (by omega))
    have e1 : lo = m := by
      have x1 := a1 m hm.1
      rcases h2 with h2 | h2
      · have := hm.2 lo h2; omega
      · omega
    have e2 : hi = M := by
      have x1 := a2 M hM.1
      rcases h4 with h4 | h4
      · have := hM.2 hi h4; omega
      · omega
    rw [e1, e2, wid (x := M - m) (by omega) (by omega)]
    congr 2
    by_cases h : M - m ≤ 1
    · rw [decide_eq_true h, decide_eq_true (by omega)]
    · rw [decide_eq_false h, decide_eq_false (by omega)]
  | succ d ih =>
    intro k i lo hi hi' hk h1 h2 h3 h4
    obtain ⟨k, rfl⟩ : ∃ m, k = m + 1 := ⟨k - 1, by omega⟩
    have hmem := Parts.rd_mem p i (by omega)
    simp only [spec_IsEven.l0]
    rw [if_pos (by omega), if_pos (by omega), if_pos (by omega), wid (x := (i : Int) + 1) (by omega) (by omega)]
    have x1 : ∃ lo', spec_l1Least.f lo (rd p (i : Int)) = some lo' ∧ lo' ≤ lo ∧ lo' ≤ rd p (i : Int) ∧ (lo' ∈ p ∨ lo' = a) := by
      unfold spec_l1Least.f
      by_cases h : lo < rd p (i : Int)
      · rw [if_pos h]; exact ⟨_, rfl, by omega, by omega, h2⟩
      · rw [if_neg h]; exact ⟨_, rfl, by omega, by omega, .inl hmem⟩
    have x2 : ∃ hi', spec_l1Most.f hi (rd p (i : Int)) = some hi' ∧ hi ≤ hi' ∧ rd p (i : Int) ≤ hi' ∧ (hi' ∈ p ∨ hi' = 0) := by
      unfold spec_l1Most.f
      by_cases h : hi > rd p (i : Int)
      · rw [if_pos h]; exact ⟨_, rfl, by omega, by omega, h4⟩
      · rw [if_neg h]; exact ⟨_, rfl, by omega, by omega, .inl hmem⟩
    obtain ⟨lo', e1, l1, l2, l3⟩ := x1
    obtain ⟨hi', e2, u1, u2, u3⟩ := x2
    rw [e1, e2]
    simp only [Option.bind_some]
    refine ih k (i + 1) lo' hi' (by omega) (by omega) (fun j hj => ?_) l3 (fun j hj => ?_) u3
    · by_cases e : j = i
      · subst e; exact l2
      · have := h1 j (by omega); omega
    · by_cases e : j = i
      · subst e; exact u2
      · have := h3 j (by omega); omega

theorem core (a : Int) (l : List Int) (hl : l.length ≤ 1048576) : ∃ K r, l.length < K ∧ spec_IsEven.f K a l = some r ∧ impl_IsEven.f K a l = some r := by
  obtain ⟨b, hb, hg⟩ := gates a l hl
  obtain ⟨g1, g2⟩ := hg (l.length + 20) (by omega)
  refine ⟨l.length + 20, ?_⟩
  unfold spec_IsEven.f impl_IsEven.f
  rw [g1, g2]
  cases b with
  | false => exact ⟨(false, false), by omega, rfl, rfl⟩
  | true =>
    have ok := hb.1 rfl
    have o1 := ok.1
    obtain ⟨p, hlen, hq, hr⟩ := Parts.parts a l ok
    obtain ⟨r1, r2⟩ := hr (l.length + 20) (by omega)
    have := ok.2.1
    obtain ⟨M, hM, eM⟩ := Parts.max_some p (by omega) (by omega)
    obtain ⟨m, hm, em⟩ := Parts.min_some p (by omega) (by omega)
    have bM := hq M hM.1
    have bm := hq m hm.1
    refine ⟨(decide (M - m ≤ 1), true), by omega, ?_, ?_⟩
    · simp only [Option.bind_some, if_true]
      rw [r1]
      simp only [Option.bind_some]
      exact even_l0 a p o1.2 (by omega) (by omega) hq M m hM hm p.length (l.length + 20) 0 a 0 (by omega) (by omega) (fun j hj => by omega) (.inr rfl) (fun j hj => by omega) (.inr rfl)
    · simp only [Option.bind_some, if_true]
      rw [r2]
      simp only [Option.bind_some]
      rw [eM _ (by omega), em _ (by omega)]
      simp only [Option.bind_some]
      rw [wid (x := M - m) (by omega) (by omega)]

theorem IsEven_law (a : Int) (l : List Int) (K : Nat) (r : Bool × Bool) (hl : l.length ≤ 1048576) (kl : l.length < K) (hs : spec_IsEven.f K a l = some r) (hi : impl_IsEven.f K a l = some r) : ∃ k, laws_FnExactIsEven.f k a l = some true := by
  have hTl : ∀ j, laws_toIntS.f (K + j) l = some l := fun j => LawInt.toIntS l hl _ (by omega)
  have hEl : ∀ j, laws_eqIntS.f (K + j) l l = some true := fun j => LawInt.eqIntS l hl _ (by omega)
  have hs' : ∀ j, spec_IsEven.f (K + j) a l = some r := fun j => at_rounds (g := fun k => spec_IsEven.f k a l) (spec_IsEven.mono a l) (Nat.le_add_right K j) hs
  have hi' : ∀ j, impl_IsEven.f (K + j) a l = some r := fun j => at_rounds (g := fun k => impl_IsEven.f k a l) (impl_IsEven.mono a l) (Nat.le_add_right K j) hi
  refine ⟨K + 20, ?_⟩
  unfold laws_FnExactIsEven.f
  rw [if_neg (by omega)]
  simp [hTl, hEl, hs', hi', laws_FnExactIsEven.j0]

theorem FnExactIsEven : laws_FnExactIsEven.Pure := by
  intro a l _ _ _ _
  by_cases hl : (l.length : Int) > 1048576
  · refine ⟨0, ?_⟩
    unfold laws_FnExactIsEven.f
    rw [if_pos hl]
  · obtain ⟨K, r, hK, hs, hi⟩ := core a l (by omega)
    exact IsEven_law a l K r (by omega) hK hs hi
end Go.Proofs.Ytemmchnfflakmaa.Pure
