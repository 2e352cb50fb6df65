/- The program's ShortestPart answers as the reference's ShortestPart does, and leaves its list alone, for all arguments that the law lets in; no condition beside that. -/
import Derived.Test.YtemmchnfflakmaaY4
import Derived.Test.YtemmchnfflakmaaYLawInt
import Derived.Test.YtemmchnfflakmaaYParts
import Derived.Test.YtemmchnfflakmaaYFirst
namespace Go.Proofs.Ytemmchnfflakmaa.Pure
open Go.RowKit Go.Proofs.Ytemmchnfflakmaa.Y Go.Proofs.YtemmchnfflakmaaW.PrintWords Go.Proofs.YtemmchnfflakmaaW.PrintLast Go.Proofs.Ytemmchnfflakmaa Go.Proofs.Ytemmchnfflakmaa.Gates
set_option linter.unusedVariables false
set_option linter.unusedSimpArgs false

theorem best_l0 (a : Int) (p : List Int) (ha : 2 ≤ a ∧ a ≤ 40) (hp : p.length ≤ 1000) (h0 : 0 < p.length) (hq : ∀ q ∈ p, 1 ≤ q ∧ q ≤ a) (m : Int) (hm : Parts.Low p m) : ∀ (d k i t : Nat) (b : Int), i + d = p.length → d < k →
    (∀ j : Nat, j < i → b ≤ rd p (j : Int) ) → (∀ j : Nat, j < t → b < rd p (j : Int)) → t < p.length → (rd p (t : Int) = b ∨ (t = 0 ∧ b = a)) →
    ∃ t' : Nat, spec_ShortestPart.l0 k (t : Int) b p (p.length : Int) (i : Int) = some ((t' : Int), m, true) ∧ t' < p.length ∧ rd p (t' : Int) = m ∧ ∀ j : Nat, j < t' → rd p (j : Int) ≠ m := by
  have bm := hq m hm.1
  intro d
  induction d with
  | zero =>
    intro k i t b hi hk h1 h2 h3 h4
    obtain ⟨k, rfl⟩ : ∃ m, k = m + 1 := ⟨k - 1, by omega⟩
    simp only [spec_ShortestPart.l0]
    rw [if_neg (by omega)]
    have a1 : ∀ q ∈ p, b ≤ q := Parts.all_of p (fun q => b ≤ q) (fun j hj => h1 j (by omega))
    have x1 := a1 m hm.1
    have x2 := hq _ (Parts.rd_mem p t h3)
    have x3 := hm.2 _ (Parts.rd_mem p t h3)
    have x4 := a1 _ (Parts.rd_mem p t h3)
    have e : b = m := by
      rcases h4 with h4 | h4 <;> omega
    refine ⟨t, by rw [e], h3, ?_, fun j hj => ?_⟩
    · rcases h4 with h4 | h4 <;> omega
    · have := h2 j hj
      omega
  | succ d ih =>
    intro k i t b hi hk h1 h2 h3 h4
    obtain ⟨k, rfl⟩ : ∃ m, k = m + 1 := ⟨k - 1, by omega⟩
    simp only [spec_ShortestPart.l0]
    rw [if_pos (by omega), if_pos (by omega), if_pos (by omega), wid (x := (i : Int) + 1) (by omega) (by omega)]
    by_cases c : rd p (i : Int) < b
    · rw [if_pos c]
      refine ih k (i + 1) i _ (by omega) (by omega) (fun j hj => ?_) (fun j hj => ?_) (by omega) (.inl rfl)
      · by_cases e : j = i
        · subst e; exact Int.le_refl _
        · have := h1 j (by omega); omega
      · have := h1 j (by omega); omega
    · rw [if_neg c]
      refine ih k (i + 1) t b (by omega) (by omega) (fun j hj => ?_) h2 h3 h4
      by_cases e : j = i
      · subst e; omega
      · exact h1 j (by omega)

theorem core (a : Int) (l : List Int) (hl : l.length ≤ 1048576) : ∃ K r, l.length < K ∧ spec_ShortestPart.f K a l = some r ∧ impl_ShortestPart.f K a l = some r := by
  obtain ⟨b, hb, hg⟩ := gates a l hl
  obtain ⟨g1, g2⟩ := hg (l.length + 20) (by omega)
  refine ⟨l.length + 20, ?_⟩
  unfold spec_ShortestPart.f impl_ShortestPart.f
  rw [g1, g2]
  cases b with
  | false => exact ⟨(0, 0, false), by omega, rfl, rfl⟩
  | true =>
    have ok := hb.1 rfl
    have o1 := ok.1
    obtain ⟨p, hlen, hq, hr⟩ := Parts.parts a l ok
    obtain ⟨r1, r2⟩ := hr (l.length + 20) (by omega)
    have := ok.2.1
    obtain ⟨m, hm, em⟩ := Parts.min_some p (by omega) (by omega)
    obtain ⟨t, s1, s2, s3, s4⟩ := best_l0 a p o1 (by omega) (by omega) hq m hm p.length (l.length + 20) 0 0 a (by omega) (by omega) (fun j hj => by omega) (fun j hj => by omega) (by omega) (.inr ⟨rfl, rfl⟩)
    refine ⟨((t : Int), m, true), by omega, ?_, ?_⟩
    · simp only [Option.bind_some, if_true]
      rw [r1]
      simp only [Option.bind_some]
      exact s1
    · simp only [Option.bind_some, if_true]
      rw [r2]
      simp only [Option.bind_some]
      rw [em _ (by omega)]
      simp only [Option.bind_some]
      rw [First.index p m t (by omega) s2 s3 s4 _ (by omega)]
      rfl

theorem ShortestPart_law (a : Int) (l : List Int) (K : Nat) (r : Int × Int × Bool) (hl : l.length ≤ 1048576) (kl : l.length < K) (hs : spec_ShortestPart.f K a l = some r) (hi : impl_ShortestPart.f K a l = some r) : ∃ k, laws_FnExactShortestPart.f k a l = some true := by
  have hTl : ∀ j, laws_toIntS.f (K + j) l = some l := fun j => LawInt.toIntS l hl _ (by omega)
  have hEl : ∀ j, laws_eqIntS.f (K + j) l l = some true := fun j => LawInt.eqIntS l hl _ (by omega)
  have hs' : ∀ j, spec_ShortestPart.f (K + j) a l = some r := fun j => at_rounds (g := fun k => spec_ShortestPart.f k a l) (spec_ShortestPart.mono a l) (Nat.le_add_right K j) hs
  have hi' : ∀ j, impl_ShortestPart.f (K + j) a l = some r := fun j => at_rounds (g := fun k => impl_ShortestPart.f k a l) (impl_ShortestPart.mono a l) (Nat.le_add_right K j) hi
  refine ⟨K + 20, ?_⟩
  unfold laws_FnExactShortestPart.f
  rw [if_neg (by omega)]
  simp [hTl, hEl, hs', hi', laws_FnExactShortestPart.j0]

theorem FnExactShortestPart : laws_FnExactShortestPart.Pure := by
  intro a l _ _ _ _
  by_cases hl : (l.length : Int) > 1048576
  · refine ⟨0, ?_⟩
    unfold laws_FnExactShortestPart.f
    rw [if_pos hl]
  · obtain ⟨K, r, hK, hs, hi⟩ := core a l (by omega)
    exact ShortestPart_law a l K r (by omega) hK hs hi
end Go.Proofs.Ytemmchnfflakmaa.Pure
