/- The program's GatesOfRank answers as the reference's GatesOfRank does, in memory of its own, for all arguments; no condition beside that. -/
import Derived.Test.YtelfljoapaoeoaaX6
import Derived.Test.YtelfljoapaoeoaaLawInt
import Derived.Test.YtelfljoapaoeoaaWays
namespace Go.Proofs.Ytelfljoapaoeoaa.Pure
open Go.RowKit Go.Proofs.Ytelfljoapaoeoaa.X Go.Proofs.YtelfljoapaoeoaaW.PrintWords Go.Proofs.YtelfljoapaoeoaaW.PrintLast Go.Proofs.Ytelfljoapaoeoaa Go.Proofs.Ytelfljoapaoeoaa.Gates
set_option linter.unusedVariables false
set_option linter.unusedSimpArgs false

/-- From a gate on: so many gates yet to come (c of them), and a rank among them. -/
theorem run (a : Int) (M : Nat) (ha : 2 ≤ a ∧ a ≤ 40) (hM : M ≤ 10) : ∀ (d : Nat) (c : Nat) (out : List Int) (G : Nat) (k : Int), (d : Int) = a - G → 1 ≤ G → out.length + c = M → 0 ≤ k → k < (Ways.bin d c : Int) → ∃ r F, r.1.length ≤ M ∧ ∀ K, F ≤ K →
    spec_GatesOfRank.l0 K a k out ((G : Int) - 1) ((c : Int) - 1) = some r ∧ impl_GatesOfRank.l0 K a (M : Int) k out (G : Int) = some r ∧
    ∀ t : Int, 1 ≤ d → 1 ≤ c → t = (Ways.bin (d - 1) (c - 1) : Int) → spec_GatesOfRank.l1 K a k out (G : Int) ((c : Int) - 1) t = some r := by
  intro d
  induction d with
  | zero =>
    intro c out G k h1 h2 h3 h4 h5
    cases c with
    | zero =>
      refine ⟨(out, true), 1, by show out.length ≤ M; omega, fun K hK => ?_⟩
      obtain ⟨Q, rfl⟩ : ∃ Q, K = Q + 1 := ⟨K - 1, by omega⟩
      simp only [spec_GatesOfRank.l0, impl_GatesOfRank.l0]
      rw [if_neg (by omega), if_neg (by omega)]
      exact ⟨rfl, rfl, fun t h => by omega⟩
    | succ c => rw [Ways.bin_none] at h5; omega
  | succ d ih =>
    intro c out G k h1 h2 h3 h4 h5
    cases c with
    | zero =>
      refine ⟨(out, true), 1, by show out.length ≤ M; omega, fun K hK => ?_⟩
      obtain ⟨Q, rfl⟩ : ∃ Q, K = Q + 1 := ⟨K - 1, by omega⟩
      simp only [spec_GatesOfRank.l0, impl_GatesOfRank.l0]
      rw [if_neg (by omega), if_neg (by omega)]
      exact ⟨rfl, rfl, fun t h h' => by omega⟩
    | succ c =>
      rw [Ways.bin_succ] at h5
      have hs := Ways.bin_small d c (by omega)
      have hs' := Ways.bin_small d (c + 1) (by omega)
      obtain ⟨F1, hF1⟩ := Ways.both (d + 1) c a (by omega) (by omega) (by omega) (by omega) (by omega)
      rw [Nat.add_sub_cancel] at hF1
      by_cases cc : k < (Ways.bin d c : Int)
      · obtain ⟨r, F2, hr, h⟩ := ih c (out ++ [(G : Int)]) (G + 1) k (by omega) (by omega) (by simp; omega) h4 cc
        have inner : ∀ K, F2 + 1 ≤ K → spec_GatesOfRank.l1 K a k out (G : Int) ((c : Int) + 1 - 1) (Ways.bin d c : Int) = some r := by
          intro K hK
          obtain ⟨Q, rfl⟩ : ∃ Q, K = Q + 1 := ⟨K - 1, by omega⟩
          have := (h Q (by omega)).1
          simp only [spec_GatesOfRank.l1]
          rw [if_neg (by omega), if_pos (by omega), show (c : Int) + 1 - 1 = c from by omega, wid (x := (c : Int) - 1) (by omega) (by omega)]
          rw [show (((G + 1 : Nat)) : Int) - 1 = (G : Int) from by omega] at this
          exact this
        refine ⟨r, F1 + F2 + 3, hr, fun K hK => ?_⟩
        obtain ⟨Q, rfl⟩ : ∃ Q, K = Q + 1 := ⟨K - 1, by omega⟩
        obtain ⟨w1, w2⟩ := hF1 (Q - F1)
        rw [Nat.sub_add_cancel (by omega)] at w1 w2
        rw [show (((d + 1 : Nat)) : Int) = a - G from h1] at w1 w2
        rw [show (((c + 1 : Nat)) : Int) = (c : Int) + 1 from by omega]
        refine ⟨?_, ?_, ?_⟩
        · simp only [spec_GatesOfRank.l0]
          rw [if_pos (by omega), wid (x := (G : Int) - 1 + 1) (by omega) (by omega), show (G : Int) - 1 + 1 = G from by omega, wid (x := a - (G : Int)) (by omega) (by omega), show (c : Int) + 1 - 1 = c from by omega, w1, Option.bind_some]
          have := inner Q (by omega)
          rw [show (c : Int) + 1 - 1 = c from by omega] at this
          exact this
        · simp only [impl_GatesOfRank.l0]
          rw [if_pos (by omega), wid (x := a - 1) (by omega) (by omega), wid (x := a - 1 - (G : Int)) (by omega) (by omega), wid (x := (M : Int) - 1) (by omega) (by omega), wid (x := (M : Int) - 1 - (out.length : Int)) (by omega) (by omega), show (M : Int) - 1 - (out.length : Int) = c from by omega, show a - 1 - (G : Int) = a - G - 1 from by omega, w2, Option.bind_some, if_pos cc, if_pos (by omega), wid (x := (G : Int) + 1) (by omega) (by omega)]
          have := (h Q (by omega)).2.1
          rw [show (((G + 1 : Nat)) : Int) = (G : Int) + 1 from by omega] at this
          exact this
        · intro t _ _ ht
          rw [Nat.add_sub_cancel, Nat.add_sub_cancel] at ht
          rw [ht]
          exact inner (Q + 1) (by omega)
      · obtain ⟨r, F2, hr, h⟩ := ih (c + 1) out (G + 1) (k - (Ways.bin d c : Int)) (by omega) (by omega) h3 (by omega) (by omega)
        have hd : 1 ≤ d := by
          rcases Nat.eq_zero_or_pos d with e | e
          · subst e; rw [Ways.bin_none] at h5; omega
          · exact e
        obtain ⟨F3, hF3⟩ := Ways.both d c a (by omega) (by omega) (by omega) (by omega) (by omega)
        have inner : ∀ K, F2 + F3 + 1 ≤ K → spec_GatesOfRank.l1 K a k out (G : Int) ((c : Int) + 1 - 1) (Ways.bin d c : Int) = some r := by
          intro K hK
          obtain ⟨Q, rfl⟩ : ∃ Q, K = Q + 1 := ⟨K - 1, by omega⟩
          have := (h Q (by omega)).2.2 (Ways.bin (d - 1) c : Int) hd (by omega) (by rw [Nat.add_sub_cancel])
          obtain ⟨w1, _⟩ := hF3 (Q - F3)
          rw [Nat.sub_add_cancel (by omega)] at w1
          simp only [spec_GatesOfRank.l1]
          rw [if_pos (by omega), wid (x := (G : Int) + 1) (by omega) (by omega), wid (x := a - ((G : Int) + 1)) (by omega) (by omega), show a - ((G : Int) + 1) = (d : Int) from by omega, show (c : Int) + 1 - 1 = c from by omega, w1, Option.bind_some, wid (x := k - (Ways.bin d c : Int)) (by omega) (by omega)]
          rw [show (((G + 1 : Nat)) : Int) = (G : Int) + 1 from by omega, show (((c + 1 : Nat)) : Int) - 1 = (c : Int) from by omega] at this
          exact this
        refine ⟨r, F1 + F2 + F3 + 3, hr, fun K hK => ?_⟩
        obtain ⟨Q, rfl⟩ : ∃ Q, K = Q + 1 := ⟨K - 1, by omega⟩
        obtain ⟨w1, w2⟩ := hF1 (Q - F1)
        rw [Nat.sub_add_cancel (by omega)] at w1 w2
        rw [show (((d + 1 : Nat)) : Int) = a - G from h1] at w1 w2
        rw [show (((c + 1 : Nat)) : Int) = (c : Int) + 1 from by omega]
        refine ⟨?_, ?_, ?_⟩
        · simp only [spec_GatesOfRank.l0]
          rw [if_pos (by omega), wid (x := (G : Int) - 1 + 1) (by omega) (by omega), show (G : Int) - 1 + 1 = G from by omega, wid (x := a - (G : Int)) (by omega) (by omega), show (c : Int) + 1 - 1 = c from by omega, w1, Option.bind_some]
          have := inner Q (by omega)
          rw [show (c : Int) + 1 - 1 = c from by omega] at this
          exact this
        · simp only [impl_GatesOfRank.l0]
          rw [if_pos (by omega), wid (x := a - 1) (by omega) (by omega), wid (x := a - 1 - (G : Int)) (by omega) (by omega), wid (x := (M : Int) - 1) (by omega) (by omega), wid (x := (M : Int) - 1 - (out.length : Int)) (by omega) (by omega), show (M : Int) - 1 - (out.length : Int) = c from by omega, show a - 1 - (G : Int) = a - G - 1 from by omega, w2, Option.bind_some, if_neg cc, wid (x := (G : Int) + 1) (by omega) (by omega), wid (x := k - (Ways.bin d c : Int)) (by omega) (by omega)]
          have := (h Q (by omega)).2.1
          rw [show (((G + 1 : Nat)) : Int) = (G : Int) + 1 from by omega] at this
          exact this
        · intro t _ _ ht
          rw [Nat.add_sub_cancel, Nat.add_sub_cancel] at ht
          rw [ht]
          exact inner (Q + 1) (by omega)

theorem many (a m : Int) : spec_gaMany.f a m = some (decide (2 ≤ a ∧ a ≤ 40) && decide (0 ≤ m ∧ m ≤ 10)) ∧ impl_isMany.f a m = some (decide (2 ≤ a ∧ a ≤ 40) && decide (0 ≤ m ∧ m ≤ 10)) := by
  unfold spec_gaMany.f impl_isMany.f
  rw [gaBoards_some, isRow_some, in_some, within_some]
  simp only [Option.bind_some]
  cases decide (2 ≤ a ∧ a ≤ 40) <;> exact ⟨rfl, rfl⟩

theorem core (a m k : Int) : ∃ K r, r.1.length ≤ 1048576 ∧ r.1.length < K ∧ spec_GatesOfRank.f K a m k = some r ∧ impl_GatesOfRank.f K a m k = some r := by
  unfold spec_GatesOfRank.f impl_GatesOfRank.f
  rw [(many a m).1, (many a m).2]
  simp only [Option.bind_some]
  by_cases c : (2 ≤ a ∧ a ≤ 40) ∧ (0 ≤ m ∧ m ≤ 10)
  · rw [decide_eq_true c.1, decide_eq_true c.2, Bool.and_self]
    simp only [if_true]
    obtain ⟨A, hA⟩ : ∃ A : Nat, (A : Int) = a := ⟨a.toNat, by omega⟩
    obtain ⟨M, hM⟩ : ∃ M : Nat, (M : Int) = m := ⟨m.toNat, by omega⟩
    subst hA; subst hM
    obtain ⟨F1, hF1⟩ := Ways.both A M (A : Int) (by omega) (by omega) (by omega) (by omega) (by omega)
    have hs := Ways.bin_small (A - 1) M (by omega)
    by_cases h : 0 ≤ k ∧ k ≤ (Ways.bin (A - 1) M : Int) - 1
    · obtain ⟨r, F2, hr, hF2⟩ := run (A : Int) M (by omega) (by omega) (A - 1) M [] 1 k (by omega) (by omega) (by simp) h.1 (by omega)
      refine ⟨F1 + F2 + 20, r, by omega, by omega, ?_⟩
      obtain ⟨w1, w2⟩ := hF1 (F2 + 20)
      rw [show F2 + 20 + F1 = F1 + F2 + 20 from by omega] at w1 w2
      obtain ⟨h1, h2, _⟩ := hF2 (F1 + F2 + 19) (by omega)
      rw [wid (x := (A : Int) - 1) (by omega) (by omega), w1, w2, Option.bind_some, Option.bind_some, in_some, within_some, wid (x := (Ways.bin (A - 1) M : Int) - 1) (by omega) (by omega), decide_eq_true h, Option.bind_some, Option.bind_some, show F1 + F2 + 20 = (F1 + F2 + 19) + 1 from rfl]
      simp only [spec_GatesOfRank.j0, impl_GatesOfRank.j0, Bool.not_true]
      rw [if_neg (by simp), if_neg (by simp), wid (x := (M : Int) - 1) (by omega) (by omega)]
      exact ⟨h1, h2⟩
    · refine ⟨F1 + 20, ([], false), by simp, by simp, ?_⟩
      obtain ⟨w1, w2⟩ := hF1 20
      rw [show 20 + F1 = F1 + 20 from by omega] at w1 w2
      rw [wid (x := (A : Int) - 1) (by omega) (by omega), w1, w2, Option.bind_some, Option.bind_some, in_some, within_some, wid (x := (Ways.bin (A - 1) M : Int) - 1) (by omega) (by omega), decide_eq_false h, Option.bind_some, Option.bind_some, show F1 + 20 = (F1 + 19) + 1 from rfl]
      simp only [spec_GatesOfRank.j0, impl_GatesOfRank.j0, Bool.not_false]
      exact ⟨rfl, rfl⟩
  · have e : (decide (2 ≤ a ∧ a ≤ 40) && decide (0 ≤ m ∧ m ≤ 10)) = false := by
      rw [← Bool.decide_and]; exact decide_eq_false c
    rw [e]
    simp only [Bool.false_eq_true, if_false]
    refine ⟨20, ([], false), by simp, by simp, ?_⟩
    simp only [spec_GatesOfRank.j0, impl_GatesOfRank.j0]
    exact ⟨rfl, by simp⟩

theorem GatesOfRank_law (a : Int) (m : Int) (q : Int) (K : Nat) (r : List Int × Bool) (hr : r.1.length ≤ 1048576) (kr : r.1.length < K) (hs : spec_GatesOfRank.f K a m q = some r) (hi : impl_GatesOfRank.f K a m q = some r) : ∃ k, laws_FnExactGatesOfRank.f k a m q = some true := by
  have hs' : ∀ j, spec_GatesOfRank.f (K + j) a m q = some r := fun j => at_rounds (g := fun k => spec_GatesOfRank.f k a m q) (spec_GatesOfRank.mono a m q) (Nat.le_add_right K j) hs
  have hi' : ∀ j, impl_GatesOfRank.f (K + j) a m q = some r := fun j => at_rounds (g := fun k => impl_GatesOfRank.f k a m q) (impl_GatesOfRank.mono a m q) (Nat.le_add_right K j) hi
  have hE : ∀ j, laws_eqIntS.f (K + j) r.1 r.1 = some true := fun j => LawInt.eqIntS r.1 hr _ (by omega)
  obtain ⟨y, hM0, hH0⟩ := LawInt.marked r.1 hr
  have hM : ∀ j, laws_markIntS.f (K + j) r.1 1 = some (1 + (r.1.length : Int), y) := fun j => hM0 _ (by omega)
  have hH : ∀ j, laws_heldIntS.f (K + j) y 1 = some (1 + (r.1.length : Int)) := fun j => hH0 _ (by omega)
  have n0 : ¬ (1 + (r.1.length : Int)) < 0 := by omega
  refine ⟨K + 20, ?_⟩
  unfold laws_FnExactGatesOfRank.f
  simp [hs', hi', hE, hM, hH, n0, laws_FnExactGatesOfRank.j0, laws_FnExactGatesOfRank.j1]

theorem FnExactGatesOfRank : laws_FnExactGatesOfRank.Pure := by
  intro a m k h1 h2 h3
  obtain ⟨K, r, hr, kr, hs, hi⟩ := core a m k
  exact GatesOfRank_law a m k K r hr kr hs hi
end Go.Proofs.Ytelfljoapaoeoaa.Pure
