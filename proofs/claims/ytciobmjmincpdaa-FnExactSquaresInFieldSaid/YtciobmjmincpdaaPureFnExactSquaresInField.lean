/- The program's SquaresInField answers as the reference's SquaresInField does, in memory of its own, for all numbers; no condition beside that. -/
import Derived.Test.YtciobmjmincpdaaX3
import Derived.Test.YtciobmjmincpdaaLawInt
namespace Go.Proofs.Ytciobmjmincpdaa.Pure
open Go.RowKit Go.Proofs.Ytciobmjmincpdaa.X Go.Proofs.YtciobmjmincpdaaW.PrintWords Go.Proofs.YtciobmjmincpdaaW.PrintLast Go.Proofs.Ytciobmjmincpdaa
set_option linter.unusedVariables false
set_option linter.unusedSimpArgs false

theorem wid {x : Int} (h0 : -9223372036854775808 ≤ x) (h1 : x ≤ 9223372036854775807) : wrap64 x = x := by unfold wrap64; omega
theorem in_some (a b c : Int) : spec_l1In.f a b c = some (decide (b ≤ a ∧ a ≤ c)) := by
  unfold spec_l1In.f
  by_cases h : a ≥ b
  · rw [if_pos h]; congr 1; simp [show b ≤ a from h]
  · rw [if_neg h]; congr 1; simp [show ¬ b ≤ a from h]
theorem least (x y : Int) : spec_l1Least.f x y = some (mn x y) := by
  unfold spec_l1Least.f mn
  repeat' split
  all_goals first | rfl | (congr 1; done) | (congr 1; omega)

theorem run : ∀ (n : Nat) (x y : Int) (out : List Int), 0 ≤ x → x ≤ 1000 → 0 ≤ y → y ≤ 1000 → x + y ≤ n → out.length + n ≤ 3000 →
    ∃ r, r.1.length ≤ 200 ∧ (200 < out.length → r = ([], false)) ∧ ∀ K, 2 * n + 2 ≤ K → impl_SquaresInField.l0 K x y out = some r ∧ (out.length ≤ 200 → spec_SquaresInField.l0 K x y out = some r) := by
  intro n
  induction n with
  | zero =>
    intro x y out h1 h2 h3 h4 h5 h6
    by_cases c : 200 < out.length
    · refine ⟨([], false), by simp, fun _ => rfl, fun K hK => ?_⟩
      obtain ⟨K, rfl⟩ : ∃ q, K = q + 2 := ⟨K - 2, by omega⟩
      refine ⟨?_, fun h => by omega⟩
      simp only [impl_SquaresInField.l0, impl_SquaresInField.j1]
      rw [if_neg (by omega), if_neg (by simp), if_pos (by omega)]
    · refine ⟨(out, true), by show out.length ≤ 200; omega, fun h => absurd h c, fun K hK => ?_⟩
      obtain ⟨K, rfl⟩ : ∃ q, K = q + 2 := ⟨K - 2, by omega⟩
      refine ⟨?_, fun h => ?_⟩
      · simp only [impl_SquaresInField.l0, impl_SquaresInField.j1]
        rw [if_neg (by omega), if_neg (by simp), if_neg (by omega)]
      · simp only [spec_SquaresInField.l0, spec_SquaresInField.j2]
        rw [if_neg (by omega), if_neg (by simp)]
  | succ n ih =>
    intro x y out h1 h2 h3 h4 h5 h6
    by_cases c0 : 0 < x ∧ 0 < y
    · have hm : 1 ≤ mn x y ∧ mn x y ≤ x ∧ mn x y ≤ y := by unfold mn; split <;> omega
      have go : ∃ r, r.1.length ≤ 200 ∧ (200 < (out ++ [mn x y]).length → r = ([], false)) ∧ ∀ K, 2 * n + 2 ≤ K →
          (if x ≥ y then impl_SquaresInField.l0 K (wrap64 (x - mn x y)) y (out ++ [mn x y]) else impl_SquaresInField.l0 K x (wrap64 (y - mn x y)) (out ++ [mn x y])) = some r ∧
          ((out ++ [mn x y]).length ≤ 200 → (if x ≥ y then spec_SquaresInField.l0 K (wrap64 (x - mn x y)) y (out ++ [mn x y]) else spec_SquaresInField.l0 K x (wrap64 (y - mn x y)) (out ++ [mn x y])) = some r) := by
        by_cases c : x ≥ y
        · obtain ⟨r, a, b, d⟩ := ih (x - mn x y) y (out ++ [mn x y]) (by omega) (by omega) h3 h4 (by omega) (by simp; omega)
          refine ⟨r, a, b, fun K hK => ?_⟩
          rw [if_pos c, if_pos c, wid (x := x - mn x y) (by omega) (by omega)]
          exact d K hK
        · obtain ⟨r, a, b, d⟩ := ih x (y - mn x y) (out ++ [mn x y]) h1 h2 (by omega) (by omega) (by omega) (by simp; omega)
          refine ⟨r, a, b, fun K hK => ?_⟩
          rw [if_neg c, if_neg c, wid (x := y - mn x y) (by omega) (by omega)]
          exact d K hK
      obtain ⟨r, a, b, d⟩ := go
      refine ⟨r, a, fun h => b (by simp; omega), fun K hK => ?_⟩
      obtain ⟨K, rfl⟩ : ∃ q, K = q + 2 := ⟨K - 2, by omega⟩
      obtain ⟨d1, d2⟩ := d K (by omega)
      refine ⟨?_, fun h => ?_⟩
      · simp only [impl_SquaresInField.l0, impl_SquaresInField.j1]
        rw [if_pos (by omega), decide_eq_true (show y > 0 by omega), if_pos rfl, if_pos (by omega), Option.bind_some]
        exact d1
      · simp only [spec_SquaresInField.l0, spec_SquaresInField.j2]
        rw [if_pos (by omega), decide_eq_true (show y > 0 by omega), if_pos rfl]
        by_cases c2 : (out.length : Int) = 200
        · rw [if_pos c2, b (by simp; omega)]
        · rw [if_neg c2, least, Option.bind_some, if_pos (by omega), Option.bind_some]
          exact d2 (by simp; omega)
    · have stop : ∀ K, (if x > 0 then impl_SquaresInField.j1 K x y out (decide (y > 0)) else impl_SquaresInField.j1 K x y out false) = impl_SquaresInField.j1 K x y out false ∧ (if x > 0 then spec_SquaresInField.j2 K x y out (decide (y > 0)) else spec_SquaresInField.j2 K x y out false) = spec_SquaresInField.j2 K x y out false := by
        intro K
        by_cases cx : x > 0
        · rw [if_pos cx, if_pos cx, decide_eq_false (by omega)]; exact ⟨rfl, rfl⟩
        · rw [if_neg cx, if_neg cx]; exact ⟨rfl, rfl⟩
      by_cases c : 200 < out.length
      · refine ⟨([], false), by simp, fun _ => rfl, fun K hK => ?_⟩
        obtain ⟨K, rfl⟩ : ∃ q, K = q + 1 + 1 := ⟨K - 2, by omega⟩
        refine ⟨?_, fun h => by omega⟩
        rw [impl_SquaresInField.l0, (stop (K + 1)).1]
        simp only [impl_SquaresInField.j1]
        rw [if_neg (by simp), if_pos (by omega)]
      · refine ⟨(out, true), by show out.length ≤ 200; omega, fun h => absurd h c, fun K hK => ?_⟩
        obtain ⟨K, rfl⟩ : ∃ q, K = q + 1 + 1 := ⟨K - 2, by omega⟩
        refine ⟨?_, fun h => ?_⟩
        · rw [impl_SquaresInField.l0, (stop (K + 1)).1]
          simp only [impl_SquaresInField.j1]
          rw [if_neg (by simp), if_neg (by omega)]
        · rw [spec_SquaresInField.l0, (stop (K + 1)).2]
          simp only [spec_SquaresInField.j2]
          rw [if_neg (by simp)]

theorem core (a b : Int) : ∃ K r, r.1.length ≤ 1048576 ∧ r.1.length < K ∧ spec_SquaresInField.f K a b = some r ∧ impl_SquaresInField.f K a b = some r := by
  unfold spec_SquaresInField.f impl_SquaresInField.f spec_fiSide.f impl_areSides.f impl_allWithin.f
  rw [in_some, in_some]
  simp only [Option.bind_some, List.all_cons, List.all_nil, Bool.and_true]
  by_cases c1 : 1 ≤ a ∧ a ≤ 1000
  · by_cases c2 : 1 ≤ b ∧ b ≤ 1000
    · obtain ⟨r, h1, _, h⟩ := run 2000 a b [] (by omega) c1.2 (by omega) c2.2 (by omega) (by simp)
      refine ⟨4003, r, by omega, by omega, ?_⟩
      rw [decide_eq_true c1, decide_eq_true c2]
      simp only [if_true, Bool.not_true, Bool.and_self, spec_SquaresInField.j0, Bool.false_eq_true, if_false]
      exact ⟨(h 4002 (by omega)).2 (by simp), (h 4003 (by omega)).1⟩
    · refine ⟨5, ([], false), by simp, by simp, ?_⟩
      rw [decide_eq_true c1, decide_eq_false c2]
      exact ⟨rfl, rfl⟩
  · refine ⟨5, ([], false), by simp, by simp, ?_⟩
    rw [decide_eq_false c1]
    exact ⟨rfl, by simp⟩

theorem SquaresInField_law (a : Int) (b : Int) (K : Nat) (r : List Int × Bool) (hr : r.1.length ≤ 1048576) (kr : r.1.length < K) (hs : spec_SquaresInField.f K a b = some r) (hi : impl_SquaresInField.f K a b = some r) : ∃ k, laws_FnExactSquaresInField.f k a b = some true := by
  have hs' : ∀ j, spec_SquaresInField.f (K + j) a b = some r := fun j => at_rounds (g := fun k => spec_SquaresInField.f k a b) (spec_SquaresInField.mono a b) (Nat.le_add_right K j) hs
  have hi' : ∀ j, impl_SquaresInField.f (K + j) a b = some r := fun j => at_rounds (g := fun k => impl_SquaresInField.f k a b) (impl_SquaresInField.mono a b) (Nat.le_add_right K j) hi
  have hE : ∀ j, laws_eqIntS.f (K + j) r.1 r.1 = some true := fun j => LawInt.eqIntS r.1 hr _ (by omega)
  obtain ⟨y, hM0, hH0⟩ := LawInt.marked r.1 hr
  have hM : ∀ j, laws_markIntS.f (K + j) r.1 1 = some (1 + (r.1.length : Int), y) := fun j => hM0 _ (by omega)
  have hH : ∀ j, laws_heldIntS.f (K + j) y 1 = some (1 + (r.1.length : Int)) := fun j => hH0 _ (by omega)
  have n0 : ¬ (1 + (r.1.length : Int)) < 0 := by omega
  refine ⟨K + 20, ?_⟩
  unfold laws_FnExactSquaresInField.f
  simp [hs', hi', hE, hM, hH, n0]

theorem FnExactSquaresInField : laws_FnExactSquaresInField.Pure := by
  intro a b _ _
  obtain ⟨K, r, hr, kr, hs, hi⟩ := core a b
  exact SquaresInField_law a b K r hr kr hs hi
end Go.Proofs.Ytciobmjmincpdaa.Pure
