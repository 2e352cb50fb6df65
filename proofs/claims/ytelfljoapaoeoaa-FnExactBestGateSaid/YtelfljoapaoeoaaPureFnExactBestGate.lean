/- The program's BestGate answers as the reference's BestGate does, and leaves its trips alone, for all arguments that the law lets in; no condition beside that. -/
import Derived.Test.YtelfljoapaoeoaaY5
import Derived.Test.YtelfljoapaoeoaaYTrips
namespace Go.Proofs.Ytelfljoapaoeoaa.Pure
open Go.RowKit Go.Proofs.Ytelfljoapaoeoaa.Y Go.Proofs.YtelfljoapaoeoaaW.PrintWords Go.Proofs.YtelfljoapaoeoaaW.PrintLast Go.Proofs.Ytelfljoapaoeoaa Go.Proofs.Ytelfljoapaoeoaa.Trips
set_option linter.unusedVariables false
set_option linter.unusedSimpArgs false

theorem within_some (a b c : Int) : impl_within.f a b c = some (decide (b ≤ a ∧ a ≤ c)) := by
  unfold impl_within.f
  by_cases h : a ≥ b
  · rw [if_pos h]; congr 1; simp [show b ≤ a from h]
  · rw [if_neg h]; congr 1; simp [show ¬ b ≤ a from h]
theorem in_some (a b c : Int) : spec_l1In.f a b c = some (decide (b ≤ a ∧ a ≤ c)) := by
  unfold spec_l1In.f
  by_cases h : a ≥ b
  · rw [if_pos h]; congr 1; simp [show b ≤ a from h]
  · rw [if_neg h]; congr 1; simp [show ¬ b ≤ a from h]
def far (g b : Int) : Int := if 2 * g - 2 * b - 1 > 0 then 2 * g - 2 * b - 1 else 2 * b + 1 - 2 * g
theorem far_spec (g b : Int) (h1 : -1000 ≤ g) (h2 : g ≤ 1000) (h3 : -1000 ≤ b) (h4 : b ≤ 1000) : spec_gaAway.f g b = some (far g b) := by
  unfold spec_gaAway.f spec_l1Abs.f spec_l1Most.f far
  rw [wid (x := 2 * g) (by omega) (by omega), wid (x := 2 * b) (by omega) (by omega), wid (x := 2 * g - 2 * b) (by omega) (by omega), wid (x := 2 * g - 2 * b - 1) (by omega) (by omega), wid (x := -(2 * g - 2 * b - 1)) (by omega) (by omega)]
  by_cases h : 2 * g - 2 * b - 1 > 0
  · rw [if_pos (by omega), if_pos h]; rfl
  · rw [if_neg (by omega), if_neg h]
    simp only [Option.bind_some]
    congr 1
    omega
theorem far_impl (g b : Int) (h1 : -1000 ≤ g) (h2 : g ≤ 1000) (h3 : -1000 ≤ b) (h4 : b ≤ 1000) : impl_away.f g b = some (far g b) := by
  unfold impl_away.f impl_size.f far mx
  rw [wid (x := 2 * g) (by omega) (by omega), wid (x := 2 * b) (by omega) (by omega), wid (x := 2 * g - 1) (by omega) (by omega), wid (x := 2 * g - 1 - 2 * b) (by omega) (by omega), wid (x := -(2 * g - 1 - 2 * b)) (by omega) (by omega)]
  simp only [Option.bind_some]
  congr 1
  split <;> split <;> omega
theorem far_nonneg (g b : Int) : 0 ≤ far g b := by unfold far; split <;> omega
theorem far_le (g b : Int) (h1 : -1000 ≤ g) (h2 : g ≤ 1000) (h3 : -1000 ≤ b) (h4 : b ≤ 1000) : far g b ≤ 5000 := by unfold far; split <;> omega

theorem rdi (l : List Int) (i : Nat) (h : i < l.length) : rd l (i : Int) = l[i] := by
  unfold rd; rw [Int.toNat_natCast, List.getD_eq_getElem?_getD, List.getElem?_eq_getElem h]; rfl
theorem all_l0 (l : List Int) (lo hi : Int) (hl : l.length ≤ 1048576) : ∀ (d k i : Nat), i + d = l.length → d < k → spec_l1All.l0 k lo hi l (l.length : Int) (i : Int) = some ((l.drop i).all fun x => decide (lo ≤ x ∧ x ≤ hi)) := by
  intro d
  induction d with
  | zero =>
    intro k i h1 h2
    obtain ⟨k, rfl⟩ : ∃ m, k = m + 1 := ⟨k - 1, by omega⟩
    simp only [spec_l1All.l0]
    rw [if_neg (by omega), List.drop_of_length_le (by omega)]; rfl
  | succ d ih =>
    intro k i h1 h2
    obtain ⟨k, rfl⟩ : ∃ m, k = m + 1 := ⟨k - 1, by omega⟩
    simp only [spec_l1All.l0]
    rw [if_pos (by omega), if_pos (by omega), if_pos (by omega), in_some, Option.bind_some, rdi l i (by omega), wid (x := (i : Int) + 1) (by omega) (by omega), List.drop_eq_getElem_cons (by omega : i < l.length), List.all_cons]
    cases decide (lo ≤ l[i] ∧ l[i] ≤ hi) with
    | false => rw [if_neg (by simp)]; rfl
    | true => rw [if_pos rfl, Bool.true_and]; exact ih k (i + 1) (by omega) (by omega)

/-- A trip: two boards. -/
def trip (a : Int) (t : List Int) : Bool := decide (t.length = 2) && t.all fun x => decide (0 ≤ x ∧ x ≤ a - 1)
theorem trip_rd (a : Int) (t : List Int) (h : trip a t = true) : t.length = 2 ∧ (0 ≤ rd t 0 ∧ rd t 0 ≤ a - 1) ∧ 0 ≤ rd t 1 ∧ rd t 1 ≤ a - 1 := by
  unfold trip at h
  rw [Bool.and_eq_true, decide_eq_true_eq, List.all_eq_true] at h
  obtain ⟨h1, h2⟩ := h
  match t, h1 with
  | [x, y], _ =>
    have hx := h2 x (by simp)
    have hy := h2 y (by simp)
    rw [decide_eq_true_eq] at hx hy
    exact ⟨rfl, hx, hy⟩

theorem l2 (a : Int) (l : List (List Int)) (ha : 2 ≤ a ∧ a ≤ 40) (hl : l.length ≤ 20) (ok : ∀ j (h : j < l.length), trip a l[j] = true) (G : Int) (hG : 1 ≤ G ∧ G ≤ 40) : ∀ (d i : Nat) (x : Int), i + d = l.length → 0 ≤ x → x ≤ 10000 * i →
    ∃ s : Int, 0 ≤ s ∧ s ≤ 10000 * l.length ∧ ∀ (K : Nat) (b v b' v' : Int),
      spec_BestGate.l2 (K + d + 1) a l b v G x l (l.length : Int) (i : Int) = (if v < 0 then (spec_BestGate.l1 K a l G s (G + 1)) else (if s < v then (spec_BestGate.l1 K a l G s (G + 1)) else (spec_BestGate.l1 K a l b v (G + 1)))) ∧
      impl_BestGate.l2 (K + d + 1) a l b' v' G x l (l.length : Int) (i : Int) = (if s < v' then (impl_BestGate.l1 K a l G s (G + 1)) else (impl_BestGate.l1 K a l b' v' (G + 1))) := by
  intro d
  induction d with
  | zero =>
    intro i x h1 h2 h3
    refine ⟨x, h2, by omega, fun K b v b' v' => ?_⟩
    simp only [spec_BestGate.l2, impl_BestGate.l2]
    rw [wid (x := G + 1) (by omega) (by omega)]
    constructor
    · rw [if_neg (by omega)]
    · rw [if_neg (by omega)]
  | succ d ih =>
    intro i x h1 h2 h3
    obtain ⟨t1, t2, t3⟩ := trip_rd a l[i] (ok i (by omega))
    have f1 := far_nonneg G (rd l[i] 0)
    have f2 := far_nonneg G (rd l[i] 1)
    have f3 := far_le G (rd l[i] 0) (by omega) (by omega) (by omega) (by omega)
    have f4 := far_le G (rd l[i] 1) (by omega) (by omega) (by omega) (by omega)
    have f5 := far_spec G (rd l[i] 0) (by omega) (by omega) (by omega) (by omega)
    have f6 := far_spec G (rd l[i] 1) (by omega) (by omega) (by omega) (by omega)
    have f7 := far_impl G (rd l[i] 0) (by omega) (by omega) (by omega) (by omega)
    have f8 := far_impl G (rd l[i] 1) (by omega) (by omega) (by omega) (by omega)
    obtain ⟨s, s1, s2, hs⟩ := ih (i + 1) (x + (far G (rd l[i] 0) + far G (rd l[i] 1))) (by omega) (by omega) (by omega)
    refine ⟨s, s1, s2, fun K b v b' v' => ?_⟩
    obtain ⟨M, hM⟩ : ∃ M, M = K + d + 1 := ⟨_, rfl⟩
    obtain ⟨q1, q2⟩ := hs K b v b' v'
    rw [← hM, show ((i + 1 : Nat) : Int) = (i : Int) + 1 from by omega] at q1 q2
    rw [show K + (d + 1) + 1 = M + 1 from by omega]
    simp only [spec_BestGate.l2, impl_BestGate.l2]
    have c0 : (0 : Int) < (l[i].length : Int) := by omega
    have c1 : (1 : Int) < (l[i].length : Int) := by omega
    constructor
    · rw [if_pos (by omega), if_pos (by omega), if_pos (by omega), getL l i (by omega), if_pos c0, f5, Option.bind_some, if_pos c1, f6, Option.bind_some, wid (x := far G (rd l[i] 0) + far G (rd l[i] 1)) (by omega) (by omega), wid (x := x + (far G (rd l[i] 0) + far G (rd l[i] 1))) (by omega) (by omega), wid (x := (i : Int) + 1) (by omega) (by omega)]
      exact q1
    · rw [if_pos (by omega), if_pos (by omega), if_pos (by omega), getL l i (by omega), if_pos c0, f7, Option.bind_some, if_pos c1, f8, Option.bind_some, wid (x := far G (rd l[i] 0) + far G (rd l[i] 1)) (by omega) (by omega), wid (x := x + (far G (rd l[i] 0) + far G (rd l[i] 1))) (by omega) (by omega), wid (x := (i : Int) + 1) (by omega) (by omega)]
      exact q2

theorem l1 (a : Int) (l : List (List Int)) (ha : 2 ≤ a ∧ a ≤ 40) (hl : l.length ≤ 20) (ok : ∀ j (h : j < l.length), trip a l[j] = true) : ∀ (e : Nat) (G b v v' : Int), G + e = a → 1 ≤ G → (v = v' ∧ 0 ≤ v ∨ v < 0 ∧ v' = 1099511627776 ∧ G < a) →
    ∃ r, ∀ K, 40 * e < K → spec_BestGate.l1 K a l b v G = some r ∧ impl_BestGate.l1 K a l b v' G = some r := by
  intro e
  induction e with
  | zero =>
    intro G b v v' h1 h2 h3
    rcases h3 with ⟨rfl, h3⟩ | ⟨_, _, h3⟩
    · refine ⟨(b, v, true), fun K hK => ?_⟩
      obtain ⟨K, rfl⟩ : ∃ m, K = m + 1 := ⟨K - 1, by omega⟩
      simp only [spec_BestGate.l1, impl_BestGate.l1]
      rw [if_neg (by omega), if_neg (by omega)]
      exact ⟨rfl, rfl⟩
    · omega
  | succ e ih =>
    intro G b v v' h1 h2 h3
    obtain ⟨s, s1, s2, hs⟩ := l2 a l ha hl ok G (by omega) l.length 0 0 (by omega) (by omega) (by omega)
    have fin : ∀ (b2 v2 : Int), 0 ≤ v2 → (∀ K, 40 * (e + 1) < K + l.length + 2 → spec_BestGate.l1 (K + l.length + 2) a l b v G = spec_BestGate.l1 K a l b2 v2 (G + 1) ∧ impl_BestGate.l1 (K + l.length + 2) a l b v' G = impl_BestGate.l1 K a l b2 v2 (G + 1)) → ∃ r, ∀ K, 40 * (e + 1) < K → spec_BestGate.l1 K a l b v G = some r ∧ impl_BestGate.l1 K a l b v' G = some r := by
      intro b2 v2 h4 h5
      obtain ⟨r, hr⟩ := ih (G + 1) b2 v2 v2 (by omega) (by omega) (.inl ⟨rfl, h4⟩)
      refine ⟨r, fun K hK => ?_⟩
      obtain ⟨M, rfl⟩ : ∃ M, K = M + l.length + 2 := ⟨K - l.length - 2, by omega⟩
      obtain ⟨q1, q2⟩ := h5 M hK
      rw [q1, q2]
      exact hr M (by omega)
    have open_ : ∀ K, spec_BestGate.l1 (K + l.length + 2) a l b v G = (if v < 0 then (spec_BestGate.l1 K a l G s (G + 1)) else (if s < v then (spec_BestGate.l1 K a l G s (G + 1)) else (spec_BestGate.l1 K a l b v (G + 1)))) ∧ impl_BestGate.l1 (K + l.length + 2) a l b v' G = (if s < v' then (impl_BestGate.l1 K a l G s (G + 1)) else (impl_BestGate.l1 K a l b v' (G + 1))) := by
      intro K
      obtain ⟨q1, q2⟩ := hs K b v b v'
      obtain ⟨M, hM⟩ : ∃ M, M = K + l.length + 1 := ⟨_, rfl⟩
      rw [← hM] at q1 q2
      rw [show K + l.length + 2 = M + 1 from by omega]
      simp only [spec_BestGate.l1, impl_BestGate.l1]
      constructor
      · rw [if_pos (by omega)]
        exact q1
      · rw [if_pos (by omega)]
        exact q2
    rcases h3 with ⟨rfl, h3⟩ | ⟨h3, rfl, _⟩
    · by_cases c : s < v
      · refine fin G s s1 (fun K _ => ?_)
        obtain ⟨q1, q2⟩ := open_ K
        rw [q1, q2, if_neg (by omega), if_pos c, if_pos c]
        exact ⟨rfl, rfl⟩
      · refine fin b v h3 (fun K _ => ?_)
        obtain ⟨q1, q2⟩ := open_ K
        rw [q1, q2, if_neg (by omega), if_neg c, if_neg c]
        exact ⟨rfl, rfl⟩
    · refine fin G s s1 (fun K _ => ?_)
      obtain ⟨q1, q2⟩ := open_ K
      rw [q1, q2, if_pos h3, if_pos (by omega)]
      exact ⟨rfl, rfl⟩

theorem l0 (a : Int) (l : List (List Int)) (ha : 2 ≤ a ∧ a ≤ 40) (hl : 1 ≤ l.length ∧ l.length ≤ 20) (hs : ∀ y ∈ l, y.length ≤ 1048576) : ∀ (d i : Nat), i + d = l.length → (∀ j (h : j < l.length), j < i → trip a l[j] = true) →
    ∃ r, ∀ K, 5000 + d < K → spec_BestGate.l0 K a l l (l.length : Int) (i : Int) = some r ∧ impl_BestGate.l0 K a l l (l.length : Int) (i : Int) = some r := by
  intro d
  induction d with
  | zero =>
    intro i h1 h2
    obtain ⟨r, hr⟩ := l1 a l ha hl.2 (fun j h => h2 j h (by omega)) (a - 1).toNat 1 0 (-1) 1099511627776 (by omega) (by omega) (.inr ⟨by omega, rfl, by omega⟩)
    refine ⟨r, fun K hK => ?_⟩
    obtain ⟨K, rfl⟩ : ∃ m, K = m + 1 := ⟨K - 1, by omega⟩
    simp only [spec_BestGate.l0, impl_BestGate.l0]
    rw [if_neg (by omega), if_neg (by omega)]
    exact hr K (by omega)
  | succ d ih =>
    intro i h1 h2
    have hz := hs l[i] (List.getElem_mem _)
    have e2 : impl_isOf.f a l[i] = some (l[i].all fun x => decide (0 ≤ x ∧ x ≤ a - 1)) := by
      unfold impl_isOf.f impl_allWithin.f
      rw [wid (x := a - 1) (by omega) (by omega)]
      rfl
    by_cases c : trip a l[i] = true
    · obtain ⟨r, hr⟩ := ih (i + 1) (by omega) (fun j h hj => by
        by_cases e : j = i
        · subst e; exact c
        · exact h2 j h (by omega))
      refine ⟨r, fun K hK => ?_⟩
      obtain ⟨K, rfl⟩ : ∃ m, K = m + 1 := ⟨K - 1, by omega⟩
      unfold trip at c
      rw [Bool.and_eq_true, decide_eq_true_eq] at c
      have e1 := all_l0 l[i] 0 (a - 1) hz l[i].length K 0 (by omega) (by omega)
      rw [List.drop_zero, c.2, show ((0 : Nat) : Int) = 0 from rfl] at e1
      rw [c.2] at e2
      have e1' : spec_l1All.f K l[i] 0 (a - 1) = some true := e1
      simp only [spec_BestGate.l0, impl_BestGate.l0]
      obtain ⟨q1, q2⟩ := hr K (by omega)
      rw [show (((i + 1 : Nat)) : Int) = (i : Int) + 1 from by omega] at q1 q2
      constructor
      · rw [if_pos (by omega), if_pos (by omega), if_pos (by omega), getL l i (by omega), if_pos (by omega), wid (x := a - 1) (by omega) (by omega), e1', Option.bind_some, if_pos rfl, wid (x := (i : Int) + 1) (by omega) (by omega)]
        exact q1
      · rw [if_pos (by omega), if_pos (by omega), if_pos (by omega), getL l i (by omega), if_pos (by omega), e2, Option.bind_some, if_pos rfl, wid (x := (i : Int) + 1) (by omega) (by omega)]
        exact q2
    · refine ⟨(0, 0, false), fun K hK => ?_⟩
      obtain ⟨K, rfl⟩ : ∃ m, K = m + 1 := ⟨K - 1, by omega⟩
      simp only [spec_BestGate.l0, impl_BestGate.l0]
      by_cases c2 : (l[i].length : Int) = 2
      · have c3 : (l[i].all fun x => decide (0 ≤ x ∧ x ≤ a - 1)) = false := by
          rw [Bool.eq_false_iff]
          intro e
          apply c
          unfold trip
          rw [e, decide_eq_true (by omega)]; rfl
        have e1 := all_l0 l[i] 0 (a - 1) hz l[i].length K 0 (by omega) (by omega)
        rw [List.drop_zero, c3, show ((0 : Nat) : Int) = 0 from rfl] at e1
        rw [c3] at e2
        have e1' : spec_l1All.f K l[i] 0 (a - 1) = some false := e1
        constructor
        · rw [if_pos (by omega), if_pos (by omega), if_pos (by omega), getL l i (by omega), if_pos c2, wid (x := a - 1) (by omega) (by omega), e1']; rfl
        · rw [if_pos (by omega), if_pos (by omega), if_pos (by omega), getL l i (by omega), if_pos c2, e2]; rfl
      · constructor
        · rw [if_pos (by omega), if_pos (by omega), if_pos (by omega), getL l i (by omega), if_neg c2]
        · rw [if_pos (by omega), if_pos (by omega), if_pos (by omega), getL l i (by omega), if_neg c2]

theorem core (a : Int) (l : List (List Int)) (hl : l.length ≤ 1048576) (hs : ∀ y ∈ l, y.length ≤ 1048576) : ∃ r, ∀ K, 6000 < K → spec_BestGate.f K a l = some r ∧ impl_BestGate.f K a l = some r := by
  unfold spec_BestGate.f impl_BestGate.f spec_gaBoards.f impl_isRow.f
  rw [in_some, within_some, in_some, within_some]
  simp only [Option.bind_some]
  by_cases c1 : 2 ≤ a ∧ a ≤ 40
  · by_cases c2 : 1 ≤ (l.length : Int) ∧ (l.length : Int) ≤ 20
    · obtain ⟨r, hr⟩ := l0 a l c1 (by omega) hs l.length 0 (by omega) (fun j h hj => by omega)
      refine ⟨r, fun K hK => ?_⟩
      obtain ⟨K, rfl⟩ : ∃ m, K = m + 1 := ⟨K - 1, by omega⟩
      rw [decide_eq_true c1, decide_eq_true c2]
      simp only [if_true, Bool.not_true, spec_BestGate.j0, impl_BestGate.j0, Bool.false_eq_true, if_false]
      exact hr K (by omega)
    · refine ⟨(0, 0, false), fun K hK => ?_⟩
      obtain ⟨K, rfl⟩ : ∃ m, K = m + 1 := ⟨K - 1, by omega⟩
      rw [decide_eq_true c1, decide_eq_false c2]
      exact ⟨rfl, rfl⟩
  · refine ⟨(0, 0, false), fun K hK => ?_⟩
    obtain ⟨K, rfl⟩ : ∃ m, K = m + 1 := ⟨K - 1, by omega⟩
    rw [decide_eq_false c1]
    exact ⟨rfl, rfl⟩

theorem FnExactBestGate : laws_FnExactBestGate.Pure := by
  intro a l _ hm hy
  obtain ⟨r, hr, hsz⟩ := sized l hm (fun y h => (hy y h).1)
  obtain ⟨Q, hQ⟩ : ∃ Q, Q = l.length + 2000000 := ⟨_, rfl⟩
  refine ⟨Q, ?_⟩
  unfold laws_FnExactBestGate.f
  rw [hsz Q (by omega), Option.bind_some]
  rcases hr with h | ⟨h, hl, hs⟩
  · rw [if_pos h]
  · obtain ⟨v, hv⟩ := core a l hl hs
    obtain ⟨v1, v2⟩ := hv Q (by omega)
    have e1 := toSS l hl hs Q (by omega)
    have e2 := eqSS l hl hs Q (by omega)
    rw [if_neg (by omega)]
    simp [e1, e2, v1, v2]
end Go.Proofs.Ytelfljoapaoeoaa.Pure
