/- Lists of lists of whole numbers: the laws' own helpers (sizes, copies, comparisons); plain lemmas, no condition beside those named. -/
import Derived.Test.YtelfljoapaoeoaaY1
import Derived.Test.YtelfljoapaoeoaaY3
import Derived.Test.YtelfljoapaoeoaaY5
import Derived.Test.YtelfljoapaoeoaaYLawInt
namespace Go.Proofs.Ytelfljoapaoeoaa.Trips
open Go.RowKit Go.Proofs.Ytelfljoapaoeoaa.Y Go.Proofs.YtelfljoapaoeoaaW.PrintWords Go.Proofs.YtelfljoapaoeoaaW.PrintLast Go.Proofs.Ytelfljoapaoeoaa
set_option linter.unusedVariables false
set_option linter.unusedSimpArgs false

theorem wid {x : Int} (h0 : -9223372036854775808 ≤ x) (h1 : x ≤ 9223372036854775807) : wrap64 x = x := by unfold wrap64; omega
theorem getL (l : List (List Int)) (i : Nat) (h : i < l.length) : rd_L1 l (i : Int) = l[i] := by
  unfold rd_L1; rw [Int.toNat_natCast, List.getD_eq_getElem?_getD, List.getElem?_eq_getElem h]; rfl

theorem sz_l0 (l : List (List Int)) (hl : l.length ≤ 1048576) (hs : ∀ y ∈ l, y.length ≤ 9223372036854775807) : ∀ (d k i : Nat) (m : Int), i + d = l.length → d < k → 0 ≤ m → m ≤ 1048576 → (∀ j (h : j < l.length), j < i → l[j].length ≤ 1048576) →
    ∃ r, laws_szIntSS.l0 k l m (i : Int) = some r ∧ (r < 0 ∨ 0 ≤ r ∧ ∀ y ∈ l, y.length ≤ 1048576) := by
  intro d
  induction d with
  | zero =>
    intro k i m hi hk h0 h1 h2
    obtain ⟨k, rfl⟩ : ∃ m, k = m + 1 := ⟨k - 1, by omega⟩
    simp only [laws_szIntSS.l0]
    rw [if_neg (by omega)]
    refine ⟨m, rfl, .inr ⟨h0, fun y hy => ?_⟩⟩
    obtain ⟨j, hj, rfl⟩ := List.getElem_of_mem hy
    exact h2 j hj (by omega)
  | succ d ih =>
    intro k i m hi hk h0 h1 h2
    obtain ⟨k, rfl⟩ : ∃ m, k = m + 1 := ⟨k - 1, by omega⟩
    have hz : l[i].length ≤ 9223372036854775807 := hs _ (List.getElem_mem _)
    simp only [laws_szIntSS.l0, laws_szIntS.f]
    rw [if_pos (by omega), if_pos (by omega), getL l i (by omega), wid (x := m - (l[i].length : Int)) (by omega) (by omega), wid (x := (i : Int) + 1) (by omega) (by omega)]
    by_cases hn : m - (l[i].length : Int) < 0
    · rw [if_pos hn, Option.bind_some, if_pos (by omega)]
      exact ⟨-1, rfl, .inl (by omega)⟩
    · rw [if_neg hn, Option.bind_some, if_neg hn]
      refine ih k (i + 1) _ (by omega) (by omega) (by omega) (by omega) (fun j hj hj' => ?_)
      by_cases e : j = i
      · subst e; omega
      · exact h2 j hj (by omega)
/-- The law's own bound: the law answers at once, or the lists are small. -/
theorem sized (l : List (List Int)) (hm : l.length ≤ 9223372036854775807) (hs : ∀ y ∈ l, y.length ≤ 9223372036854775807) :
    ∃ r, (r < 0 ∨ 0 ≤ r ∧ l.length ≤ 1048576 ∧ ∀ y ∈ l, y.length ≤ 1048576) ∧ ∀ k, l.length < k → laws_szIntSS.f k l 1048576 = some r := by
  unfold laws_szIntSS.f
  rw [wid (x := 1048576 - (l.length : Int)) (by omega) (by omega)]
  by_cases h : 1048576 - (l.length : Int) < 0
  · exact ⟨-1, .inl (by omega), fun k _ => by rw [if_pos h]⟩
  · obtain ⟨r, hr, hr'⟩ := sz_l0 l (by omega) hs l.length (l.length + 1) 0 (1048576 - (l.length : Int)) (by omega) (by omega) (by omega) (by omega) (fun j _ hj => by omega)
    refine ⟨r, ?_, fun k hk => ?_⟩
    · rcases hr' with h1 | ⟨h1, h2⟩
      · exact .inl h1
      · exact .inr ⟨h1, by omega, h2⟩
    · rw [if_neg h]
      exact at_rounds (g := fun k => laws_szIntSS.l0 k l (1048576 - (l.length : Int)) 0) (fun k => laws_szIntSS.mono_l k _ _ _) (show l.length + 1 ≤ k by omega) hr

theorem to_l0 (l : List (List Int)) (hl : l.length ≤ 1048576) (hs : ∀ y ∈ l, y.length ≤ 1048576) : ∀ (d k i : Nat) (y : List (List Int)), i + d = l.length → d + 1048577 < k → y.length = l.length → (∀ j, j < i → y[j]? = l[j]?) →
    laws_toIntSS.l0 k l y (i : Int) = some l := by
  intro d
  induction d with
  | zero =>
    intro k i y hi hk hy he
    obtain ⟨k, rfl⟩ : ∃ m, k = m + 1 := ⟨k - 1, by omega⟩
    simp only [laws_toIntSS.l0]
    rw [if_neg (by omega)]
    congr 1
    apply List.ext_getElem?
    intro j
    by_cases hj : j < i
    · exact he j hj
    · rw [List.getElem?_eq_none (by omega), List.getElem?_eq_none (by omega)]
  | succ d ih =>
    intro k i y hi hk hy he
    obtain ⟨k, rfl⟩ : ∃ m, k = m + 1 := ⟨k - 1, by omega⟩
    have hz := hs l[i] (List.getElem_mem _)
    simp only [laws_toIntSS.l0]
    rw [if_pos (by omega), if_pos (by omega), getL l i (by omega), LawInt.toIntS l[i] hz k (by omega), Option.bind_some, if_pos (by omega), wid (x := (i : Int) + 1) (by omega) (by omega), Int.toNat_natCast]
    refine ih k (i + 1) _ (by omega) (by omega) (by rw [List.length_set]; exact hy) ?_
    intro j hj
    rw [List.getElem?_set]
    by_cases e : i = j
    · subst e
      rw [if_pos rfl, if_pos (by omega), List.getElem?_eq_getElem (by omega)]
    · rw [if_neg e]
      exact he j (by omega)
theorem toSS (l : List (List Int)) (hl : l.length ≤ 1048576) (hs : ∀ y ∈ l, y.length ≤ 1048576) (k : Nat) (hk : l.length + 1048577 < k) : laws_toIntSS.f k l = some l := by
  unfold laws_toIntSS.f
  rw [if_pos (by omega), Int.toNat_natCast, if_pos (by omega)]
  exact to_l0 l hl hs l.length k 0 _ (by omega) hk (by simp) (by intro j hj; omega)

theorem eq_l0 (l : List (List Int)) (hl : l.length ≤ 1048576) (hs : ∀ y ∈ l, y.length ≤ 1048576) : ∀ (d k i : Nat), i + d = l.length → d + 1048577 < k → laws_eqIntSS.l0 k l l (i : Int) = some true := by
  intro d
  induction d with
  | zero =>
    intro k i hi hk
    obtain ⟨k, rfl⟩ : ∃ m, k = m + 1 := ⟨k - 1, by omega⟩
    simp only [laws_eqIntSS.l0]
    rw [if_neg (by omega)]
  | succ d ih =>
    intro k i hi hk
    obtain ⟨k, rfl⟩ : ∃ m, k = m + 1 := ⟨k - 1, by omega⟩
    have hz := hs l[i] (List.getElem_mem _)
    simp only [laws_eqIntSS.l0]
    rw [if_pos (by omega), if_pos (by omega), if_pos (by omega), getL l i (by omega), LawInt.eqIntS l[i] hz k (by omega), Option.bind_some, if_pos rfl, wid (x := (i : Int) + 1) (by omega) (by omega)]
    exact ih k (i + 1) (by omega) (by omega)
theorem eqSS (l : List (List Int)) (hl : l.length ≤ 1048576) (hs : ∀ y ∈ l, y.length ≤ 1048576) (k : Nat) (hk : l.length + 1048577 < k) : laws_eqIntSS.f k l l = some true := by
  unfold laws_eqIntSS.f
  rw [if_pos rfl]
  exact eq_l0 l hl hs l.length k 0 (by omega) hk
end Go.Proofs.Ytelfljoapaoeoaa.Trips
