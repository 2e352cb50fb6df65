/- What the laws' own helpers over lists of texts come to (sizes, copies, comparisons): plain lemmas; no condition beside the bounds that each names. -/
import Derived.Test.YtihjikmpbbjbfaaU1
namespace Go.Proofs.Ytihjikmpbbjbfaa.LawStr
open Go.RowKit Go.Proofs.Ytihjikmpbbjbfaa.U Go.Proofs.YtihjikmpbbjbfaaW.PrintWords Go.Proofs.YtihjikmpbbjbfaaW.PrintLast
set_option linter.unusedVariables false
set_option linter.unusedSimpArgs false

theorem wid {x : Int} (h0 : -9223372036854775808 ≤ x) (h1 : x ≤ 9223372036854775807) : wrap64 x = x := by unfold wrap64; omega
theorem rs_get (l : List ByteArray) (i : Nat) (h : i < l.length) : rdOf ByteArray.empty l (i : Int) = l[i] := by
  unfold rdOf; rw [Int.toNat_natCast, List.getD_eq_getElem?_getD, List.getElem?_eq_getElem h]; rfl

theorem toStringS_l0 (l : List ByteArray) (hl : l.length ≤ 1048576) : ∀ (d k i : Nat) (y : List ByteArray), i + d = l.length → d < k → y.length = l.length → (∀ j, j < i → y[j]? = l[j]?) →
    laws_toStringS.l0 k l y (i : Int) = some l := by
  intro d
  induction d with
  | zero =>
    intro k i y hi hk hy he
    obtain ⟨k, rfl⟩ : ∃ m, k = m + 1 := ⟨k - 1, by omega⟩
    simp only [laws_toStringS.l0]
    rw [if_neg (by omega)]
    congr 1
    apply List.ext_getElem?
    intro j
    by_cases hj : j < i
    · exact he j hj
    · rw [List.getElem?_eq_none (by omega), List.getElem?_eq_none (by omega)]
  | succ d ih =>
    intro k i y hi hk hy he
    obtain ⟨k, rfl⟩ : ∃ m, k = m + 1 := ⟨k - 1, by omega⟩
    simp only [laws_toStringS.l0]
    rw [if_pos (by omega), if_pos (by omega), if_pos (by omega), wid (x := (i : Int) + 1) (by omega) (by omega), Int.toNat_natCast]
    refine ih k (i + 1) _ (by omega) (by omega) (by rw [List.length_set]; exact hy) ?_
    intro j hj
    rw [List.getElem?_set]
    by_cases e : i = j
    · subst e
      rw [if_pos rfl, if_pos (by omega), rs_get l i (by omega), List.getElem?_eq_getElem (by omega)]
    · rw [if_neg e]
      exact he j (by omega)
theorem toStringS (l : List ByteArray) (hl : l.length ≤ 1048576) (k : Nat) (hk : l.length < k) : laws_toStringS.f k l = some l := by
  unfold laws_toStringS.f
  rw [if_pos (by omega), Int.toNat_natCast, if_pos (by omega)]
  exact toStringS_l0 l hl l.length k 0 _ (by omega) hk (by simp) (by intro j hj; omega)

theorem eqStringS_l0 (l : List ByteArray) (hl : l.length ≤ 1048576) : ∀ (d k i : Nat), i + d = l.length → d < k → laws_eqStringS.l0 k l l (i : Int) = some true := by
  intro d
  induction d with
  | zero =>
    intro k i hi hk
    obtain ⟨k, rfl⟩ : ∃ m, k = m + 1 := ⟨k - 1, by omega⟩
    simp only [laws_eqStringS.l0]
    rw [if_neg (by omega)]
  | succ d ih =>
    intro k i hi hk
    obtain ⟨k, rfl⟩ : ∃ m, k = m + 1 := ⟨k - 1, by omega⟩
    simp only [laws_eqStringS.l0]
    rw [if_pos (by omega), if_pos (by omega), if_pos (by omega), if_pos trivial, wid (x := (i : Int) + 1) (by omega) (by omega)]
    exact ih k (i + 1) (by omega) (by omega)
theorem eqStringS (l : List ByteArray) (hl : l.length ≤ 1048576) (k : Nat) (hk : l.length < k) : laws_eqStringS.f k l l = some true := by
  unfold laws_eqStringS.f
  rw [if_pos rfl]
  exact eqStringS_l0 l hl l.length k 0 (by omega) hk

theorem sz_l0 (l : List ByteArray) (hl : l.length ≤ 1048576) (hs : ∀ y ∈ l, y.size ≤ 9223372036854775807) : ∀ (d k i : Nat) (m : Int), i + d = l.length → d < k → 0 ≤ m → m ≤ 1048576 → (∀ j, j < i → (rdOf ByteArray.empty l (j : Int)).size ≤ 1048576) →
    ∃ r, laws_szStringS.l0 k l m (i : Int) = some r ∧ (r < 0 ∨ ∀ j, j < l.length → (rdOf ByteArray.empty l (j : Int)).size ≤ 1048576) := by
  intro d
  induction d with
  | zero =>
    intro k i m hi hk h0 h1 he
    obtain ⟨k, rfl⟩ : ∃ m, k = m + 1 := ⟨k - 1, by omega⟩
    simp only [laws_szStringS.l0]
    rw [if_neg (by omega)]
    exact ⟨m, rfl, .inr (fun j hj => he j (by omega))⟩
  | succ d ih =>
    intro k i m hi hk h0 h1 he
    obtain ⟨k, rfl⟩ : ∃ m, k = m + 1 := ⟨k - 1, by omega⟩
    have hz : (rdOf ByteArray.empty l (i : Int)).size ≤ 9223372036854775807 := by rw [rs_get l i (by omega)]; exact hs _ (List.getElem_mem _)
    simp only [laws_szStringS.l0]
    rw [if_pos (by omega), if_pos (by omega), wid (x := m - ((rdOf ByteArray.empty l (i : Int)).size : Int)) (by omega) (by omega), wid (x := (i : Int) + 1) (by omega) (by omega)]
    by_cases hn : m - ((rdOf ByteArray.empty l (i : Int)).size : Int) < 0
    · rw [if_pos hn]
      exact ⟨-1, rfl, .inl (by omega)⟩
    · rw [if_neg hn]
      refine ih k (i + 1) _ (by omega) (by omega) (by omega) (by omega) (fun j hj => ?_)
      by_cases e : j = i
      · subst e; omega
      · exact he j (by omega)
/-- The law's own bound: the law answers at once, or the list is small. -/
theorem sized (l : List ByteArray) (hm : l.length ≤ 9223372036854775807) (hs : ∀ y ∈ l, y.size ≤ 9223372036854775807) :
    (∃ r, r < 0 ∧ ∃ K, ∀ k, K ≤ k → laws_szStringS.f k l 1048576 = some r) ∨ (l.length ≤ 1048576 ∧ (∀ y ∈ l, y.size ≤ 1048576) ∧ ∃ r, 0 ≤ r ∧ ∀ k, l.length < k → laws_szStringS.f k l 1048576 = some r) := by
  unfold laws_szStringS.f
  rw [wid (x := 1048576 - (l.length : Int)) (by omega) (by omega)]
  by_cases h : 1048576 - (l.length : Int) < 0
  · exact .inl ⟨-1, by omega, 0, fun k _ => by rw [if_pos h]⟩
  · have hr : ∀ k, l.length < k → ∃ r, laws_szStringS.l0 k l (1048576 - (l.length : Int)) 0 = some r ∧ (r < 0 ∨ ∀ j, j < l.length → (rdOf ByteArray.empty l (j : Int)).size ≤ 1048576) := fun k hk =>
      sz_l0 l (by omega) hs l.length k 0 _ (by omega) hk (by omega) (by omega) (fun j hj => by omega)
    obtain ⟨r, hr1, hr2⟩ := hr (l.length + 1) (by omega)
    have hall : ∀ k, l.length < k → laws_szStringS.l0 k l (1048576 - (l.length : Int)) 0 = some r := fun k hk =>
      at_rounds (g := fun k => laws_szStringS.l0 k l (1048576 - (l.length : Int)) 0) (fun k => laws_szStringS.mono_l k _ _ _) (show l.length + 1 ≤ k by omega) hr1
    by_cases hr0 : r < 0
    · exact .inl ⟨r, hr0, l.length + 1, fun k hk => by rw [if_neg h]; exact hall k (by omega)⟩
    · refine .inr ⟨by omega, fun y hy => ?_, r, by omega, fun k hk => by rw [if_neg h]; exact hall k hk⟩
      obtain ⟨j, hj, rfl⟩ := List.getElem_of_mem hy
      rcases hr2 with hr2 | hr2
      · exact absurd hr2 hr0
      · have := hr2 j hj
        rwa [rs_get l j hj] at this
end Go.Proofs.Ytihjikmpbbjbfaa.LawStr
