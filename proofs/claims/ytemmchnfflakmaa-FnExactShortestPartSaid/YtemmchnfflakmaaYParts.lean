/- The parts that gates leave, as the program and as the reference tell them; the greatest and the least of a list; plain lemmas, no condition beside those named. -/
import Derived.Test.YtemmchnfflakmaaY1
import Derived.Test.YtemmchnfflakmaaY2
import Derived.Test.YtemmchnfflakmaaY3
import Derived.Test.YtemmchnfflakmaaY4
import Derived.Test.YtemmchnfflakmaaYGates
namespace Go.Proofs.Ytemmchnfflakmaa.Parts
open Go.RowKit Go.Proofs.Ytemmchnfflakmaa.Y Go.Proofs.YtemmchnfflakmaaW.PrintWords Go.Proofs.YtemmchnfflakmaaW.PrintLast Go.Proofs.Ytemmchnfflakmaa.Gates
set_option linter.unusedVariables false
set_option linter.unusedSimpArgs false

theorem parts_same : ∀ (k : Nat) (a : Int) (p : List Int) (last : Int) (l : List Int) (n i : Int), impl_partsOf.l0 k a p last l n i = spec_gaParts.l0 k a p last l n i := by
  intro k
  induction k with
  | zero => intros; rfl
  | succ k ih => intros; simp only [impl_partsOf.l0, spec_gaParts.l0, ih]

theorem parts_l0 (a : Int) (l : List Int) (h : OK a l) : ∀ (d k i : Nat) (p : List Int) (last : Int), i + d = l.length → d < k → p.length = i → (∀ q ∈ p, 1 ≤ q ∧ q ≤ a) → 0 ≤ last → last ≤ a - 1 → (i < l.length → last < rd l (i : Int)) →
    ∃ r, spec_gaParts.l0 k a p last l (l.length : Int) (i : Int) = some r ∧ r.length = l.length + 1 ∧ ∀ q ∈ r, 1 ≤ q ∧ q ≤ a := by
  have h1 := h.1
  have h2 := h.2.1
  intro d
  induction d with
  | zero =>
    intro k i p last hi hk hp hq b1 b2 b3
    obtain ⟨k, rfl⟩ : ∃ m, k = m + 1 := ⟨k - 1, by omega⟩
    simp only [spec_gaParts.l0]
    rw [if_neg (by omega), if_pos (by omega), wid (x := a - last) (by omega) (by omega)]
    refine ⟨_, rfl, by simp; omega, fun q hq' => ?_⟩
    rcases List.mem_append.1 hq' with hq' | hq'
    · exact hq q hq'
    · rw [List.mem_singleton.1 hq']; omega
  | succ d ih =>
    intro k i p last hi hk hp hq b1 b2 b3
    obtain ⟨k, rfl⟩ : ∃ m, k = m + 1 := ⟨k - 1, by omega⟩
    have hr := h.2.2 i (Nat.zero_le _) (by omega)
    have hl := b3 (by omega)
    simp only [spec_gaParts.l0]
    rw [if_pos (by omega), if_pos (by omega), if_pos (by omega), if_pos (by omega), wid (x := (i : Int) + 1) (by omega) (by omega), wid (x := rd l (i : Int) - last) (by omega) (by omega)]
    refine ih k (i + 1) _ _ (by omega) (by omega) (by simp; omega) (fun q hq' => ?_) (by omega) (by omega) (fun hlt => ?_)
    · rcases List.mem_append.1 hq' with hq' | hq'
      · exact hq q hq'
      · rw [List.mem_singleton.1 hq']; omega
    · have := (h.2.2 (i + 1) (Nat.zero_le _) hlt).2.2 (by omega)
      rw [show ((i + 1 : Nat) : Int) - 1 = (i : Int) from by omega] at this
      exact this

theorem parts (a : Int) (l : List Int) (h : OK a l) : ∃ r : List Int, r.length = l.length + 1 ∧ (∀ q ∈ r, 1 ≤ q ∧ q ≤ a) ∧ ∀ k, l.length < k → spec_gaParts.f k a l = some r ∧ impl_partsOf.f k a l = some r := by
  have h1 := h.1
  obtain ⟨r, hr, hlen, hall⟩ := parts_l0 a l h l.length (l.length + 1) 0 [] 0 (by omega) (by omega) rfl (by simp) (by omega) (by omega) (fun hlt => by have := (h.2.2 0 (Nat.le_refl _) hlt).1; omega)
  have hr' : ∀ k, l.length < k → spec_gaParts.f k a l = some r := fun k hk => by
    unfold spec_gaParts.f
    exact at_rounds (g := fun k => spec_gaParts.l0 k a [] 0 l (l.length : Int) 0) (fun k => spec_gaParts.mono_l k _ _ _ _ _ _) (show l.length + 1 ≤ k by omega) hr
  refine ⟨r, hlen, hall, fun k hk => ⟨hr' k hk, ?_⟩⟩
  have := hr' k hk
  unfold spec_gaParts.f at this
  unfold impl_partsOf.f
  rw [parts_same]
  exact this

/-- The greatest of a list, and the least one. -/
def Top (p : List Int) (m : Int) : Prop := m ∈ p ∧ ∀ q ∈ p, q ≤ m
def Low (p : List Int) (m : Int) : Prop := m ∈ p ∧ ∀ q ∈ p, m ≤ q
theorem rd_mem (l : List Int) (i : Nat) (h : i < l.length) : rd l (i : Int) ∈ l := by rw [rd_get l i h]; exact List.getElem_mem h
theorem all_of (l : List Int) (P : Int → Prop) (h : ∀ j : Nat, j < l.length → P (rd l (j : Int))) : ∀ q ∈ l, P q := by
  intro q hq
  obtain ⟨j, hj, rfl⟩ := List.getElem_of_mem hq
  have := h j hj
  rwa [rd_get l j hj] at this

theorem max_l0 (p : List Int) (hp : p.length ≤ 1048576) : ∀ (d k i : Nat) (m : Int), i + d = p.length → d < k → m ∈ p → (∀ j : Nat, j < i → rd p (j : Int) ≤ m) →
    ∃ r, slices_Max_int_int.l0 k p m (i : Int) = some r ∧ Top p r := by
  intro d
  induction d with
  | zero =>
    intro k i m hi hk hm hall
    obtain ⟨k, rfl⟩ : ∃ m, k = m + 1 := ⟨k - 1, by omega⟩
    simp only [slices_Max_int_int.l0]
    rw [if_neg (by omega)]
    exact ⟨m, rfl, hm, all_of p (fun q => q ≤ m) (fun j hj => hall j (by omega))⟩
  | succ d ih =>
    intro k i m hi hk hm hall
    obtain ⟨k, rfl⟩ : ∃ m, k = m + 1 := ⟨k - 1, by omega⟩
    simp only [slices_Max_int_int.l0]
    rw [if_pos (by omega), if_pos (by omega), wid (x := (i : Int) + 1) (by omega) (by omega)]
    refine ih k (i + 1) _ (by omega) (by omega) ?_ (fun j hj => ?_)
    · unfold mx; split
      · exact rd_mem p i (by omega)
      · exact hm
    · unfold mx
      by_cases e : j = i
      · subst e; split <;> omega
      · have := hall j (by omega)
        split <;> omega
theorem max_some (p : List Int) (hp : p.length ≤ 1048576) (h0 : 0 < p.length) : ∃ r, Top p r ∧ ∀ k, p.length < k → slices_Max_int_int.f k p = some r := by
  obtain ⟨r, hr, ht⟩ := max_l0 p hp (p.length - 1) (p.length + 1) 1 (rd p ((0 : Nat) : Int)) (by omega) (by omega) (rd_mem p 0 h0) (fun j hj => by (obtain rfl : j = 0 := (by omega)); exact Int.le_refl _)
  refine ⟨r, ht, fun k hk => ?_⟩
  unfold slices_Max_int_int.f
  rw [if_neg (by omega), if_pos (by omega)]
  exact at_rounds (g := fun k => slices_Max_int_int.l0 k p (rd p 0) 1) (fun k => slices_Max_int_int.mono_l k _ _ _) (show p.length + 1 ≤ k by omega) hr
theorem min_l0 (p : List Int) (hp : p.length ≤ 1048576) : ∀ (d k i : Nat) (m : Int), i + d = p.length → d < k → m ∈ p → (∀ j : Nat, j < i → m ≤ rd p (j : Int)) →
    ∃ r, slices_Min_int_int.l0 k p m (i : Int) = some r ∧ Low p r := by
  intro d
  induction d with
  | zero =>
    intro k i m hi hk hm hall
    obtain ⟨k, rfl⟩ : ∃ m, k = m + 1 := ⟨k - 1, by omega⟩
    simp only [slices_Min_int_int.l0]
    rw [if_neg (by omega)]
    exact ⟨m, rfl, hm, all_of p (fun q => m ≤ q) (fun j hj => hall j (by omega))⟩
  | succ d ih =>
    intro k i m hi hk hm hall
    obtain ⟨k, rfl⟩ : ∃ m, k = m + 1 := ⟨k - 1, by omega⟩
    simp only [slices_Min_int_int.l0]
    rw [if_pos (by omega), if_pos (by omega), wid (x := (i : Int) + 1) (by omega) (by omega)]
    refine ih k (i + 1) _ (by omega) (by omega) ?_ (fun j hj => ?_)
    · unfold mn; split
      · exact rd_mem p i (by omega)
      · exact hm
    · unfold mn
      by_cases e : j = i
      · subst e; split <;> omega
      · have := hall j (by omega)
        split <;> omega
theorem min_some (p : List Int) (hp : p.length ≤ 1048576) (h0 : 0 < p.length) : ∃ r, Low p r ∧ ∀ k, p.length < k → slices_Min_int_int.f k p = some r := by
  obtain ⟨r, hr, ht⟩ := min_l0 p hp (p.length - 1) (p.length + 1) 1 (rd p ((0 : Nat) : Int)) (by omega) (by omega) (rd_mem p 0 h0) (fun j hj => by (obtain rfl : j = 0 := (by omega)); exact Int.le_refl _)
  refine ⟨r, ht, fun k hk => ?_⟩
  unfold slices_Min_int_int.f
  rw [if_neg (by omega), if_pos (by omega)]
  exact at_rounds (g := fun k => slices_Min_int_int.l0 k p (rd p 0) 1) (fun k => slices_Min_int_int.mono_l k _ _ _) (show p.length + 1 ≤ k by omega) hr
end Go.Proofs.Ytemmchnfflakmaa.Parts
