/- The program's PutGate answers as the reference's PutGate does, in memory of its own, and leaves its list alone, for all arguments that the law lets in; no condition beside that. -/
import Derived.Test.YtnmbfiembgnakaaY6
import Derived.Test.YtnmbfiembgnakaaYLawInt
import Derived.Test.YtnmbfiembgnakaaYGates
namespace Go.Proofs.Ytnmbfiembgnakaa.Pure
open Go.RowKit Go.Proofs.Ytnmbfiembgnakaa.Y Go.Proofs.YtnmbfiembgnakaaW.PrintWords Go.Proofs.YtnmbfiembgnakaaW.PrintLast Go.Proofs.Ytnmbfiembgnakaa Go.Proofs.Ytnmbfiembgnakaa.Gates
set_option linter.unusedVariables false
set_option linter.unusedSectionVars false
set_option linter.unusedSimpArgs false

/-- The number v put into the list at place j. -/
def S (l : List Int) (v : Int) (j : Nat) : List Int := l.take j ++ v :: l.drop j
theorem S_len (l : List Int) (v : Int) (j : Nat) (h : j ≤ l.length) : (S l v j).length = l.length + 1 := by unfold S; simp; omega
theorem S_get (l : List Int) (v : Int) (j : Nat) (h : j ≤ l.length) (i : Nat) : (S l v j)[i]? = if i < j then l[i]? else if i = j then some v else l[i - 1]? := by
  unfold S
  rw [List.getElem?_append, List.length_take, Nat.min_eq_left h]
  by_cases h1 : i < j
  · rw [if_pos h1, if_pos h1, List.getElem?_take, if_pos h1]
  · rw [if_neg h1, if_neg h1]
    by_cases h2 : i = j
    · subst h2; simp
    · rw [if_neg h2, show i - j = (i - j - 1) + 1 from by omega, List.getElem?_cons_succ, List.getElem?_drop]
      congr 1
      omega
theorem S_lo (l : List Int) (v : Int) (j : Nat) (h : j ≤ l.length) (i : Nat) (hi : i < j) : rd (S l v j) (i : Int) = rd l (i : Int) := by
  rw [rd_nat, rd_nat, List.getD_eq_getElem?_getD, List.getD_eq_getElem?_getD, S_get l v j h, if_pos hi]
theorem S_at (l : List Int) (v : Int) (j : Nat) (h : j ≤ l.length) : rd (S l v j) (j : Int) = v := by
  rw [rd_nat, List.getD_eq_getElem?_getD, S_get l v j h, if_neg (by omega), if_pos rfl]; rfl
theorem S_hi (l : List Int) (v : Int) (j : Nat) (h : j ≤ l.length) (i : Nat) (hi : j < i) : rd (S l v j) (i : Int) = rd l ((i : Int) - 1) := by
  rw [show (i : Int) - 1 = ((i - 1 : Nat) : Int) from by omega, rd_nat, rd_nat, List.getD_eq_getElem?_getD, List.getD_eq_getElem?_getD, S_get l v j h, if_neg (by omega), if_neg (by omega)]
theorem S_swap (l : List Int) (v : Int) (j : Nat) (h : j < l.length) : ((S l v (j + 1)).set (j + 1) (rd l (j : Int))).set j v = S l v j := by
  apply List.ext_getElem?
  intro i
  rw [List.getElem?_set, List.getElem?_set, List.length_set, S_len l v _ (by omega), S_get l v j (by omega), S_get l v (j + 1) (by omega)]
  by_cases h1 : j = i
  · subst h1; simp; omega
  · rw [if_neg h1]
    by_cases h2 : j + 1 = i
    · subst h2
      rw [if_pos rfl, if_pos (by omega), if_neg (by omega), if_neg (by omega), rd_get l j h, show j + 1 - 1 = j from by omega, List.getElem?_eq_getElem h]
    · rw [if_neg h2]
      by_cases h3 : i < j
      · rw [if_pos (by omega), if_pos h3]
      · rw [if_neg (by omega), if_neg (by omega), if_neg h3, if_neg (by omega)]

theorem less (x y : Int) : cmp_Less_int.f x y = some (decide (x < y)) := by
  unfold cmp_Less_int.f cmp_isNaN_int.f
  simp

theorem mono (a : Int) (l : List Int) (h : OK a l) (i : Nat) : ∀ d : Nat, i + d < l.length → rd l (i : Int) ≤ rd l ((i + d : Nat) : Int) := by
  intro d
  induction d with
  | zero => intro _; exact Int.le_refl _
  | succ d ih =>
    intro hd
    have h1 := ih (by omega)
    have h2 := (h.2.2 (i + (d + 1)) (Nat.zero_le _) hd).2.2 (by omega)
    rw [show (((i + (d + 1) : Nat) : Int) - 1) = ((i + d : Nat) : Int) from by omega] at h2
    omega

/-- The place of v. -/
def Place (l : List Int) (v : Int) (p : Nat) : Prop := p ≤ l.length ∧ (∀ j : Nat, j < p → rd l (j : Int) ≤ v) ∧ ∀ j : Nat, p ≤ j → j < l.length → v < rd l (j : Int)
theorem place (a : Int) (l : List Int) (v : Int) (h : OK a l) : ∃ p, Place l v p := by
  have : ∀ m : Nat, m ≤ l.length → (∀ j : Nat, j < m → rd l (j : Int) ≤ v) ∨ ∃ p : Nat, p < m ∧ (∀ j : Nat, j < p → rd l (j : Int) ≤ v) ∧ v < rd l (p : Int) := by
    intro m
    induction m with
    | zero => intro _; exact .inl (fun j hj => by omega)
    | succ m ih =>
      intro hm
      rcases ih (by omega) with h1 | ⟨p, h1, h2, h3⟩
      · by_cases c : rd l (m : Int) ≤ v
        · refine .inl (fun j hj => ?_)
          by_cases e : j = m
          · subst e; exact c
          · exact h1 j (by omega)
        · exact .inr ⟨m, by omega, h1, by omega⟩
      · exact .inr ⟨p, by omega, h2, h3⟩
  rcases this l.length (Nat.le_refl _) with h1 | ⟨p, h1, h2, h3⟩
  · exact ⟨l.length, Nat.le_refl _, h1, fun j hj hj' => by omega⟩
  · refine ⟨p, by omega, h2, fun j hj hj' => ?_⟩
    have := mono a l h p (j - p) (by omega)
    rw [show p + (j - p) = j from by omega] at this
    omega

theorem wrap_small (x : Int) (h0 : 0 ≤ x) (h1 : x ≤ 255) : IntKind.u64.wrap x = x := by
  unfold IntKind.wrap
  simp only [IntKind.bits, IntKind.signed, Bool.false_and, Bool.false_eq_true, if_false]
  omega
theorem len_some (x : Int) (h0 : 0 ≤ x) (h1 : x ≤ 255) : ∃ b, bits_Len.f x = some b := by
  unfold bits_Len.f bits_Len64.f
  rw [if_pos ⟨h0, h1⟩]
  exact ⟨_, rfl⟩
theorem sort_eq (k : Nat) (L : List Int) (h : L.length ≤ 12) : slices_Sort_int_int.f k L = slices_insertionSortOrdered_int.l0 k L 0 (L.length : Int) 1 := by
  obtain ⟨b, hb⟩ := len_some (L.length : Int) (by omega) (by omega)
  unfold slices_Sort_int_int.f
  rw [wrap_small _ (by omega) (by omega), hb, Option.bind_some]
  unfold slices_pdqsortOrdered_int.f
  rw [wid (x := (L.length : Int) - 0) (by omega) (by omega), if_pos (by omega)]
  unfold slices_insertionSortOrdered_int.f
  rw [wid (x := (0 : Int) + 1) (by omega) (by omega), Int.zero_add]
  cases slices_insertionSortOrdered_int.l0 k L 0 (L.length : Int) 1 <;> rfl
section
variable (a v : Int) (l : List Int) (h : OK a l) (p : Nat) (hp : Place l v p)
include h hp
theorem sort_l1 : ∀ (d k j : Nat), j = p + d → d + 2 < k → j ≤ l.length → slices_insertionSortOrdered_int.l1 k (S l v j) 0 ((l.length + 1 : Nat) : Int) (l.length : Int) (j : Int) = some (S l v p) := by
  have hlen := h.2.1
  intro d
  induction d with
  | zero =>
    intro k j hj hk hjl
    obtain ⟨k, rfl⟩ : ∃ m, k = m + 2 := ⟨k - 2, by omega⟩
    obtain rfl : j = p := by omega
    have hS := S_len l v j hjl
    simp only [slices_insertionSortOrdered_int.l1, slices_insertionSortOrdered_int.l0]
    rw [wid (x := (l.length : Int) + 1) (by omega) (by omega), wid (x := (j : Int) - 1) (by omega) (by omega), if_neg (show ¬ (l.length : Int) + 1 < ((l.length + 1 : Nat) : Int) by omega)]
    by_cases c : (j : Int) > 0
    · have e1 : rd (S l v j) ((j : Int) - 1) = rd l ((j - 1 : Nat) : Int) := by
        rw [show (j : Int) - 1 = ((j - 1 : Nat) : Int) from by omega]
        exact S_lo l v j hjl (j - 1) (by omega)
      have := hp.2.1 (j - 1) (by omega)
      rw [if_pos c, if_pos (by omega), if_pos (by omega), if_pos (by omega), if_pos (by omega), less, S_at l v j hjl, e1, decide_eq_false (by omega)]
      simp
    · rw [if_neg c]
  | succ d ih =>
    intro k j hj hk hjl
    obtain ⟨k, rfl⟩ : ∃ m, k = m + 1 := ⟨k - 1, by omega⟩
    obtain ⟨i, rfl⟩ : ∃ i, j = i + 1 := ⟨j - 1, by omega⟩
    have hS := S_len l v (i + 1) hjl
    have e0 : ((i + 1 : Nat) : Int) - 1 = (i : Int) := by omega
    have := hp.2.2 i (by omega) (by omega)
    simp only [slices_insertionSortOrdered_int.l1]
    rw [wid (x := ((i + 1 : Nat) : Int) - 1) (by omega) (by omega), e0, if_pos (by omega), if_pos (by omega), if_pos (by omega), if_pos (by omega), if_pos (by omega), less, S_at l v (i + 1) hjl, S_lo l v (i + 1) hjl i (by omega), decide_eq_true (by omega)]
    simp only [Option.bind_some, if_true, Int.toNat_natCast]
    rw [S_swap l v i (by omega)]
    exact ih k i (by omega) (by omega) (by omega)
theorem sort_l0 : ∀ (d k i : Nat), i + d = l.length → 2 * d + l.length + 5 < k → 0 < i → slices_insertionSortOrdered_int.l0 k (S l v l.length) 0 ((l.length + 1 : Nat) : Int) (i : Int) = some (S l v p) := by
  have hlen := h.2.1
  have hS := S_len l v l.length (Nat.le_refl _)
  intro d
  induction d with
  | zero =>
    intro k i hi hk h0
    obtain ⟨k, rfl⟩ : ∃ m, k = m + 1 := ⟨k - 1, by omega⟩
    obtain rfl : i = l.length := by omega
    simp only [slices_insertionSortOrdered_int.l0]
    rw [if_pos (by omega)]
    exact sort_l1 a v l h p hp (l.length - p) k l.length (by have := hp.1; omega) (by omega) (Nat.le_refl _)
  | succ d ih =>
    intro k i hi hk h0
    obtain ⟨k, rfl⟩ : ∃ m, k = m + 2 := ⟨k - 2, by omega⟩
    have e1 : rd (S l v l.length) ((i : Int) - 1) = rd l ((i : Int) - 1) := by
      rw [show (i : Int) - 1 = ((i - 1 : Nat) : Int) from by omega]
      exact S_lo l v l.length (Nat.le_refl _) (i - 1) (by omega)
    have := (h.2.2 i (Nat.zero_le _) (by omega)).2.2 h0
    simp only [slices_insertionSortOrdered_int.l0, slices_insertionSortOrdered_int.l1]
    rw [wid (x := (i : Int) - 1) (by omega) (by omega), wid (x := (i : Int) + 1) (by omega) (by omega), if_pos (by omega), if_pos (by omega), if_pos (by omega), if_pos (by omega), if_pos (by omega), if_pos (by omega), less, e1, S_lo l v l.length (Nat.le_refl _) i (by omega), decide_eq_false (by omega)]
    simp only [Option.bind_some]
    rw [if_neg (by simp)]
    exact ih k (i + 1) (by omega) (by omega) (by omega)
theorem sort1 (k : Nat) (hk : 3 * l.length + 20 ≤ k) : slices_insertionSortOrdered_int.l0 k (S l v l.length) 0 ((l.length + 1 : Nat) : Int) 1 = some (S l v p) := by
  by_cases c : l.length = 0
  · obtain ⟨k, rfl⟩ : ∃ m, k = m + 1 := ⟨k - 1, by omega⟩
    have := hp.1
    have e : p = l.length := by omega
    subst e
    simp only [slices_insertionSortOrdered_int.l0]
    rw [if_neg (by omega)]
  · exact sort_l0 a v l h p hp (l.length - 1) k 1 (by omega) (by omega) (by omega)
theorem sort : ∃ K, ∀ k, K ≤ k → slices_Sort_int_int.f k (l ++ [v]) = some (S l v p) := by
  have hlen := h.2.1
  have eS : l ++ [v] = S l v l.length := by unfold S; simp
  have hS := S_len l v l.length (Nat.le_refl _)
  refine ⟨3 * l.length + 20, fun k hk => ?_⟩
  rw [eS, sort_eq k _ (by omega), hS]
  exact sort1 a v l h p hp k hk

theorem take_S (i : Nat) (hi : i ≤ l.length) : (S l v p).take (i + 1) = (S l v p).take i ++ [rd (S l v p) (i : Int)] := by
  have hS := S_len l v p hp.1
  rw [List.take_add_one, List.getElem?_eq_getElem (by omega), rd_get _ i (by omega)]
  rfl
theorem spec_t : ∀ (d k i : Nat), i + d = l.length → d < k → p < i → spec_PutGate.l0 k v ((S l v p).take (i + 1)) true l (l.length : Int) (i : Int) = some (S l v p, true) := by
  have hlen := h.2.1
  have hS := S_len l v p hp.1
  intro d
  induction d with
  | zero =>
    intro k i hi hk h0
    obtain ⟨k, rfl⟩ : ∃ m, k = m + 1 := ⟨k - 1, by omega⟩
    simp only [spec_PutGate.l0]
    rw [if_neg (by omega), if_pos trivial, List.take_of_length_le (by omega)]
  | succ d ih =>
    intro k i hi hk h0
    obtain ⟨k, rfl⟩ : ∃ m, k = m + 1 := ⟨k - 1, by omega⟩
    have e : rd (S l v p) ((i + 1 : Nat) : Int) = rd l (i : Int) := by
      rw [S_hi l v p hp.1 (i + 1) (by omega), show ((i + 1 : Nat) : Int) - 1 = (i : Int) from by omega]
    have e2 := take_S a v l h p hp (i + 1) (by omega)
    rw [e] at e2
    simp only [spec_PutGate.l0]
    rw [if_pos (by omega), if_pos (by omega), if_pos (by omega), if_pos trivial, if_pos (by rw [List.length_take]; omega), wid (x := (i : Int) + 1) (by omega) (by omega), ← e2]
    exact ih k (i + 1) (by omega) (by omega) (by omega)
theorem spec_f : ∀ (d k i : Nat), i + d = l.length → d < k → i ≤ p → spec_PutGate.l0 k v ((S l v p).take i) false l (l.length : Int) (i : Int) = some (S l v p, true) := by
  have hlen := h.2.1
  have hS := S_len l v p hp.1
  intro d
  induction d with
  | zero =>
    intro k i hi hk h0
    obtain ⟨k, rfl⟩ : ∃ m, k = m + 1 := ⟨k - 1, by omega⟩
    have := hp.1
    obtain rfl : i = p := by omega
    have e2 := take_S a v l h i hp i (by omega)
    rw [S_at l v i hp.1, List.take_of_length_le (by omega)] at e2
    simp only [spec_PutGate.l0]
    rw [if_neg (by omega), if_neg (by simp), if_pos (by rw [List.length_take]; omega), ← e2]
  | succ d ih =>
    intro k i hi hk h0
    obtain ⟨k, rfl⟩ : ∃ m, k = m + 1 := ⟨k - 1, by omega⟩
    have e2 := take_S a v l h p hp i (by omega)
    simp only [spec_PutGate.l0]
    rw [if_pos (by omega), if_pos (by omega), if_pos (by omega), if_neg (by simp), wid (x := (i : Int) + 1) (by omega) (by omega)]
    by_cases c : i = p
    · subst c
      have := hp.2.2 i (Nat.le_refl _) (by omega)
      rw [S_at l v i hp.1] at e2
      have e3 := take_S a v l h i hp (i + 1) (by omega)
      have e : rd (S l v i) ((i + 1 : Nat) : Int) = rd l (i : Int) := by
        rw [S_hi l v i hp.1 (i + 1) (by omega), show ((i + 1 : Nat) : Int) - 1 = (i : Int) from by omega]
      rw [e] at e3
      rw [if_pos (by omega), if_pos (by rw [List.length_take]; omega)]
      simp only [Option.bind_some]
      rw [← e2, if_pos (by rw [List.length_take]; omega), ← e3]
      exact spec_t a v l h i hp d k (i + 1) (by omega) (by omega) (by omega)
    · have := hp.2.1 i (by omega)
      rw [S_lo l v p hp.1 i (by omega)] at e2
      rw [if_neg (by omega), if_pos (by rw [List.length_take]; omega), ← e2]
      exact ih k (i + 1) (by omega) (by omega) (by omega)

theorem ok_S : OK a (S l v p) ↔ (1 ≤ v ∧ v ≤ a - 1) ∧ l.length ≤ 9 ∧ ∀ j : Nat, j < l.length → rd l (j : Int) ≠ v := by
  have hS := S_len l v p hp.1
  have hlen := hp.1
  constructor
  · intro hk
    have h1 := hk.2.2 p (Nat.zero_le _) (by omega)
    rw [S_at l v p hp.1] at h1
    refine ⟨⟨h1.1, h1.2.1⟩, by have := hk.2.1; omega, fun j hj e => ?_⟩
    by_cases c : j < p
    · have h2 := h1.2.2 (by omega)
      rw [show (p : Int) - 1 = ((p - 1 : Nat) : Int) from by omega, S_lo l v p hp.1 (p - 1) (by omega)] at h2
      have h3 := mono a l h j (p - 1 - j) (by omega)
      rw [show j + (p - 1 - j) = p - 1 from by omega] at h3
      omega
    · have := hp.2.2 j (by omega) hj
      omega
  · rintro ⟨h1, h2, h3⟩
    refine ⟨h.1, by omega, fun j _ hj => ?_⟩
    rcases Nat.lt_trichotomy j p with c | c | c
    · have := h.2.2 j (Nat.zero_le _) (by omega)
      rw [S_lo l v p hp.1 j c]
      refine ⟨this.1, this.2.1, fun h0 => ?_⟩
      have e : rd (S l v p) ((j : Int) - 1) = rd l ((j : Int) - 1) := by
        rw [show (j : Int) - 1 = ((j - 1 : Nat) : Int) from by omega]
        exact S_lo l v p hp.1 (j - 1) (by omega)
      rw [e]
      exact this.2.2 h0
    · subst c
      rw [S_at l v j hp.1]
      refine ⟨h1.1, h1.2, fun h0 => ?_⟩
      rw [show (j : Int) - 1 = ((j - 1 : Nat) : Int) from by omega, S_lo l v j hp.1 (j - 1) (by omega)]
      have := hp.2.1 (j - 1) (by omega)
      have := h3 (j - 1) (by omega)
      omega
    · rw [S_hi l v p hp.1 j c]
      have t := h.2.2 (j - 1) (Nat.zero_le _) (by omega)
      rw [show (j : Int) - 1 = ((j - 1 : Nat) : Int) from by omega]
      refine ⟨t.1, t.2.1, fun h0 => ?_⟩
      by_cases e : j - 1 = p
      · rw [e, S_at l v p hp.1]
        exact hp.2.2 p (Nat.le_refl _) (by omega)
      · rw [S_hi l v p hp.1 (j - 1) (by omega)]
        exact t.2.2 (by omega)
end

theorem has_l0 (l : List Int) (v : Int) (hl : l.length ≤ 1048576) : ∀ (d k i : Nat), i + d = l.length → d < k → ∃ b, spec_l1Has.l0 k v l (l.length : Int) (i : Int) = some b ∧ (b = true ↔ ∃ j : Nat, i ≤ j ∧ j < l.length ∧ rd l (j : Int) = v) := by
  intro d
  induction d with
  | zero =>
    intro k i hi hk
    obtain ⟨k, rfl⟩ : ∃ m, k = m + 1 := ⟨k - 1, by omega⟩
    simp only [spec_l1Has.l0]
    rw [if_neg (by omega)]
    exact ⟨false, rfl, by simp; intro j h1 h2; omega⟩
  | succ d ih =>
    intro k i hi hk
    obtain ⟨k, rfl⟩ : ∃ m, k = m + 1 := ⟨k - 1, by omega⟩
    simp only [spec_l1Has.l0]
    rw [if_pos (by omega), if_pos (by omega), if_pos (by omega)]
    by_cases c : rd l (i : Int) = v
    · rw [if_pos c]
      exact ⟨true, rfl, by simp; exact ⟨i, Nat.le_refl _, by omega, c⟩⟩
    · rw [if_neg c, wid (x := (i : Int) + 1) (by omega) (by omega)]
      obtain ⟨b, hb, hiff⟩ := ih k (i + 1) (by omega) (by omega)
      refine ⟨b, hb, hiff.trans ⟨fun ⟨j, h1, h2, h3⟩ => ⟨j, by omega, h2, h3⟩, fun ⟨j, h1, h2, h3⟩ => ⟨j, ?_, h2, h3⟩⟩⟩
      by_cases e : j = i
      · subst e; exact absurd h3 c
      · omega

theorem core (a : Int) (l : List Int) (v : Int) (hl : l.length ≤ 1048576) : ∃ K r, l.length < K ∧ r.1.length ≤ 1048576 ∧ r.1.length < K ∧ spec_PutGate.f K a l v = some r ∧ impl_PutGate.f K a l v = some r := by
  obtain ⟨b, hb, hg⟩ := gates a l hl
  cases b with
  | false =>
    obtain ⟨g1, g2⟩ := hg (l.length + 20) (by omega)
    refine ⟨l.length + 20, ([], false), by omega, by simp, by simp, ?_, ?_⟩
    · unfold spec_PutGate.f
      rw [g1]
      rfl
    · unfold impl_PutGate.f
      rw [g2]
      rfl
  | true =>
    have ok := hb.1 rfl
    have hlen := ok.2.1
    have ha := ok.1
    obtain ⟨p, hp⟩ := place a l v ok
    obtain ⟨K, hK⟩ := sort a v l ok p hp
    have hS := S_len l v p hp.1
    obtain ⟨b', hb', hg'⟩ := gates a (S l v p) (by omega)
    obtain ⟨g1, g2⟩ := hg (K + 1 + l.length + 20) (by omega)
    obtain ⟨_, g4⟩ := hg' (K + 1 + l.length + 20) (by omega)
    have hi : impl_PutGate.f (K + 1 + l.length + 20) a l v = some (if b' = true then (S l v p, true) else ([], false)) := by
      unfold impl_PutGate.f
      rw [g2]
      simp only [Option.bind_some, if_true]
      unfold slices_Clone_int_int.f
      rw [if_pos (by omega)]
      simp only [Option.bind_some]
      rw [if_pos (by omega), hK _ (by omega)]
      simp only [Option.bind_some]
      rw [g4]
      cases b' <;> rfl
    refine ⟨K + 1 + l.length + 20, _, by omega, ?_, ?_, ?_, hi⟩
    · cases b'
      · simp
      · show (S l v p).length ≤ _; omega
    · cases b'
      · simp
      · show (S l v p).length < _; omega
    · have hiff := hb'.trans (ok_S a v l ok p hp)
      unfold spec_PutGate.f
      rw [g1]
      simp only [Option.bind_some, if_true]
      rw [in_some, wid (x := a - 1) (by omega) (by omega)]
      simp only [Option.bind_some]
      have bf : ¬ (b' = true) → (if b' = true then (S l v p, true) else ([], false)) = (([] : List Int), false) := fun e => if_neg e
      by_cases c : 1 ≤ v ∧ v ≤ a - 1
      · rw [decide_eq_true c, if_pos rfl]
        obtain ⟨b2, e2, i2⟩ := has_l0 l v hl l.length (K + 1 + l.length + 20) 0 (by omega) (by omega)
        have e2' : spec_l1Has.f (K + 1 + l.length + 20) l v = some b2 := e2
        rw [e2']
        simp only [Option.bind_some]
        cases b2 with
        | true =>
          obtain ⟨j, _, j1, j2⟩ := i2.1 rfl
          rw [if_pos rfl, bf (fun e => (hiff.1 e).2.2 j j1 j2)]
          rfl
        | false =>
          rw [if_neg (by simp)]
          have no : ∀ j : Nat, j < l.length → rd l (j : Int) ≠ v := fun j hj e => by
            have := i2.2 ⟨j, Nat.zero_le _, hj, e⟩
            cases this
          by_cases c10 : l.length = 10
          · rw [bf (fun e => by have := (hiff.1 e).2.1; omega), show ((l.length : Int) == 10) = true from by rw [c10]; rfl]
            rfl
          · rw [hiff.2 ⟨c, by omega, no⟩, show ((l.length : Int) == 10) = false from by simp; omega]
            have := spec_f a v l ok p hp l.length (K + 1 + l.length + 19) 0 (by omega) (by omega) (Nat.zero_le _)
            simp only [List.take_zero] at this
            rw [show K + 1 + l.length + 20 = (K + 1 + l.length + 19) + 1 from rfl]
            simp only [spec_PutGate.j0]
            rw [if_neg (by simp), if_pos trivial]
            exact this
      · rw [decide_eq_false c, if_neg (by simp), bf (fun e => c (hiff.1 e).1)]
        rfl

theorem PutGate_law (a : Int) (l : List Int) (v : Int) (K : Nat) (r : List Int × Bool) (hl : l.length ≤ 1048576) (kl : l.length < K) (hr : r.1.length ≤ 1048576) (kr : r.1.length < K) (hs : spec_PutGate.f K a l v = some r) (hi : impl_PutGate.f K a l v = some r) : ∃ k, laws_FnExactPutGate.f k a l v = some true := by
  have hTl : ∀ j, laws_toIntS.f (K + j) l = some l := fun j => LawInt.toIntS l hl _ (by omega)
  have hEl : ∀ j, laws_eqIntS.f (K + j) l l = some true := fun j => LawInt.eqIntS l hl _ (by omega)
  obtain ⟨yl, hMl0, _⟩ := LawInt.marked l hl
  have hMl : ∀ j, laws_markIntS.f (K + j) l 1 = some (1 + (l.length : Int), yl) := fun j => hMl0 _ (by omega)
  have nl : ¬ (1 + (l.length : Int)) < 0 := by omega
  have hs' : ∀ j, spec_PutGate.f (K + j) a l v = some r := fun j => at_rounds (g := fun k => spec_PutGate.f k a l v) (spec_PutGate.mono a l v) (Nat.le_add_right K j) hs
  have hi' : ∀ j, impl_PutGate.f (K + j) a l v = some r := fun j => at_rounds (g := fun k => impl_PutGate.f k a l v) (impl_PutGate.mono a l v) (Nat.le_add_right K j) hi
  have hE : ∀ j, laws_eqIntS.f (K + j) r.1 r.1 = some true := fun j => LawInt.eqIntS r.1 hr _ (by omega)
  obtain ⟨y, hM0, hH0⟩ := LawInt.marked r.1 hr
  have hM : ∀ j, laws_markIntS.f (K + j) r.1 1 = some (1 + (r.1.length : Int), y) := fun j => hM0 _ (by omega)
  have hH : ∀ j, laws_heldIntS.f (K + j) y 1 = some (1 + (r.1.length : Int)) := fun j => hH0 _ (by omega)
  have n0 : ¬ (1 + (r.1.length : Int)) < 0 := by omega
  refine ⟨K + 20, ?_⟩
  unfold laws_FnExactPutGate.f
  rw [if_neg (by omega)]
  simp [hTl, hEl, hMl, nl, hs', hi', hE, hM, hH, n0, laws_FnExactPutGate.j0, laws_FnExactPutGate.j1, laws_FnExactPutGate.j2]

theorem FnExactPutGate : laws_FnExactPutGate.Pure := by
  intro a l v _ _ _ _ _
  by_cases hl : (l.length : Int) > 1048576
  · refine ⟨0, ?_⟩
    unfold laws_FnExactPutGate.f
    rw [if_pos hl]
  · obtain ⟨K, r, hK, hr, kr, hs, hi⟩ := core a l v (by omega)
    exact PutGate_law a l v K r (by omega) hK hr kr hs hi
end Go.Proofs.Ytnmbfiembgnakaa.Pure
