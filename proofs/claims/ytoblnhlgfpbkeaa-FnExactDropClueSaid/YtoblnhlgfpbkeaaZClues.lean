/- Lists of clues: the laws' own helpers (sizes, copies, comparisons, marks), and whether there is a puzzle, as the program and as the reference ask; plain lemmas, no condition beside those named. -/
import Derived.Test.YtoblnhlgfpbkeaaZ1
import Derived.Test.YtoblnhlgfpbkeaaZ2
import Derived.Test.YtoblnhlgfpbkeaaZ3
import Derived.Test.YtoblnhlgfpbkeaaZ5
namespace Go.Proofs.Ytoblnhlgfpbkeaa.Clues
open Go.RowKit Go.Proofs.Ytoblnhlgfpbkeaa.Z Go.Proofs.YtoblnhlgfpbkeaaW.PrintWords Go.Proofs.YtoblnhlgfpbkeaaW.PrintLast
set_option linter.unusedVariables false
set_option linter.unusedSimpArgs false

theorem wid {x : Int} (h0 : -9223372036854775808 ≤ x) (h1 : x ≤ 9223372036854775807) : wrap64 x = x := by unfold wrap64; omega
theorem within_some (a b c : Int) : impl_within.f a b c = some (decide (b ≤ a ∧ a ≤ c)) := by
  unfold impl_within.f
  by_cases h : a ≥ b
  · rw [if_pos h]; congr 1; simp [show b ≤ a from h]
  · rw [if_neg h]; congr 1; simp [show ¬ b ≤ a from h]
theorem in_some (a b c : Int) : spec_l1In.f a b c = some (decide (b ≤ a ∧ a ≤ c)) := by
  unfold spec_l1In.f
  by_cases h : a ≥ b
  · rw [if_pos h]; congr 1; simp [show b ≤ a from h]
  · rw [if_neg h]; congr 1; simp [show ¬ b ≤ a from h]
theorem get34 (l : List S34) (i : Nat) (h : i < l.length) : rd_T34 l (i : Int) = l[i] := by
  unfold rd_T34; rw [Int.toNat_natCast, List.getD_eq_getElem?_getD, List.getElem?_eq_getElem h]; rfl
theorem get37 (l : List S37) (i : Nat) (h : i < l.length) : rd_T37 l (i : Int) = l[i] := by
  unfold rd_T37; rw [Int.toNat_natCast, List.getD_eq_getElem?_getD, List.getElem?_eq_getElem h]; rfl
/-- The clues of the program's own type. -/
def conv (l : List S34) : List S37 := l.map fun x => ⟨x.f0, x.f1, x.f2⟩
theorem conv_length (l : List S34) : (conv l).length = l.length := by unfold conv; simp

theorem to_l0 (l : List S34) (hl : l.length ≤ 1048576) : ∀ (d k i : Nat) (y : List S37), i + d = l.length → d < k → y.length = l.length → (∀ j, j < i → y[j]? = (conv l)[j]?) →
    laws_toClueS.l0 k l y (i : Int) = some (conv l) := by
  intro d
  have hc := conv_length l
  induction d with
  | zero =>
    intro k i y hi hk hy he
    obtain ⟨k, rfl⟩ : ∃ m, k = m + 1 := ⟨k - 1, by omega⟩
    simp only [laws_toClueS.l0]
    rw [if_neg (by omega)]
    congr 1
    apply List.ext_getElem?
    intro j
    by_cases hj : j < i
    · exact he j hj
    · rw [List.getElem?_eq_none (by omega), List.getElem?_eq_none (by omega)]
  | succ d ih =>
    intro k i y hi hk hy he
    obtain ⟨k, rfl⟩ : ∃ m, k = m + 1 := ⟨k - 1, by omega⟩
    simp only [laws_toClueS.l0, laws_toClue.f, Option.bind_some]
    rw [if_pos (by omega), if_pos (by omega), if_pos (by omega), wid (x := (i : Int) + 1) (by omega) (by omega), Int.toNat_natCast]
    refine ih k (i + 1) _ (by omega) (by omega) (by rw [List.length_set]; exact hy) ?_
    intro j hj
    rw [List.getElem?_set]
    by_cases e : i = j
    · subst e
      rw [if_pos rfl, if_pos (by omega), get34 l i (by omega)]
      unfold conv
      rw [List.getElem?_map, List.getElem?_eq_getElem (by omega)]
      rfl
    · rw [if_neg e]
      exact he j (by omega)
theorem toP (b : Int) (l : List S34) (hl : l.length ≤ 1048576) (k : Nat) (hk : l.length < k) : laws_toPuzzle.f k b l = some (b, conv l) := by
  unfold laws_toPuzzle.f laws_toClueS.f
  have := to_l0 l hl l.length k 0 (List.replicate l.length z37) (by omega) hk (by simp) (by intro j hj; omega)
  rw [show ((0 : Nat) : Int) = 0 from rfl] at this
  rw [if_pos (by omega), Int.toNat_natCast, if_pos (by omega), this]
  rfl

theorem eq_l0 (l : List S37) (hl : l.length ≤ 1048576) : ∀ (d k i : Nat), i + d = l.length → d < k → laws_eqClueS.l0 k l l (i : Int) = some true := by
  intro d
  induction d with
  | zero =>
    intro k i hi hk
    obtain ⟨k, rfl⟩ : ∃ m, k = m + 1 := ⟨k - 1, by omega⟩
    simp only [laws_eqClueS.l0]
    rw [if_neg (by omega)]
  | succ d ih =>
    intro k i hi hk
    obtain ⟨k, rfl⟩ : ∃ m, k = m + 1 := ⟨k - 1, by omega⟩
    simp only [laws_eqClueS.l0, laws_eqClue.f, if_true, Option.bind_some]
    rw [if_pos (by omega), if_pos (by omega), if_pos (by omega), wid (x := (i : Int) + 1) (by omega) (by omega)]
    exact ih k (i + 1) (by omega) (by omega)
theorem eqP (b : Int) (l : List S37) (hl : l.length ≤ 1048576) (k : Nat) (hk : l.length < k) : laws_eqPuzzle.f k b l b l = some true := by
  unfold laws_eqPuzzle.f laws_eqClueS.f
  have := eq_l0 l hl l.length k 0 (by omega) hk
  rw [show ((0 : Nat) : Int) = 0 from rfl] at this
  rw [if_pos rfl, if_pos rfl, this]
  rfl

/-- The law's own bound: the law answers at once, or the list is small. -/
theorem sized (b : Int) (l : List S34) (hm : l.length ≤ 9223372036854775807) : ∃ r, (r < 0 ∨ l.length ≤ 1048576 ∧ ¬ r < 0) ∧ laws_szPuzzle.f b l 1048576 = some r := by
  unfold laws_szPuzzle.f laws_szClueS.f
  rw [wid (x := 1048576 - (l.length : Int)) (by omega) (by omega)]
  by_cases h : (1048576 : Int) - (l.length : Int) < 0
  · refine ⟨-1, .inl (by omega), ?_⟩
    rw [if_pos h]
    rfl
  · refine ⟨1048576 - (l.length : Int), .inr ⟨by omega, h⟩, ?_⟩
    rw [if_neg h, Option.bind_some, if_neg h]

/-- What a clue is, of so many boards. -/
theorem clue (a K A B : Int) (h : 2 ≤ a ∧ a ≤ 5) (k : Nat) : ∃ b, spec_pzClue.f (k + 2) a K A B = some b ∧ ((impl_within.f B 0 5).bind fun t => impl_IsClue.j0 (k + 3) a (!t) K A B) = some b := by
  unfold spec_pzClue.f
  rw [in_some, within_some]
  simp only [Option.bind_some]
  by_cases hB : 0 ≤ B ∧ B ≤ 5
  · rw [decide_eq_true hB, if_pos rfl]
    simp only [impl_IsClue.j0, Bool.not_true]
    rw [if_neg Bool.false_ne_true]
    by_cases h0 : K = 0
    · subst h0
      simp [spec_pzClue.j0, impl_IsClue.j1]
    · rw [if_neg h0, if_neg h0]
      by_cases h2 : K = 2
      · subst h2
        simp [spec_pzClue.j0, impl_IsClue.j1]
      · rw [if_neg h2, if_neg h2]
        by_cases h5 : K = 5
        · subst h5
          simp [spec_pzClue.j0, impl_IsClue.j1]
        · rw [beq_eq_false_iff_ne.2 h5]
          simp only [spec_pzClue.j0, impl_IsClue.j1]
          rw [if_neg Bool.false_ne_true, if_neg Bool.false_ne_true, in_some, in_some, in_some, in_some, within_some, within_some, within_some, within_some, wid (x := a - 1) (by omega) (by omega), wid (x := a - 2) (by omega) (by omega)]
          simp only [Option.bind_some]
          have e : decide (B < 2) = decide (B ≤ 1) := by
            by_cases q : B ≤ 1
            · rw [decide_eq_true q, decide_eq_true (by omega)]
            · rw [decide_eq_false q, decide_eq_false (by omega)]
          rw [e]
          repeat' split
          all_goals exact ⟨_, rfl, rfl⟩
  · rw [decide_eq_false hB, if_neg (by simp)]
    exact ⟨false, rfl, by simp [impl_IsClue.j0]⟩
theorem boards (a : Int) : spec_pzBoards.f a = some (decide (2 ≤ a ∧ a ≤ 5)) ∧ impl_isHiddenSize.f a = some (decide (2 ≤ a ∧ a ≤ 5)) := by
  unfold spec_pzBoards.f impl_isHiddenSize.f
  rw [in_some, within_some]
  exact ⟨rfl, rfl⟩
theorem clue_mono (a K A B : Int) {k k' : Nat} {r : Bool} (h : k ≤ k') (e : spec_pzClue.f k a K A B = some r) : spec_pzClue.f k' a K A B = some r :=
  at_rounds (g := fun k => spec_pzClue.f k a K A B) (spec_pzClue.mono a K A B) h e
theorem is_mono (a K A B : Int) {k k' : Nat} {r : Bool} (h : k ≤ k') (e : impl_IsClue.f k a K A B = some r) : impl_IsClue.f k' a K A B = some r :=
  at_rounds (g := fun k => impl_IsClue.f k a K A B) (impl_IsClue.mono a K A B) h e
theorem one (a : Int) (h : 2 ≤ a ∧ a ≤ 5) (x : S37) (k : Nat) (hk : 5 ≤ k) : spec_pzClue.f k a x.f0 x.f1 x.f2 = some (impl_IsPuzzle.cl a x) ∧ impl_IsClue.f k a x.f0 x.f1 x.f2 = some (impl_IsPuzzle.cl a x) := by
  obtain ⟨b, h1, h2⟩ := clue a x.f0 x.f1 x.f2 h 2
  have h3 : impl_IsClue.f 5 a x.f0 x.f1 x.f2 = some b := by
    unfold impl_IsClue.f
    rw [(boards a).2, decide_eq_true h, Option.bind_some, if_pos rfl]
    exact h2
  have e := (impl_IsPuzzle.cl_f a x).symm.trans h3
  rw [Option.some.inj e]
  exact ⟨clue_mono _ _ _ _ (by omega) h1, is_mono _ _ _ _ hk h3⟩

theorem good_l0 (a : Int) (h : 2 ≤ a ∧ a ≤ 5) (L : List S37) (hl : L.length ≤ 1048576) : ∀ (d k i : Nat), i + d = L.length → d + 6 < k →
    spec_pzGood.l0 k L (L.length : Int) (i : Int) a L = some ((L.drop i).all (impl_IsPuzzle.cl a)) := by
  intro d
  induction d with
  | zero =>
    intro k i hi hk
    obtain ⟨k, rfl⟩ : ∃ m, k = m + 1 := ⟨k - 1, by omega⟩
    simp only [spec_pzGood.l0]
    rw [if_neg (by omega), List.drop_of_length_le (by omega)]
    rfl
  | succ d ih =>
    intro k i hi hk
    obtain ⟨k, rfl⟩ : ∃ m, k = m + 1 := ⟨k - 1, by omega⟩
    simp only [spec_pzGood.l0]
    rw [if_pos (by omega), if_pos (by omega), if_pos (by omega), List.drop_eq_getElem_cons (by omega), List.all_cons, get37 L i (by omega), wid (x := (i : Int) + 1) (by omega) (by omega), (one a h L[i] k (by omega)).1]
    simp only [Option.bind_some]
    cases impl_IsPuzzle.cl a L[i] with
    | false => rfl
    | true =>
      rw [if_pos rfl]
      exact ih k (i + 1) (by omega) (by omega)
/-- Whether there is a puzzle: the two say the same, and what follows from a yes. -/
theorem good (a : Int) (L : List S37) (hl : L.length ≤ 1048576) : ∃ b : Bool, impl_IsPuzzle.f a L = some b ∧ (b = true → (2 ≤ a ∧ a ≤ 5) ∧ L.length ≤ 6) ∧ ∀ k, L.length + 50 < k → spec_pzGood.f k a L = some b := by
  unfold impl_IsPuzzle.f spec_pzGood.f
  rw [(boards a).1, (boards a).2]
  simp only [Option.bind_some]
  by_cases h : 2 ≤ a ∧ a ≤ 5
  · rw [decide_eq_true h]
    simp only [if_true]
    by_cases h6 : (L.length : Int) ≤ 6
    · rw [if_pos h6]
      refine ⟨_, rfl, fun _ => ⟨h, by omega⟩, fun k hk => ?_⟩
      obtain ⟨k, rfl⟩ : ∃ m, k = m + 1 := ⟨k - 1, by omega⟩
      rw [decide_eq_false (by omega)]
      simp only [spec_pzGood.j0]
      rw [if_neg (by simp)]
      have := good_l0 a h L hl L.length k 0 (by omega) (by omega)
      rw [List.drop_zero] at this
      exact this
    · rw [if_neg h6]
      refine ⟨_, rfl, by simp, fun k hk => ?_⟩
      obtain ⟨k, rfl⟩ : ∃ m, k = m + 1 := ⟨k - 1, by omega⟩
      rw [decide_eq_true (by omega)]
      rfl
  · rw [decide_eq_false h]
    refine ⟨false, by simp, by simp, fun k hk => ?_⟩
    obtain ⟨k, rfl⟩ : ∃ m, k = m + 1 := ⟨k - 1, by omega⟩
    rfl
def M (i : Nat) : S37 := ⟨1 + 3 * (i : Int), 2 + 3 * (i : Int), 3 + 3 * (i : Int)⟩
theorem mark_l0 (n : Nat) (hn : n ≤ 1048576) : ∀ (d k i : Nat) (x : List S37), i + d = n → d < k → x.length = n → (∀ j, j < i → x[j]? = some (M j)) →
    ∃ y, y.length = n ∧ (∀ j, j < n → y[j]? = some (M j)) ∧ laws_markClueS.l0 k x (1 + 3 * (i : Int)) (i : Int) = some (1 + 3 * (n : Int), y) := by
  intro d
  induction d with
  | zero =>
    intro k i x hi hk hx he
    obtain ⟨k, rfl⟩ : ∃ m, k = m + 1 := ⟨k - 1, by omega⟩
    simp only [laws_markClueS.l0]
    rw [if_neg (by omega), show i = n from by omega] at *
    exact ⟨x, hx, he, rfl⟩
  | succ d ih =>
    intro k i x hi hk hx he
    obtain ⟨k, rfl⟩ : ∃ m, k = m + 1 := ⟨k - 1, by omega⟩
    simp only [laws_markClueS.l0]
    have g : ∀ (z : List S37) (v : S37), z.length = n → rd_T37 (z.set i v) (i : Int) = v := fun z v hz => by
      rw [get37 _ i (by rw [List.length_set]; omega), List.getElem_set_self]
    rw [if_pos (by omega), if_pos (by omega), Int.toNat_natCast, Option.bind_some, Option.bind_some]
    simp only [List.set_set, fun v => g x v hx]
    rw [wid (x := (i : Int) + 1) (by omega) (by omega), wid (x := 1 + 3 * (i : Int) + 1) (by omega) (by omega), wid (x := 1 + 3 * (i : Int) + 1 + 1) (by omega) (by omega), wid (x := 1 + 3 * (i : Int) + 1 + 1 + 1) (by omega) (by omega), show 1 + 3 * (i : Int) + 1 + 1 + 1 = 1 + 3 * (((i + 1 : Nat)) : Int) from by omega]
    refine ih k (i + 1) _ (by omega) (by omega) (by rw [List.length_set]; exact hx) ?_
    intro j hj
    rw [List.getElem?_set]
    by_cases e : i = j
    · subst e
      rw [if_pos rfl, if_pos (by omega)]
      unfold M
      congr 1
      rw [show 1 + 3 * (i : Int) + 1 = 2 + 3 * (i : Int) from by omega, show 2 + 3 * (i : Int) + 1 = 3 + 3 * (i : Int) from by omega]
    · rw [if_neg e]
      exact he j (by omega)
theorem held_l0 (n : Nat) (hn : n ≤ 1048576) (y : List S37) (hy : y.length = n) (he : ∀ j, j < n → y[j]? = some (M j)) : ∀ (d k i : Nat), i + d = n → d < k →
    laws_heldClueS.l0 k y (1 + 3 * (i : Int)) (i : Int) = some (1 + 3 * (n : Int)) := by
  intro d
  induction d with
  | zero =>
    intro k i hi hk
    obtain ⟨k, rfl⟩ : ∃ m, k = m + 1 := ⟨k - 1, by omega⟩
    simp only [laws_heldClueS.l0]
    rw [if_neg (by omega), show i = n from by omega]
  | succ d ih =>
    intro k i hi hk
    obtain ⟨k, rfl⟩ : ∃ m, k = m + 1 := ⟨k - 1, by omega⟩
    simp only [laws_heldClueS.l0]
    have g : rd_T37 y (i : Int) = M i := by
      have := he i (by omega)
      rw [get37 _ i (by omega)]
      rw [List.getElem?_eq_getElem (by omega)] at this
      exact Option.some.inj this
    rw [if_pos (by omega), if_pos (by omega), g, wid (x := (i : Int) + 1) (by omega) (by omega), wid (x := 1 + 3 * (i : Int) + 1) (by omega) (by omega), wid (x := 1 + 3 * (i : Int) + 1 + 1) (by omega) (by omega), wid (x := 1 + 3 * (i : Int) + 1 + 1 + 1) (by omega) (by omega), show 1 + 3 * (i : Int) + 1 + 1 + 1 = 1 + 3 * (((i + 1 : Nat)) : Int) from by omega]
    rw [if_pos (show (M i).f0 = 1 + 3 * (i : Int) from rfl), if_pos (show (M i).f1 = 1 + 3 * (i : Int) + 1 from by unfold M; show 2 + 3 * (i : Int) = _; omega), if_pos (show (M i).f2 = 1 + 3 * (i : Int) + 1 + 1 from by unfold M; show 3 + 3 * (i : Int) = _; omega)]
    exact ih k (i + 1) (by omega) (by omega)
theorem marked (b : Int) (x : List S37) (hx : x.length ≤ 1048576) : ∃ y, (∀ k, x.length < k → laws_markPuzzle.f k b x 1 = some (1 + 3 * (x.length : Int), y)) ∧ ∀ c k, x.length < k → laws_heldPuzzle.f k c y 1 = some (1 + 3 * (x.length : Int)) := by
  obtain ⟨y, hy, he, h⟩ := mark_l0 x.length hx x.length (x.length + 1) 0 x (by omega) (by omega) rfl (by intro j hj; omega)
  refine ⟨y, fun k hk => ?_, fun c k hk => ?_⟩
  · unfold laws_markPuzzle.f laws_markClueS.f
    have := at_rounds (g := fun k => laws_markClueS.l0 k x (1 + 3 * ((0 : Nat) : Int)) ((0 : Nat) : Int)) (fun k => laws_markClueS.mono_l k _ _ _) hk h
    rw [show (1 : Int) + 3 * ((0 : Nat) : Int) = 1 from rfl, show ((0 : Nat) : Int) = 0 from rfl] at this
    rw [this]
    rfl
  · unfold laws_heldPuzzle.f laws_heldClueS.f
    have := held_l0 x.length hx y hy he x.length k 0 (by omega) hk
    rw [show (1 : Int) + 3 * ((0 : Nat) : Int) = 1 from rfl, show ((0 : Nat) : Int) = 0 from rfl] at this
    rw [this, Option.bind_some, if_neg (by omega)]
end Go.Proofs.Ytoblnhlgfpbkeaa.Clues
