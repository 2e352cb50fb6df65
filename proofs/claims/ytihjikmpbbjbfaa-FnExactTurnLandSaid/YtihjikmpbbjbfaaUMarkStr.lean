/- The law's own marks on texts; plain lemmas; no condition beside the bounds that each names. -/
import Derived.Test.YtihjikmpbbjbfaaU1
import Derived.Test.YtihjikmpbbjbfaaU2
import Derived.Test.YtihjikmpbbjbfaaULawStr
namespace Go.Proofs.Ytihjikmpbbjbfaa.MarkStr
open Go.RowKit Go.Proofs.Ytihjikmpbbjbfaa.U Go.Proofs.YtihjikmpbbjbfaaW.PrintWords Go.Proofs.YtihjikmpbbjbfaaW.PrintLast Go.Proofs.Ytihjikmpbbjbfaa.LawStr
set_option linter.unusedVariables false
set_option linter.unusedSimpArgs false

theorem one_size (x : Int) : (strOfNums [x]).size = 1 := rfl
theorem text_l0 : ∀ (d k : Nat) (n : Int) (x : ByteArray), 0 ≤ n → n < (10 : Int) ^ d → n ≤ 4000000 → d < k → x.size + d ≤ 1000 → ∃ t, laws_markText.l0 k n x = some t := by
  intro d
  induction d with
  | zero =>
    intro k n x h0 h1 h2 hk hx
    obtain ⟨k, rfl⟩ : ∃ m, k = m + 1 := ⟨k - 1, by omega⟩
    rw [Int.pow_zero] at h1
    simp only [laws_markText.l0]
    rw [if_neg (by omega), if_pos (by omega)]
    exact ⟨_, rfl⟩
  | succ d ih =>
    intro k n x h0 h1 h2 hk hx
    obtain ⟨k, rfl⟩ : ∃ m, k = m + 1 := ⟨k - 1, by omega⟩
    rw [Int.pow_succ] at h1
    simp only [laws_markText.l0]
    by_cases c : n > 0
    · rw [if_pos c]
      simp only [Option.bind_some]
      rw [if_pos (by rw [one_size]; omega), Int.tdiv_eq_ediv_of_nonneg h0, wid (x := n / 10) (by omega) (by omega)]
      generalize (10 : Int) ^ d = p at *
      exact ih k (n / 10) _ (by omega) (by omega) (by omega) (by omega) (by rw [ByteArray.size_append, one_size]; omega)
    · rw [if_neg c, if_pos (by omega)]
      exact ⟨_, rfl⟩
theorem text (n : Int) (h0 : 0 ≤ n) (h1 : n ≤ 4000000) : ∃ t, ∀ k, 20 < k → laws_markText.f k n = some t := by
  unfold laws_markText.f
  by_cases c : n ≤ 0
  · exact ⟨_, fun k _ => by rw [if_pos c]⟩
  · obtain ⟨t, ht⟩ := text_l0 7 8 n (⟨#[]⟩ : ByteArray) h0 (by omega) h1 (by omega) (by show 0 + 7 ≤ 1000; omega)
    exact ⟨t, fun k hk => by rw [if_neg c]; exact at_rounds (g := fun k => laws_markText.l0 k n _) (fun k => laws_markText.mono_l k _ _) (show 8 ≤ k by omega) ht⟩
/-- The marks' texts. -/
theorem texts : ∃ T : Nat → ByteArray, ∀ j : Nat, j ≤ 3000000 → ∀ k, 20 < k → laws_markText.f k (1 + (j : Int)) = some (T j) := by
  refine ⟨fun j => (laws_markText.f 21 (1 + (j : Int))).getD ByteArray.empty, fun j hj k hk => ?_⟩
  obtain ⟨t, ht⟩ := text (1 + (j : Int)) (by omega) (by omega)
  rw [ht k hk]
  show some t = some ((laws_markText.f 21 (1 + (j : Int))).getD ByteArray.empty)
  rw [ht 21 (by omega)]
  rfl
theorem mark_l0 (T : Nat → ByteArray) (hT : ∀ j : Nat, j ≤ 3000000 → ∀ k, 20 < k → laws_markText.f k (1 + (j : Int)) = some (T j)) (n : Nat) (hn : n ≤ 1048576) : ∀ (d k i : Nat) (x : List ByteArray), i + d = n → d + 30 < k → x.length = n → (∀ j, j < i → x[j]? = some (T j)) →
    ∃ y, y.length = n ∧ (∀ j, j < n → y[j]? = some (T j)) ∧ laws_markStringS.l0 k x (1 + (i : Int)) (i : Int) = some (1 + (n : Int), y) := by
  intro d
  induction d with
  | zero =>
    intro k i x hi hk hx he
    obtain ⟨k, rfl⟩ : ∃ m, k = m + 1 := ⟨k - 1, by omega⟩
    simp only [laws_markStringS.l0]
    rw [if_neg (by omega), show i = n from by omega] at *
    exact ⟨x, hx, he, rfl⟩
  | succ d ih =>
    intro k i x hi hk hx he
    obtain ⟨k, rfl⟩ : ∃ m, k = m + 1 := ⟨k - 1, by omega⟩
    simp only [laws_markStringS.l0]
    rw [if_pos (by omega), hT i (by omega) k (by omega), Option.bind_some, if_pos (by omega), Int.toNat_natCast, wid (x := (i : Int) + 1) (by omega) (by omega), wid (x := 1 + (i : Int) + 1) (by omega) (by omega), show 1 + (i : Int) + 1 = 1 + (((i + 1 : Nat)) : Int) from by omega]
    refine ih k (i + 1) _ (by omega) (by omega) (by rw [List.length_set]; exact hx) ?_
    intro j hj
    rw [List.getElem?_set]
    by_cases e : i = j
    · subst e
      rw [if_pos rfl, if_pos (by omega)]
    · rw [if_neg e]
      exact he j (by omega)
theorem held_l0 (T : Nat → ByteArray) (hT : ∀ j : Nat, j ≤ 3000000 → ∀ k, 20 < k → laws_markText.f k (1 + (j : Int)) = some (T j)) (n : Nat) (hn : n ≤ 1048576) (y : List ByteArray) (hy : y.length = n) (he : ∀ j, j < n → y[j]? = some (T j)) : ∀ (d k i : Nat), i + d = n → d + 30 < k →
    laws_heldStringS.l0 k y (1 + (i : Int)) (i : Int) = some (1 + (n : Int)) := by
  intro d
  induction d with
  | zero =>
    intro k i hi hk
    obtain ⟨k, rfl⟩ : ∃ m, k = m + 1 := ⟨k - 1, by omega⟩
    simp only [laws_heldStringS.l0]
    rw [if_neg (by omega), show i = n from by omega]
  | succ d ih =>
    intro k i hi hk
    obtain ⟨k, rfl⟩ : ∃ m, k = m + 1 := ⟨k - 1, by omega⟩
    simp only [laws_heldStringS.l0]
    have g : rdOf ByteArray.empty y (i : Int) = T i := by
      have := he i (by omega)
      rw [rs_get y i (by omega)]
      rw [List.getElem?_eq_getElem (by omega)] at this
      exact Option.some.inj this
    rw [if_pos (by omega), if_pos (by omega), hT i (by omega) k (by omega), Option.bind_some, g, if_pos rfl, wid (x := (i : Int) + 1) (by omega) (by omega), wid (x := 1 + (i : Int) + 1) (by omega) (by omega), show 1 + (i : Int) + 1 = 1 + (((i + 1 : Nat)) : Int) from by omega]
    exact ih k (i + 1) (by omega) (by omega)
theorem marked (x : List ByteArray) (hx : x.length ≤ 1048576) : ∃ y, (∀ k, x.length + 30 < k → laws_markStringS.f k x 1 = some (1 + (x.length : Int), y)) ∧ ∀ k, x.length + 30 < k → laws_heldStringS.f k y 1 = some (1 + (x.length : Int)) := by
  obtain ⟨T, hT⟩ := texts
  obtain ⟨y, hy, he, h⟩ := mark_l0 T hT x.length hx x.length (x.length + 31) 0 x (by omega) (by omega) rfl (by intro j hj; omega)
  refine ⟨y, fun k hk => ?_, fun k hk => ?_⟩
  · unfold laws_markStringS.f
    have := at_rounds (g := fun k => laws_markStringS.l0 k x (1 + ((0 : Nat) : Int)) ((0 : Nat) : Int)) (fun k => laws_markStringS.mono_l k _ _ _) (show x.length + 31 ≤ k by omega) h
    exact this
  · unfold laws_heldStringS.f
    exact held_l0 T hT x.length hx y hy he x.length k 0 (by omega) hk
end Go.Proofs.Ytihjikmpbbjbfaa.MarkStr
