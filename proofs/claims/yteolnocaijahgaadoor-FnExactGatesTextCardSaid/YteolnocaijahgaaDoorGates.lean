/- Gates of a row, as the program and as the reference ask for them: the same answer, and what it says; distances from gates; plain lemmas, no condition beside those named. -/
import Derived.Test.YteolnocaijahgaaDoorX3
import Derived.Test.YteolnocaijahgaaDoorX1
import Derived.Test.YteolnocaijahgaaDoorX2
namespace Go.Proofs.YteolnocaijahgaaDoor.Gates
open Go.RowKit Go.Proofs.YteolnocaijahgaaDoor.X Go.Proofs.YteolnocaijahgaaDoorW.PrintWords Go.Proofs.YteolnocaijahgaaDoorW.PrintLast
set_option linter.unusedVariables false
set_option linter.unusedSimpArgs false

theorem wid {x : Int} (h0 : -9223372036854775808 ≤ x) (h1 : x ≤ 9223372036854775807) : wrap64 x = x := by unfold wrap64; omega
theorem within_some (a b c : Int) : impl_within.f a b c = some (decide (b ≤ a ∧ a ≤ c)) := by
  unfold impl_within.f
  by_cases h : a ≥ b
  · rw [if_pos h]; congr 1; simp [show b ≤ a from h]
  · rw [if_neg h]; congr 1; simp [show ¬ b ≤ a from h]
theorem in_some (a b c : Int) : spec_l1In.f a b c = some (decide (b ≤ a ∧ a ≤ c)) := by
  unfold spec_l1In.f
  by_cases h : a ≥ b
  · rw [if_pos h]; congr 1; simp [show b ≤ a from h]
  · rw [if_neg h]; congr 1; simp [show ¬ b ≤ a from h]
theorem rd_nat (l : List Int) (i : Nat) : rd l (i : Int) = l.getD i 0 := by unfold rd; rw [Int.toNat_natCast]
theorem rd_get (l : List Int) (i : Nat) (h : i < l.length) : rd l (i : Int) = l[i] := by
  rw [rd_nat, List.getD_eq_getElem?_getD, List.getElem?_eq_getElem h]; rfl

theorem rising (l : List Int) (lo hi : Int) (hl : l.length ≤ 1048576) : ∀ (d k i : Nat), i + d = l.length → d < k →
    ∃ b, spec_l1Rising.l0 k l lo hi l (l.length : Int) (i : Int) = some b ∧ (b = true ↔ ∀ j : Nat, i ≤ j → j < l.length → lo ≤ rd l (j : Int) ∧ rd l (j : Int) ≤ hi ∧ (0 < j → rd l ((j : Int) - 1) < rd l (j : Int))) := by
  intro d
  induction d with
  | zero =>
    intro k i hi hk
    obtain ⟨k, rfl⟩ : ∃ m, k = m + 1 := ⟨k - 1, by omega⟩
    simp only [spec_l1Rising.l0]
    rw [if_neg (by omega)]
    exact ⟨true, rfl, by simp; intro j h1 h2; omega⟩
  | succ d ih =>
    intro k i hi' hk
    obtain ⟨k, rfl⟩ : ∃ m, k = m + 1 := ⟨k - 1, by omega⟩
    simp only [spec_l1Rising.l0]
    rw [if_pos (by omega), if_pos (by omega), if_pos (by omega), in_some]
    simp only [Option.bind_some]
    by_cases h : lo ≤ rd l (i : Int) ∧ rd l (i : Int) ≤ hi
    · rw [decide_eq_true h, if_pos rfl, wid (x := (i : Int) + 1) (by omega) (by omega)]
      obtain ⟨b, hb, hiff⟩ := ih k (i + 1) (by omega) (by omega)
      rw [show ((i + 1 : Nat) : Int) = (i : Int) + 1 from by omega] at hb
      by_cases h0 : (i : Int) > 0
      · rw [if_pos h0, wid (x := (i : Int) - 1) (by omega) (by omega), if_pos (by omega), if_pos (by omega)]
        by_cases hge : rd l ((i : Int) - 1) ≥ rd l (i : Int)
        · rw [if_pos hge]
          refine ⟨false, rfl, by simp, fun hall => ?_⟩
          have := (hall i (Nat.le_refl _) (by omega)).2.2 (by omega)
          omega
        · rw [if_neg hge]
          refine ⟨b, hb, hiff.trans ⟨fun hall j h1 h2 => ?_, fun hall j h1 h2 => hall j (by omega) h2⟩⟩
          by_cases e : j = i
          · subst e
            exact ⟨h.1, h.2, fun _ => by omega⟩
          · exact hall j (by omega) h2
      · rw [if_neg h0]
        refine ⟨b, hb, hiff.trans ⟨fun hall j h1 h2 => ?_, fun hall j h1 h2 => hall j (by omega) h2⟩⟩
        by_cases e : j = i
        · subst e
          exact ⟨h.1, h.2, fun _ => by omega⟩
        · exact hall j (by omega) h2
    · rw [decide_eq_false h, if_neg (by simp)]
      refine ⟨false, rfl, by simp, fun hall => ?_⟩
      have := hall i (Nat.le_refl _) (by omega)
      exact absurd ⟨this.1, this.2.1⟩ h

theorem gaBoards_some (a : Int) : spec_gaBoards.f a = some (decide (2 ≤ a ∧ a ≤ 40)) := by unfold spec_gaBoards.f; rw [in_some]; rfl
theorem isRow_some (a : Int) : impl_isRow.f a = some (decide (2 ≤ a ∧ a ≤ 40)) := by unfold impl_isRow.f; rw [within_some]; rfl

/-- Boards and gates of them. -/
def OK (a : Int) (l : List Int) : Prop := (2 ≤ a ∧ a ≤ 40) ∧ l.length ≤ 10 ∧ ∀ j : Nat, 0 ≤ j → j < l.length → 1 ≤ rd l (j : Int) ∧ rd l (j : Int) ≤ a - 1 ∧ (0 < j → rd l ((j : Int) - 1) < rd l (j : Int))

theorem gaAre_some (a : Int) (l : List Int) (hl : l.length ≤ 1048576) (k : Nat) (hk : l.length < k) : ∃ b, spec_gaAre.f k a l = some b ∧ (b = true ↔ OK a l) := by
  unfold spec_gaAre.f
  rw [gaBoards_some]
  simp only [Option.bind_some]
  by_cases h : 2 ≤ a ∧ a ≤ 40
  · rw [decide_eq_true h, if_pos rfl]
    by_cases h10 : (l.length : Int) ≤ 10
    · rw [if_pos h10, wid (x := a - 1) (by omega) (by omega)]
      obtain ⟨b, hb, hiff⟩ := rising l 1 (a - 1) hl l.length k 0 (by omega) hk
      refine ⟨b, ?_, hiff.trans ⟨fun hall => ⟨h, by omega, hall⟩, fun hall => hall.2.2⟩⟩
      unfold spec_l1Rising.f
      rw [show (0 : Int) = ((0 : Nat) : Int) from rfl, hb]; rfl
    · rw [if_neg h10]
      exact ⟨false, rfl, by simp, fun hall => absurd hall.2.1 (by omega)⟩
  · rw [decide_eq_false h, if_neg (by simp)]
    exact ⟨false, rfl, by simp, fun hall => absurd hall.1 h⟩

theorem all_rd (l : List Int) (lo hi : Int) : (l.all fun x => decide (lo ≤ x ∧ x ≤ hi)) = true ↔ ∀ j : Nat, j < l.length → lo ≤ rd l (j : Int) ∧ rd l (j : Int) ≤ hi := by
  rw [List.all_eq_true]
  constructor
  · intro h j hj
    have := h l[j] (List.getElem_mem hj)
    rw [rd_get l j hj]
    simpa using this
  · intro h x hx
    obtain ⟨j, hj, rfl⟩ := List.getElem_of_mem hx
    have := h j hj
    rw [rd_get l j hj] at this
    simpa using this

theorem areGates_l0 (a : Int) (l : List Int) (hl : l.length ≤ 1048576) : ∀ (d k i : Nat), i + d = l.length → d < k →
    ∃ b, impl_AreGates.l0 k a l l (l.length : Int) (i : Int) = some b ∧ (b = true ↔ ((2 ≤ a ∧ a ≤ 40) ∧ l.length ≤ 10 ∧ (∀ j : Nat, j < l.length → 1 ≤ rd l (j : Int) ∧ rd l (j : Int) ≤ a - 1) ∧
      ∀ j : Nat, i ≤ j → j < l.length → 0 < j → rd l ((j : Int) - 1) < rd l (j : Int))) := by
  intro d
  induction d with
  | zero =>
    intro k i hi hk
    obtain ⟨k, rfl⟩ : ∃ m, k = m + 1 := ⟨k - 1, by omega⟩
    simp only [impl_AreGates.l0]
    rw [if_neg (by omega), isRow_some]
    simp only [Option.bind_some]
    by_cases h : 2 ≤ a ∧ a ≤ 40
    · rw [decide_eq_true h, if_pos rfl]
      by_cases h10 : (l.length : Int) ≤ 10
      · rw [if_pos h10, wid (x := a - 1) (by omega) (by omega)]
        refine ⟨_, rfl, (all_rd l 1 (a - 1)).trans ⟨fun hall => ⟨h, by omega, hall, fun j h1 h2 => by omega⟩, fun hall => hall.2.2.1⟩⟩
      · rw [if_neg h10]
        exact ⟨false, rfl, by simp, fun hall => absurd hall.2.1 (by omega)⟩
    · rw [decide_eq_false h, if_neg (by simp)]
      exact ⟨false, rfl, by simp, fun hall => absurd hall.1 h⟩
  | succ d ih =>
    intro k i hi' hk
    obtain ⟨k, rfl⟩ : ∃ m, k = m + 1 := ⟨k - 1, by omega⟩
    simp only [impl_AreGates.l0]
    rw [if_pos (by omega), if_pos (by omega), if_pos (by omega), wid (x := (i : Int) + 1) (by omega) (by omega)]
    obtain ⟨b, hb, hiff⟩ := ih k (i + 1) (by omega) (by omega)
    rw [show ((i + 1 : Nat) : Int) = (i : Int) + 1 from by omega] at hb
    by_cases h0 : (i : Int) > 0
    · rw [if_pos h0, wid (x := (i : Int) - 1) (by omega) (by omega), if_pos (by omega), if_pos (by omega)]
      by_cases hge : rd l ((i : Int) - 1) ≥ rd l (i : Int)
      · rw [if_pos hge]
        refine ⟨false, rfl, by simp, fun hall => ?_⟩
        have := hall.2.2.2 i (Nat.le_refl _) (by omega) (by omega)
        omega
      · rw [if_neg hge]
        refine ⟨b, hb, hiff.trans ⟨fun hall => ⟨hall.1, hall.2.1, hall.2.2.1, fun j h1 h2 h3 => ?_⟩, fun hall => ⟨hall.1, hall.2.1, hall.2.2.1, fun j h1 h2 h3 => hall.2.2.2 j (by omega) h2 h3⟩⟩⟩
        by_cases e : j = i
        · subst e
          omega
        · exact hall.2.2.2 j (by omega) h2 h3
    · rw [if_neg h0]
      refine ⟨b, hb, hiff.trans ⟨fun hall => ⟨hall.1, hall.2.1, hall.2.2.1, fun j h1 h2 h3 => ?_⟩, fun hall => ⟨hall.1, hall.2.1, hall.2.2.1, fun j h1 h2 h3 => hall.2.2.2 j (by omega) h2 h3⟩⟩⟩
      by_cases e : j = i
      · subst e
        omega
      · exact hall.2.2.2 j (by omega) h2 h3

/-- The program and the reference agree on what gates are. -/
theorem gates (a : Int) (l : List Int) (hl : l.length ≤ 1048576) : ∃ b : Bool, (b = true ↔ OK a l) ∧ ∀ k, l.length < k → spec_gaAre.f k a l = some b ∧ impl_AreGates.f k a l = some b := by
  obtain ⟨b, hb, hiff⟩ := gaAre_some a l hl (l.length + 1) (by omega)
  refine ⟨b, hiff, fun k hk => ?_⟩
  obtain ⟨b1, hb1, hiff1⟩ := gaAre_some a l hl k hk
  obtain ⟨b2, hb2, hiff2⟩ := areGates_l0 a l hl l.length k 0 (by omega) hk
  have e1 : b1 = b := by rw [Bool.eq_iff_iff, hiff1, hiff]
  have e2 : b2 = b := by
    rw [Bool.eq_iff_iff, hiff2, hiff]
    exact ⟨fun h => ⟨h.1, h.2.1, fun j h1 h2 => ⟨(h.2.2.1 j h2).1, (h.2.2.1 j h2).2, h.2.2.2 j h1 h2⟩⟩, fun h => ⟨h.1, h.2.1, fun j h2 => ⟨(h.2.2 j (Nat.zero_le _) h2).1, (h.2.2 j (Nat.zero_le _) h2).2.1⟩, fun j h1 h2 => (h.2.2 j h1 h2).2.2⟩⟩
  refine ⟨by rw [hb1, e1], ?_⟩
  unfold impl_AreGates.f
  rw [show (0 : Int) = ((0 : Nat) : Int) from rfl, hb2, e2]

end Go.Proofs.YteolnocaijahgaaDoor.Gates
