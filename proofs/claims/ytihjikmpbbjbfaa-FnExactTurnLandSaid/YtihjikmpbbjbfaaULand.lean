/- Land, as the program and as the reference ask for it: the same answer, and what it says; plain lemmas, no condition beside those named. -/
import Derived.Test.YtihjikmpbbjbfaaU3
import Derived.Test.YtihjikmpbbjbfaaU4
import Derived.Test.YtihjikmpbbjbfaaULawStr
namespace Go.Proofs.Ytihjikmpbbjbfaa.Land
open Go.RowKit Go.Proofs.Ytihjikmpbbjbfaa.U Go.Proofs.YtihjikmpbbjbfaaW.PrintWords Go.Proofs.YtihjikmpbbjbfaaW.PrintLast Go.Proofs.Ytihjikmpbbjbfaa.LawStr
set_option linter.unusedVariables false
set_option linter.unusedSimpArgs false

theorem within_some (a b c : Int) : impl_within.f a b c = some (decide (b ≤ a ∧ a ≤ c)) := by
  unfold impl_within.f
  by_cases h : a ≥ b
  · rw [if_pos h]; congr 1; simp [show b ≤ a from h]
  · rw [if_neg h]; congr 1; simp [show ¬ b ≤ a from h]
theorem in_some (a b c : Int) : spec_l1In.f a b c = some (decide (b ≤ a ∧ a ≤ c)) := by
  unfold spec_l1In.f
  by_cases h : a ≥ b
  · rw [if_pos h]; congr 1; simp [show b ≤ a from h]
  · rw [if_neg h]; congr 1; simp [show ¬ b ≤ a from h]
theorem letter_some (x : Int) : spec_fiLetter.f x = some (decide (97 ≤ x ∧ x ≤ 101)) := by
  unfold spec_fiLetter.f
  by_cases h : x ≥ 97
  · rw [if_pos h]; congr 1; simp [show 97 ≤ x from h]
  · rw [if_neg h]; congr 1; simp [show ¬ 97 ≤ x from h]

/-- The row at j. -/
def row (l : List ByteArray) (j : Nat) : ByteArray := rdOf ByteArray.empty l (j : Int)
/-- A square: nobody's, or an owner's. -/
def Sq (x : Int) : Prop := x = 46 ∨ (97 ≤ x ∧ x ≤ 101)
def OK (l : List ByteArray) : Prop := (1 ≤ l.length ∧ l.length ≤ 12) ∧ ∀ j, j < l.length → (row l j).size = (row l 0).size ∧ (1 ≤ (row l j).size ∧ (row l j).size ≤ 12) ∧ ∀ c : Nat, c < (row l j).size → Sq (bt (row l j) (c : Int))

theorem good_l1 (l : List ByteArray) (i : Nat) (b0 : Bool) (B : Nat) (hi : i + 1 ≤ l.length) (hl : l.length ≤ 12) (x : ByteArray) (hx : x.size ≤ 12)
    (out : ∀ k, B < k → spec_fiGood.l0 k l l (l.length : Int) ((i + 1 : Nat) : Int) = some b0) : ∀ (d k c : Nat), c + d = x.size → d + B + 1 < k →
    ∃ b, spec_fiGood.l1 k l x (c : Int) l (l.length : Int) (i : Int) = some b ∧ (b = true ↔ (∀ e : Nat, c ≤ e → e < x.size → Sq (bt x (e : Int))) ∧ b0 = true) := by
  intro d
  induction d with
  | zero =>
    intro k c hc hk
    obtain ⟨k, rfl⟩ : ∃ m, k = m + 1 := ⟨k - 1, by omega⟩
    simp only [spec_fiGood.l1]
    rw [if_neg (by omega), wid (x := (i : Int) + 1) (by omega) (by omega), show (i : Int) + 1 = ((i + 1 : Nat) : Int) from by omega, out k (by omega)]
    exact ⟨b0, rfl, ⟨fun h => ⟨fun e h1 h2 => by omega, h⟩, fun h => h.2⟩⟩
  | succ d ih =>
    intro k c hc hk
    obtain ⟨k, rfl⟩ : ∃ m, k = m + 1 := ⟨k - 1, by omega⟩
    obtain ⟨b, hb, hiff⟩ := ih k (c + 1) (by omega) (by omega)
    have step : Sq (bt x (c : Int)) → (b = true ↔ (∀ e : Nat, c ≤ e → e < x.size → Sq (bt x (e : Int))) ∧ b0 = true) := fun hs =>
      hiff.trans ⟨fun h => ⟨fun e h1 h2 => by
        by_cases q : e = c
        · subst q; exact hs
        · exact h.1 e (by omega) h2, h.2⟩, fun h => ⟨fun e h1 h2 => h.1 e (by omega) h2, h.2⟩⟩
    rw [show ((c + 1 : Nat) : Int) = (c : Int) + 1 from by omega] at hb
    simp only [spec_fiGood.l1]
    rw [if_pos (by omega), if_pos (by omega), wid (x := (c : Int) + 1) (by omega) (by omega)]
    by_cases h46 : bt x (c : Int) = 46
    · rw [if_pos h46]
      exact ⟨b, hb, step (.inl h46)⟩
    · rw [if_neg h46, letter_some]
      simp only [Option.bind_some]
      by_cases hq : 97 ≤ bt x (c : Int) ∧ bt x (c : Int) ≤ 101
      · rw [decide_eq_true hq, if_pos rfl]
        exact ⟨b, hb, step (.inr hq)⟩
      · rw [decide_eq_false hq, if_neg (by simp)]
        refine ⟨false, rfl, by simp, fun h => ?_⟩
        rcases h.1 c (Nat.le_refl _) (by omega) with q | q
        · exact absurd q h46
        · exact absurd q hq
theorem good_l0 (l : List ByteArray) (hl : l.length ≤ 12) (h0 : (row l 0).size ≤ 12) (h00 : 1 ≤ (row l 0).size) : ∀ (d k i : Nat), i + d = l.length → d * 20 < k →
    ∃ b, spec_fiGood.l0 k l l (l.length : Int) (i : Int) = some b ∧ (b = true ↔ ∀ j, i ≤ j → j < l.length → (row l j).size = (row l 0).size ∧ (1 ≤ (row l j).size ∧ (row l j).size ≤ 12) ∧ ∀ c : Nat, c < (row l j).size → Sq (bt (row l j) (c : Int))) := by
  intro d
  induction d with
  | zero =>
    intro k i hi hk
    obtain ⟨k, rfl⟩ : ∃ m, k = m + 1 := ⟨k - 1, by omega⟩
    simp only [spec_fiGood.l0]
    rw [if_neg (by omega)]
    exact ⟨true, rfl, by simp; intro j h1 h2; omega⟩
  | succ d ih =>
    intro k i hi hk
    obtain ⟨k, rfl⟩ : ∃ m, k = m + 1 := ⟨k - 1, by omega⟩
    obtain ⟨b0, hb0, hiff⟩ := ih (d * 20 + 1) (i + 1) (by omega) (by omega)
    have out : ∀ k, d * 20 < k → spec_fiGood.l0 k l l (l.length : Int) ((i + 1 : Nat) : Int) = some b0 := fun k hk =>
      at_rounds (g := fun k => spec_fiGood.l0 k l l (l.length : Int) ((i + 1 : Nat) : Int)) (fun k => (spec_fiGood.mono_l k).2.1 _ _ _ _) (show d * 20 + 1 ≤ k by omega) hb0
    simp only [spec_fiGood.l0]
    rw [if_pos (by omega), if_pos (by omega), if_pos (by omega), if_pos (by omega)]
    have e0 : rdOf ByteArray.empty l (0 : Int) = row l 0 := rfl
    have ei : rdOf ByteArray.empty l (i : Int) = row l i := rfl
    rw [e0, ei]
    by_cases hz : ((row l i).size : Int) = ((row l 0).size : Int)
    · rw [if_pos hz]
      obtain ⟨b, hb, hif⟩ := good_l1 l i b0 (d * 20) (by omega) hl (row l i) (by omega) out (row l i).size k 0 (by omega) (by omega)
      refine ⟨b, hb, hif.trans ⟨fun h j h1 h2 => ?_, fun h => ⟨fun e _ h2 => (h i (Nat.le_refl _) (by omega)).2.2 e h2, hiff.2 (fun j h1 h2 => h j (by omega) h2)⟩⟩⟩
      by_cases q : j = i
      · subst q
        exact ⟨by omega, by omega, fun c hc => h.1 c (Nat.zero_le _) hc⟩
      · exact hiff.1 h.2 j (by omega) h2
    · rw [if_neg hz]
      refine ⟨false, rfl, by simp, fun h => ?_⟩
      have := (h i (Nat.le_refl _) (by omega)).1
      omega

theorem good_some (l : List ByteArray) (hl : l.length ≤ 1048576) (k : Nat) (hk : 300 < k) : ∃ b, spec_fiGood.f k l = some b ∧ (b = true ↔ OK l) := by
  unfold spec_fiGood.f
  rw [in_some]
  simp only [Option.bind_some]
  obtain ⟨k, rfl⟩ : ∃ m, k = m + 1 := ⟨k - 1, by omega⟩
  by_cases h : 1 ≤ (l.length : Int) ∧ (l.length : Int) ≤ 12
  · rw [decide_eq_true h, if_pos rfl, if_pos (by omega), in_some]
    simp only [Option.bind_some]
    have e0 : rdOf ByteArray.empty l (0 : Int) = row l 0 := rfl
    rw [e0]
    by_cases h0 : 1 ≤ ((row l 0).size : Int) ∧ ((row l 0).size : Int) ≤ 12
    · rw [decide_eq_true h0]
      obtain ⟨b, hb, hiff⟩ := good_l0 l (by omega) (by omega) (by omega) l.length k 0 (by omega) (by omega)
      refine ⟨b, ?_, hiff.trans ⟨fun q => ⟨by omega, fun j hj => q j (Nat.zero_le _) hj⟩, fun q j _ hj => q.2 j hj⟩⟩
      simp only [spec_fiGood.j0, Bool.not_true]
      rw [if_neg (by simp)]
      exact hb
    · rw [decide_eq_false h0]
      refine ⟨false, by simp [spec_fiGood.j0], by simp, fun q => ?_⟩
      have := (q.2 0 (by omega)).2.1
      omega
  · rw [decide_eq_false h, if_neg (by simp)]
    exact ⟨false, by simp [spec_fiGood.j0], by simp, fun q => absurd q.1 (by omega)⟩

theorem bytes_all (x : ByteArray) (p : Int → Bool) : (bytesOf x).all p = true ↔ ∀ c : Nat, c < x.size → p (bt x (c : Int)) = true := by
  rw [List.all_eq_true]
  constructor
  · intro h c hc
    have hl : c < (bytesOf x).length := by rw [bytesOf_length]; exact hc
    have := h (bytesOf x)[c] (List.getElem_mem hl)
    have e := rd_bytesOf x (c : Int)
    unfold rd at e
    rw [Int.toNat_natCast, List.getD_eq_getElem?_getD, List.getElem?_eq_getElem hl] at e
    rw [← e]; exact this
  · intro h y hy
    obtain ⟨c, hc, rfl⟩ := List.getElem_of_mem hy
    have := h c (by rw [bytesOf_length] at hc; exact hc)
    have e := rd_bytesOf x (c : Int)
    unfold rd at e
    rw [Int.toNat_natCast, List.getD_eq_getElem?_getD, List.getElem?_eq_getElem hc] at e
    rw [← e] at this; exact this
theorem fence_some (x : ByteArray) : ∃ b, impl_IsFence.f x = some b ∧ (b = true ↔ (1 ≤ x.size ∧ x.size ≤ 20) ∧ ∀ c : Nat, c < x.size → Sq (bt x (c : Int))) := by
  unfold impl_IsFence.f
  refine ⟨_, rfl, ?_⟩
  rw [Bool.and_eq_true, decide_eq_true_iff, bytes_all]
  refine ⟨fun h => ⟨by omega, fun c hc => ?_⟩, fun h => ⟨by omega, fun c hc => ?_⟩⟩
  · have := h.2 c hc
    unfold impl_IsFence.board at this
    simpa [Sq] using this
  · have := h.2 c hc
    unfold impl_IsFence.board
    simpa [Sq] using this

theorem land_l0 (l : List ByteArray) (hl : l.length ≤ 12) : ∀ (d k i : Nat), i + d = l.length → d < k →
    ∃ b, impl_IsLand.l0 k l l (l.length : Int) (i : Int) = some b ∧ (b = true ↔ ∀ j, i ≤ j → j < l.length → (row l j).size = (row l 0).size ∧ (1 ≤ (row l j).size ∧ (row l j).size ≤ 12) ∧ ∀ c : Nat, c < (row l j).size → Sq (bt (row l j) (c : Int))) := by
  intro d
  induction d with
  | zero =>
    intro k i hi hk
    obtain ⟨k, rfl⟩ : ∃ m, k = m + 1 := ⟨k - 1, by omega⟩
    simp only [impl_IsLand.l0]
    rw [if_neg (by omega)]
    exact ⟨true, rfl, by simp; intro j h1 h2; omega⟩
  | succ d ih =>
    intro k i hi hk
    obtain ⟨k, rfl⟩ : ∃ m, k = m + 1 := ⟨k - 1, by omega⟩
    obtain ⟨b0, hb0, hiff⟩ := ih k (i + 1) (by omega) (by omega)
    have e0 : rdOf ByteArray.empty l (0 : Int) = row l 0 := rfl
    have ei : rdOf ByteArray.empty l (i : Int) = row l i := rfl
    simp only [impl_IsLand.l0]
    rw [if_pos (by omega), if_pos (by omega), if_pos (by omega), within_some, e0, ei, wid (x := (i : Int) + 1) (by omega) (by omega)]
    simp only [Option.bind_some]
    by_cases hw : 1 ≤ ((row l i).size : Int) ∧ ((row l i).size : Int) ≤ 12
    · rw [decide_eq_true hw, if_pos rfl, if_pos (by omega)]
      by_cases hz : ((row l i).size : Int) = ((row l 0).size : Int)
      · rw [if_pos hz]
        obtain ⟨b, hb, hbi⟩ := fence_some (row l i)
        rw [hb]
        simp only [Option.bind_some]
        cases b with
        | true =>
          have hf := hbi.1 rfl
          rw [if_pos rfl]
          refine ⟨b0, hb0, hiff.trans ⟨fun h j h1 h2 => ?_, fun h j h1 h2 => h j (by omega) h2⟩⟩
          by_cases q : j = i
          · subst q
            exact ⟨by omega, by omega, hf.2⟩
          · exact h j (by omega) h2
        | false =>
          rw [if_neg (by simp)]
          refine ⟨false, rfl, by simp, fun h => ?_⟩
          have := h i (Nat.le_refl _) (by omega)
          exact absurd (hbi.2 ⟨by omega, this.2.2⟩) (by simp)
      · rw [if_neg hz]
        refine ⟨false, rfl, by simp, fun h => ?_⟩
        have := (h i (Nat.le_refl _) (by omega)).1
        omega
    · rw [decide_eq_false hw, if_neg (by simp)]
      refine ⟨false, rfl, by simp, fun h => ?_⟩
      have := (h i (Nat.le_refl _) (by omega)).2.1
      omega
theorem land_some (l : List ByteArray) (hl : l.length ≤ 1048576) (k : Nat) (hk : 300 < k) : ∃ b, impl_IsLand.f k l = some b ∧ (b = true ↔ OK l) := by
  unfold impl_IsLand.f
  rw [within_some]
  simp only [Option.bind_some]
  by_cases h : 1 ≤ (l.length : Int) ∧ (l.length : Int) ≤ 12
  · rw [decide_eq_true h, if_pos rfl]
    obtain ⟨b, hb, hiff⟩ := land_l0 l (by omega) l.length k 0 (by omega) (by omega)
    exact ⟨b, hb, hiff.trans ⟨fun q => ⟨by omega, fun j hj => q j (Nat.zero_le _) hj⟩, fun q j _ hj => q.2 j hj⟩⟩
  · rw [decide_eq_false h, if_neg (by simp)]
    exact ⟨false, rfl, by simp, fun q => absurd q.1 (by omega)⟩
/-- The program and the reference agree on what land is. -/
theorem land (l : List ByteArray) (hl : l.length ≤ 1048576) : ∃ b : Bool, (b = true ↔ OK l) ∧ ∀ k, 300 < k → spec_fiGood.f k l = some b ∧ impl_IsLand.f k l = some b := by
  obtain ⟨b, hb, hiff⟩ := good_some l hl 301 (by omega)
  refine ⟨b, hiff, fun k hk => ?_⟩
  obtain ⟨b1, hb1, h1⟩ := good_some l hl k hk
  obtain ⟨b2, hb2, h2⟩ := land_some l hl k hk
  have e1 : b1 = b := by rw [Bool.eq_iff_iff, h1, hiff]
  have e2 : b2 = b := by rw [Bool.eq_iff_iff, h2, hiff]
  exact ⟨by rw [hb1, e1], by rw [hb2, e2]⟩
end Go.Proofs.Ytihjikmpbbjbfaa.Land
