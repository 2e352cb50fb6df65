/- Fences and strokes, as the program and as the reference ask for them: the same answers, and what they say; plain lemmas, no condition beside those named. -/
import Derived.Test.YtcdebaohefphaaaX1
import Derived.Test.YtcdebaohefphaaaX2
import Derived.Laws.Strings
namespace Go.Proofs.Ytcdebaohefphaaa.Fence
open Go.RowKit Go.Proofs.Ytcdebaohefphaaa.X Go.Proofs.YtcdebaohefphaaaW.PrintWords Go.Proofs.YtcdebaohefphaaaW.PrintLast
set_option linter.unusedVariables false
set_option linter.unusedSimpArgs false

theorem wid {x : Int} (h0 : -9223372036854775808 ≤ x) (h1 : x ≤ 9223372036854775807) : wrap64 x = x := by unfold wrap64; omega
theorem in_some (a b c : Int) : spec_l1In.f a b c = some (decide (b ≤ a ∧ a ≤ c)) := by
  unfold spec_l1In.f
  by_cases h : a ≥ b
  · rw [if_pos h]; congr 1; simp [show b ≤ a from h]
  · rw [if_neg h]; congr 1; simp [show ¬ b ≤ a from h]

theorem bytes_get (s : ByteArray) (i : Nat) (h : i < (bytesOf s).length) : (bytesOf s)[i] = bt s (i : Int) := by
  have h' : i < s.size := by rw [bytesOf_length] at h; exact h
  unfold bt
  rw [dif_pos (by rw [Int.toNat_natCast]; exact h')]
  simp only [bytesOf, List.getElem_map, Array.getElem_toList, Int.toNat_natCast]
  rfl

theorem good_l0 (s : ByteArray) (hs : s.size ≤ 20) : ∀ (d k i : Nat), i + d = s.size → d < k → spec_stGood.l0 k s (i : Int) = some (((bytesOf s).drop i).all impl_IsFence.board) := by
  intro d
  have hL := bytesOf_length s
  induction d with
  | zero =>
    intro k i hi hk
    obtain ⟨k, rfl⟩ : ∃ m, k = m + 1 := ⟨k - 1, by omega⟩
    simp only [spec_stGood.l0]
    rw [if_neg (by omega), List.drop_of_length_le (by omega)]
    rfl
  | succ d ih =>
    intro k i hi hk
    obtain ⟨k, rfl⟩ : ∃ m, k = m + 1 := ⟨k - 1, by omega⟩
    simp only [spec_stGood.l0]
    rw [if_pos (by omega), if_pos (by omega), List.drop_eq_getElem_cons (by omega), List.all_cons, bytes_get s i (by omega), wid (x := (i : Int) + 1) (by omega) (by omega)]
    have hr := ih k (i + 1) (by omega) (by omega)
    rw [show ((i + 1 : Nat) : Int) = (i : Int) + 1 from by omega] at hr
    generalize bt s (i : Int) = x at *
    unfold impl_IsFence.board at *
    by_cases h1 : x = 46
    · rw [if_pos h1, hr, decide_eq_true h1]; rfl
    · rw [if_neg h1, decide_eq_false h1]
      by_cases h2 : x < 97
      · rw [if_pos h2, decide_eq_false (by omega)]; rfl
      · rw [if_neg h2, decide_eq_true (by omega : 97 ≤ x)]
        by_cases h3 : x > 101
        · rw [if_pos h3, decide_eq_false (by omega)]; rfl
        · rw [if_neg h3, hr, decide_eq_true (by omega)]; rfl

/-- A fence. -/
def Good (s : ByteArray) : Prop := (1 ≤ s.size ∧ s.size ≤ 20) ∧ ∀ i : Nat, i < s.size → impl_IsFence.board (bt s (i : Int)) = true
theorem fence (s : ByteArray) : ∃ b : Bool, impl_IsFence.f s = some b ∧ (b = true ↔ Good s) ∧ ∀ k, 20 < k → spec_stGood.f k s = some b := by
  unfold impl_IsFence.f
  refine ⟨_, rfl, ?_, fun k hk => ?_⟩
  · rw [Bool.and_eq_true, decide_eq_true_eq, List.all_eq_true]
    constructor
    · rintro ⟨h1, h2⟩
      refine ⟨by omega, fun i hi => ?_⟩
      have hL := bytesOf_length s
      rw [← bytes_get s i (by omega)]
      exact h2 _ (List.getElem_mem _)
    · rintro ⟨h1, h2⟩
      refine ⟨by omega, fun x hx => ?_⟩
      obtain ⟨i, hi, rfl⟩ := List.getElem_of_mem hx
      rw [bytes_get s i hi]
      exact h2 i (by rw [bytesOf_length] at hi; exact hi)
  · unfold spec_stGood.f
    rw [in_some]
    simp only [Option.bind_some]
    by_cases h : 1 ≤ (s.size : Int) ∧ (s.size : Int) ≤ 20
    · rw [decide_eq_true h, if_pos rfl]
      exact good_l0 s (by omega) s.size k 0 (by omega) (by omega)
    · rw [decide_eq_false h, if_neg (by simp)]
      rfl

theorem one_byte (c : ByteArray) (h : c.size = 1) : ∃ u : UInt8, c.toList = [u] ∧ bt c 0 = (u.toNat : Int) := by
  have hL := bytesOf_length c
  have e := bytes_get c 0 (by omega)
  rw [ByteArray.toList_eq]
  have hl : c.data.toList.length = 1 := by rw [← h]; exact data_length c
  match hd : c.data.toList, hl with
  | [u], _ =>
    refine ⟨u, rfl, ?_⟩
    have : bytesOf c = [(u.toNat : Int)] := by unfold bytesOf; rw [hd]; rfl
    rw [show (0 : Int) = ((0 : Nat) : Int) from rfl, ← e]
    simp [this]
theorem less_l (u v : UInt8) : Op.bytesLess [u] [v] = decide ((u.toNat : Int) < (v.toNat : Int)) := by
  simp only [Op.bytesLess, Bool.and_false, Bool.or_false]
  rw [decide_eq_decide]
  rw [UInt8.lt_iff_toNat_lt]
  omega

/-- A stroke of so many boards. -/
def Is (b f t : Int) (c : ByteArray) : Prop := (0 ≤ f ∧ f ≤ t ∧ t < b) ∧ c.size = 1 ∧ 97 ≤ bt c 0 ∧ bt c 0 ≤ 101
theorem stroke (b f t : Int) (c : ByteArray) (h1 : 1 ≤ b) (h2 : b ≤ 20) : ∃ r : Bool, spec_stIs.f b f t c = some r ∧ impl_Stroke_isOf.f f t c b = some r ∧ (r = true ↔ Is b f t c) := by
  have hi : impl_Stroke_isOf.f f t c b = some (decide (0 ≤ f ∧ f ≤ t ∧ t < b) && impl_isColour.colour c) := by
    unfold impl_Stroke_isOf.f impl_isColour.f
    by_cases a1 : f ≥ 0
    · rw [if_pos a1]
      by_cases a2 : f ≤ t
      · rw [if_pos a2]
        by_cases a3 : t < b
        · rw [if_pos a3, decide_eq_true (by omega)]; simp
        · rw [if_neg a3, decide_eq_false (by omega)]; rfl
      · rw [if_neg a2, decide_eq_false (by omega)]; rfl
    · rw [if_neg a1, decide_eq_false (by omega)]; rfl
  refine ⟨_, ?_, hi, ?_⟩
  · unfold spec_stIs.f impl_isColour.colour
    by_cases hc : c.size = 1
    · obtain ⟨u, e1, e2⟩ := one_byte c hc
      rw [if_pos (by omega), e1, less_l, less_l, e2, in_some, in_some, wid (x := b - 1) (by omega) (by omega), decide_eq_true hc]
      simp only [show ((97 : UInt8).toNat : Int) = 97 from rfl, show ((101 : UInt8).toNat : Int) = 101 from rfl, decide_eq_true_eq, Option.bind_some]
      by_cases h3 : (u.toNat : Int) < 97
      · rw [if_pos h3, decide_eq_false (by omega : ¬ 97 ≤ (u.toNat : Int))]; simp
      · rw [if_neg h3, decide_eq_true (by omega : 97 ≤ (u.toNat : Int))]
        by_cases h4 : 101 < (u.toNat : Int)
        · rw [if_pos h4, decide_eq_false (by omega : ¬ (u.toNat : Int) ≤ 101)]; simp
        · rw [if_neg h4, decide_eq_true (by omega : (u.toNat : Int) ≤ 101)]
          by_cases h5 : 0 ≤ t ∧ t ≤ b - 1
          · rw [if_pos h5]
            by_cases h6 : 0 ≤ f ∧ f ≤ t
            · rw [decide_eq_true h6, decide_eq_true (by omega)]; rfl
            · rw [decide_eq_false h6, decide_eq_false (by omega)]; rfl
          · rw [if_neg h5, decide_eq_false (by omega)]; rfl
    · rw [if_neg (by omega), decide_eq_false hc]; simp
  · unfold impl_isColour.colour Is
    simp
end Go.Proofs.Ytcdebaohefphaaa.Fence
