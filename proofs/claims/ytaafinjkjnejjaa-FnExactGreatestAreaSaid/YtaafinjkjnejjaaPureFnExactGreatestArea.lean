/- The program's GreatestArea answers as the reference's GreatestArea does, for every whole number; no condition beside that. -/
import Derived.Test.YtaafinjkjnejjaaPFnExactGreatestAreax1
namespace Go.Proofs.Ytaafinjkjnejjaa.Pure
open Go.RowKit Go.Proofs.Ytaafinjkjnejjaa.PFnExactGreatestArea Go.Proofs.YtaafinjkjnejjaaW.PrintWords Go.Proofs.YtaafinjkjnejjaaW.PrintLast
set_option linter.unusedVariables false
set_option linter.unusedSimpArgs false

theorem wid {x : Int} (h0 : -9223372036854775808 ≤ x) (h1 : x ≤ 9223372036854775807) : wrap64 x = x := by unfold wrap64; omega

def rects (a : Int) (n : Nat) : List (List Int) := (List.range n).map fun i : Nat => [a / 2 - ((i : Int) + 1), (i : Int) + 1]
theorem rects_succ (a : Int) (n : Nat) : rects a (n + 1) = rects a n ++ [[a / 2 - ((n : Int) + 1), (n : Int) + 1]] := by simp [rects, List.range_succ]
theorem rects_len (a : Int) (n : Nat) : (rects a n).length = n := by simp [rects]

theorem byfence (a : Int) (h4 : 4 ≤ a) (h1000 : a ≤ 1000) (he : Int.tmod a 2 = 0) : ∀ (d k n : Nat), (n : Int) + d = a / 4 → d < k →
    impl_RectanglesByFence.l0 k a (rects a n) ((n : Int) + 1) = some (rects a (a / 4).toNat, true) := by
  have h2 : Int.tdiv a 2 = a / 2 := Int.tdiv_eq_ediv_of_nonneg (by omega)
  intro d
  induction d with
  | zero =>
    intro k n hn hk
    obtain ⟨k, rfl⟩ : ∃ m, k = m + 1 := ⟨k - 1, by omega⟩
    simp only [impl_RectanglesByFence.l0]
    rw [if_pos he, wid (x := 4 * ((n : Int) + 1)) (by omega) (by omega), if_neg (by omega), show (a / 4).toNat = n from by omega]
  | succ d ih =>
    intro k n hn hk
    obtain ⟨k, rfl⟩ : ∃ m, k = m + 1 := ⟨k - 1, by omega⟩
    simp only [impl_RectanglesByFence.l0]
    rw [if_pos he, wid (x := 4 * ((n : Int) + 1)) (by omega) (by omega), if_pos (by omega), if_pos (by rw [rects_len]; omega), h2, wid (x := a / 2) (by omega) (by omega),
      wid (x := a / 2 - ((n : Int) + 1)) (by omega) (by omega), wid (x := (n : Int) + 1 + 1) (by omega) (by omega), ← rects_succ]
    exact ih k (n + 1) (by omega) (by omega)

theorem within_some (a b c : Int) : impl_within.f a b c = some (decide (b ≤ a ∧ a ≤ c)) := by
  unfold impl_within.f
  by_cases h : a ≥ b
  · rw [if_pos h]; congr 1; simp [show b ≤ a from h]
  · rw [if_neg h]; congr 1; simp [show ¬ b ≤ a from h]
theorem in_some (a b c : Int) : spec_l1In.f a b c = some (decide (b ≤ a ∧ a ≤ c)) := by
  unfold spec_l1In.f
  by_cases h : a ≥ b
  · rw [if_pos h]; congr 1; simp [show b ≤ a from h]
  · rw [if_neg h]; congr 1; simp [show ¬ b ≤ a from h]

theorem law_of {k : Nat} {a x y : Int} {b : Bool} (hs : spec_GreatestArea.f a = some (x, y, b)) (hi : impl_GreatestArea.f k a = some (x, y, b)) : laws_FnExactGreatestArea.f k a = some true := by
  unfold laws_FnExactGreatestArea.f
  rw [hs, hi]; simp

theorem FnExactGreatestArea : laws_FnExactGreatestArea.Pure := by
  intro a _
  by_cases hb : 4 ≤ a ∧ a ≤ 1000
  · obtain ⟨h4, h1000⟩ := hb
    have h2 : Int.tdiv a 2 = a / 2 := Int.tdiv_eq_ediv_of_nonneg (by omega)
    have h44 : Int.tdiv a 4 = a / 4 := Int.tdiv_eq_ediv_of_nonneg (by omega)
    have hm : Int.tmod a 2 = a % 2 := Int.tmod_eq_emod_of_nonneg (by omega)
    refine ⟨2000, ?_⟩
    by_cases he : Int.tmod a 2 = 0
    · refine law_of (x := a / 2 - a / 4) (y := a / 4) (b := true) ?_ ?_
      · unfold spec_GreatestArea.f
        rw [in_some, decide_eq_true (by omega)]
        simp only [Option.bind_some, if_true]
        rw [if_neg (by omega), h2, h44, wid (x := a / 2) (by omega) (by omega), wid (x := a / 4) (by omega) (by omega), wid (x := a / 2 - a / 4) (by omega) (by omega)]
      · have hl := byfence a h4 h1000 he (a / 4).toNat 2000 0 (by omega) (by omega)
        have hlast : rd_L1 (rects a (a / 4).toNat) (a / 4 - 1) = [a / 2 - a / 4, a / 4] := by
          unfold rd_L1 rects
          rw [List.getD_eq_getElem?_getD, List.getElem?_map, List.getElem?_range (by omega)]
          simp only [Option.map_some, Option.getD_some]
          rw [show (((a / 4 - 1).toNat : Nat) : Int) + 1 = a / 4 from by omega]
        have hlen : ((rects a (a / 4).toNat).length : Int) = a / 4 := by rw [rects_len]; omega
        unfold impl_GreatestArea.f impl_RectanglesByFence.f
        rw [within_some, decide_eq_true (by omega)]
        simp only [Option.bind_some, if_true]
        rw [show ([] : List (List Int)) = rects a 0 from rfl, show (1 : Int) = ((0 : Nat) : Int) + 1 from rfl, hl]
        simp only [Option.bind_some, if_true]
        rw [hlen, show (((0 : Nat) : Int) + 1) = 1 from rfl, wid (x := a / 4 - 1) (by omega) (by omega), hlast, if_neg (by omega), if_pos (by omega), if_pos (by omega)]
        simp [rd]
    · refine law_of (x := 0) (y := 0) (b := false) ?_ ?_
      · unfold spec_GreatestArea.f
        rw [in_some, decide_eq_true (by omega)]
        simp only [Option.bind_some, if_true]
        rw [if_pos (by omega)]
      · unfold impl_GreatestArea.f impl_RectanglesByFence.f
        rw [within_some, decide_eq_true (by omega)]
        simp only [Option.bind_some, if_true]
        rw [show (2000 : Nat) = 1999 + 1 from rfl, impl_RectanglesByFence.l0, if_neg he]
        simp
  · refine ⟨0, law_of (x := 0) (y := 0) (b := false) ?_ ?_⟩
    · unfold spec_GreatestArea.f
      rw [in_some, decide_eq_false hb]
      simp
    · unfold impl_GreatestArea.f impl_RectanglesByFence.f
      rw [within_some, decide_eq_false hb]
      simp

end Go.Proofs.Ytaafinjkjnejjaa.Pure
