/- The library's Reverse over whole numbers, in the printed form, reverses; a plain lemma, no condition beside the bound that it names. -/
import Derived.Test.YtemmchnfflakmaaX9
namespace Go.Proofs.Ytemmchnfflakmaa.Rev
open Go.RowKit Go.Proofs.Ytemmchnfflakmaa.X Go.Proofs.YtemmchnfflakmaaW.PrintWords Go.Proofs.YtemmchnfflakmaaW.PrintLast
set_option linter.unusedVariables false
set_option linter.unusedSimpArgs false

theorem wid {x : Int} (h0 : -9223372036854775808 ≤ x) (h1 : x ≤ 9223372036854775807) : wrap64 x = x := by unfold wrap64; omega
theorem rd_some (l : List Int) (i : Nat) (h : i < l.length) : l[i]? = some (rd l (i : Int)) := by
  unfold rd
  rw [Int.toNat_natCast, List.getD_eq_getElem?_getD, List.getElem?_eq_getElem h]; rfl
/-- What stands at j, when the ends up to i have been exchanged. -/
theorem rev_l0 (l : List Int) (hl : l.length ≤ 1048576) : ∀ (d k i : Nat) (x : List Int), l.length ≤ 2 * i + d → 2 * i ≤ l.length + 1 → d < k → x.length = l.length →
    (∀ j, j < l.length → x[j]? = if j < i ∨ l.length - 1 - j < i then l.reverse[j]? else l[j]?) →
    slices_Reverse_int_int.l0 k x (i : Int) ((l.length : Int) - 1 - i) = some l.reverse := by
  intro d
  induction d with
  | zero =>
    intro k i x hi hi2 hk hx he
    obtain ⟨k, rfl⟩ : ∃ m, k = m + 1 := ⟨k - 1, by omega⟩
    simp only [slices_Reverse_int_int.l0]
    rw [if_neg (by omega)]
    congr 1
    apply List.ext_getElem?
    intro j
    by_cases hj : j < l.length
    · rw [he j hj, if_pos (by omega)]
    · rw [List.getElem?_eq_none (by omega), List.getElem?_eq_none (by simp; omega)]
  | succ d ih =>
    intro k i x hi hi2 hk hx he
    obtain ⟨k, rfl⟩ : ∃ m, k = m + 1 := ⟨k - 1, by omega⟩
    simp only [slices_Reverse_int_int.l0]
    by_cases hlt : (i : Int) < (l.length : Int) - 1 - i
    · rw [if_pos hlt, if_pos (by omega), if_pos (by omega), if_pos (by omega), if_pos (by omega), wid (x := (i : Int) + 1) (by omega) (by omega), wid (x := (l.length : Int) - 1 - i - 1) (by omega) (by omega)]
      have e1 : ((l.length : Int) - 1 - i).toNat = l.length - 1 - i := by omega
      have r1 := rd_some x i (by omega)
      have r2 := rd_some x (l.length - 1 - i) (by omega)
      rw [show ((l.length - 1 - i : Nat) : Int) = (l.length : Int) - 1 - i from by omega] at r2
      have q1 := he i (by omega)
      have q2 := he (l.length - 1 - i) (by omega)
      rw [if_neg (by omega)] at q1
      rw [if_neg (by omega)] at q2
      have := ih k (i + 1) ((x.set ((i : Nat) : Int).toNat (rd x ((l.length : Int) - 1 - i))).set ((l.length : Int) - 1 - i).toNat (rd x (i : Int))) (by omega) (by omega) (by omega) (by simp; exact hx) (fun j hj => ?_)
      · rw [show ((i + 1 : Nat) : Int) = (i : Int) + 1 from by omega, show (l.length : Int) - 1 - ((i : Int) + 1) = (l.length : Int) - 1 - i - 1 from by omega] at this
        exact this
      · rw [Int.toNat_natCast, e1, List.getElem?_set, List.getElem?_set]
        by_cases ja : j = i
        · subst ja
          rw [if_neg (by omega), if_pos rfl, if_pos (by omega), if_pos (by omega), ← r2, q2, List.getElem?_reverse (by omega)]
        · by_cases jb : j = l.length - 1 - i
          · subst jb
            rw [if_pos rfl, if_pos (by simp; omega), if_pos (by omega), ← r1, q1, List.getElem?_reverse (by omega)]
            congr 1
            omega
          · rw [if_neg (by omega), if_neg (by omega), he j hj]
            by_cases c : j < i ∨ l.length - 1 - j < i
            · rw [if_pos c, if_pos (by omega)]
            · rw [if_neg c, if_neg (by omega)]
    · rw [if_neg hlt]
      congr 1
      apply List.ext_getElem?
      intro j
      by_cases hj : j < l.length
      · rw [he j hj]
        by_cases c : j < i ∨ l.length - 1 - j < i
        · rw [if_pos c]
        · rw [if_neg c, List.getElem?_reverse (by omega)]
          congr 1
          omega
      · rw [List.getElem?_eq_none (by omega), List.getElem?_eq_none (by simp; omega)]
theorem reverse (l : List Int) (hl : l.length ≤ 1048576) (k : Nat) (hk : l.length < k) : slices_Reverse_int_int.f k l = some l.reverse := by
  unfold slices_Reverse_int_int.f
  rw [wid (x := (l.length : Int) - 1) (by omega) (by omega)]
  have := rev_l0 l hl l.length k 0 l (by omega) (by omega) hk rfl (fun j hj => by rw [if_neg (by omega)])
  simpa using this
end Go.Proofs.Ytemmchnfflakmaa.Rev
