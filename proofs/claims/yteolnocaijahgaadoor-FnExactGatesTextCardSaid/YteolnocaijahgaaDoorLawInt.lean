/- What the laws' own helpers over lists of whole numbers come to (copies, comparisons, marks): plain lemmas; no condition beside the bounds that each names. -/
import Derived.Test.YteolnocaijahgaaDoorX2
import Derived.Test.YteolnocaijahgaaDoorX3
namespace Go.Proofs.YteolnocaijahgaaDoor.LawInt
open Go.RowKit Go.Proofs.YteolnocaijahgaaDoor.X Go.Proofs.YteolnocaijahgaaDoorW.PrintWords Go.Proofs.YteolnocaijahgaaDoorW.PrintLast
set_option linter.unusedVariables false
set_option linter.unusedSimpArgs false

theorem wid {x : Int} (h0 : -9223372036854775808 ≤ x) (h1 : x ≤ 9223372036854775807) : wrap64 x = x := by unfold wrap64; omega
theorem rd_nat (l : List Int) (i : Nat) : rd l (i : Int) = l.getD i 0 := by unfold rd; rw [Int.toNat_natCast]
theorem rd_get (l : List Int) (i : Nat) (h : i < l.length) : rd l (i : Int) = l[i] := by
  rw [rd_nat, List.getD_eq_getElem?_getD, List.getElem?_eq_getElem h]; rfl

theorem toIntS_l0 (l : List Int) (hl : l.length ≤ 1048576) : ∀ (d k i : Nat) (y : List Int), i + d = l.length → d < k → y.length = l.length → (∀ j, j < i → y[j]? = l[j]?) →
    laws_toIntS.l0 k l y (i : Int) = some l := by
  intro d
  induction d with
  | zero =>
    intro k i y hi hk hy he
    obtain ⟨k, rfl⟩ : ∃ m, k = m + 1 := ⟨k - 1, by omega⟩
    simp only [laws_toIntS.l0]
    rw [if_neg (by omega)]
    congr 1
    apply List.ext_getElem?
    intro j
    by_cases hj : j < i
    · exact he j hj
    · rw [List.getElem?_eq_none (by omega), List.getElem?_eq_none (by omega)]
  | succ d ih =>
    intro k i y hi hk hy he
    obtain ⟨k, rfl⟩ : ∃ m, k = m + 1 := ⟨k - 1, by omega⟩
    simp only [laws_toIntS.l0]
    rw [if_pos (by omega), if_pos (by omega), if_pos (by omega), wid (x := (i : Int) + 1) (by omega) (by omega), Int.toNat_natCast]
    refine ih k (i + 1) _ (by omega) (by omega) (by rw [List.length_set]; exact hy) ?_
    intro j hj
    rw [List.getElem?_set]
    by_cases e : i = j
    · subst e
      rw [if_pos rfl, if_pos (by omega), rd_get l i (by omega), List.getElem?_eq_getElem (by omega)]
    · rw [if_neg e]
      exact he j (by omega)
theorem toIntS (l : List Int) (hl : l.length ≤ 1048576) (k : Nat) (hk : l.length < k) : laws_toIntS.f k l = some l := by
  unfold laws_toIntS.f
  rw [if_pos (by omega), Int.toNat_natCast, if_pos (by omega)]
  exact toIntS_l0 l hl l.length k 0 _ (by omega) hk (by simp) (by intro j hj; omega)

theorem eqIntS_l0 (l : List Int) (hl : l.length ≤ 1048576) : ∀ (d k i : Nat), i + d = l.length → d < k → laws_eqIntS.l0 k l l (i : Int) = some true := by
  intro d
  induction d with
  | zero =>
    intro k i hi hk
    obtain ⟨k, rfl⟩ : ∃ m, k = m + 1 := ⟨k - 1, by omega⟩
    simp only [laws_eqIntS.l0]
    rw [if_neg (by omega)]
  | succ d ih =>
    intro k i hi hk
    obtain ⟨k, rfl⟩ : ∃ m, k = m + 1 := ⟨k - 1, by omega⟩
    simp only [laws_eqIntS.l0]
    rw [if_pos (by omega), if_pos (by omega), if_pos (by omega), if_pos trivial, wid (x := (i : Int) + 1) (by omega) (by omega)]
    exact ih k (i + 1) (by omega) (by omega)
theorem eqIntS (l : List Int) (hl : l.length ≤ 1048576) (k : Nat) (hk : l.length < k) : laws_eqIntS.f k l l = some true := by
  unfold laws_eqIntS.f
  rw [if_pos rfl]
  exact eqIntS_l0 l hl l.length k 0 (by omega) hk

end Go.Proofs.YteolnocaijahgaaDoor.LawInt
