/- What the laws' own helpers over lists of whole numbers come to (copies, comparisons, marks): plain lemmas; no condition beside the bounds that each names. -/
import Derived.Test.YtciobmjmincpdaaY1
import Derived.Test.YtciobmjmincpdaaY2
namespace Go.Proofs.Ytciobmjmincpdaa.LawInt
open Go.RowKit Go.Proofs.Ytciobmjmincpdaa.Y Go.Proofs.YtciobmjmincpdaaW.PrintWords Go.Proofs.YtciobmjmincpdaaW.PrintLast
set_option linter.unusedVariables false
set_option linter.unusedSimpArgs false

theorem wid {x : Int} (h0 : -9223372036854775808 ≤ x) (h1 : x ≤ 9223372036854775807) : wrap64 x = x := by unfold wrap64; omega
theorem rd_nat (l : List Int) (i : Nat) : rd l (i : Int) = l.getD i 0 := by unfold rd; rw [Int.toNat_natCast]
theorem rd_get (l : List Int) (i : Nat) (h : i < l.length) : rd l (i : Int) = l[i] := by
  rw [rd_nat, List.getD_eq_getElem?_getD, List.getElem?_eq_getElem h]; rfl

theorem eqIntS_l0 (l : List Int) (hl : l.length ≤ 1048576) : ∀ (d k i : Nat), i + d = l.length → d < k → laws_eqIntS.l0 k l l (i : Int) = some true := by
  intro d
  induction d with
  | zero =>
    intro k i hi hk
    obtain ⟨k, rfl⟩ : ∃ m, k = m + 1 := ⟨k - 1, by omega⟩
    simp only [laws_eqIntS.l0]
    rw [if_neg (by omega)]
  | succ d ih =>
    intro k i hi hk
    obtain ⟨k, rfl⟩ : ∃ m, k = m + 1 := ⟨k - 1, by omega⟩
    simp only [laws_eqIntS.l0]
    rw [if_pos (by omega), if_pos (by omega), if_pos (by omega), if_pos trivial, wid (x := (i : Int) + 1) (by omega) (by omega)]
    exact ih k (i + 1) (by omega) (by omega)
theorem eqIntS (l : List Int) (hl : l.length ≤ 1048576) (k : Nat) (hk : l.length < k) : laws_eqIntS.f k l l = some true := by
  unfold laws_eqIntS.f
  rw [if_pos rfl]
  exact eqIntS_l0 l hl l.length k 0 (by omega) hk

theorem markIntS_l0 (n : Nat) (hl : n ≤ 1048576) : ∀ (d k i : Nat) (x : List Int) (m : Int), i + d = n → d < k → x.length = n → 0 ≤ m → m + d ≤ 4000000 → 
    ∃ y, laws_markIntS.l0 k x m (i : Int) = some (m + d, y) ∧ y.length = n ∧ (∀ j, j < i → y[j]? = x[j]?) ∧ ∀ j, j < d → y[i + j]? = some (m + (j : Int)) := by
  intro d
  induction d with
  | zero =>
    intro k i x m hi hk hx hm hmd
    obtain ⟨k, rfl⟩ : ∃ m, k = m + 1 := ⟨k - 1, by omega⟩
    simp only [laws_markIntS.l0]
    rw [if_neg (by omega)]
    exact ⟨x, by simp, hx, fun _ _ => rfl, fun j hj => absurd hj (Nat.not_lt_zero _)⟩
  | succ d ih =>
    intro k i x m hi hk hx hm hmd
    obtain ⟨k, rfl⟩ : ∃ m, k = m + 1 := ⟨k - 1, by omega⟩
    simp only [laws_markIntS.l0]
    rw [if_pos (by omega), if_pos (by omega), wid (x := (i : Int) + 1) (by omega) (by omega), wid (x := m + 1) (by omega) (by omega), Int.toNat_natCast]
    obtain ⟨y, h1, h2, h3, h4⟩ := ih k (i + 1) (x.set i m) (m + 1) (by omega) (by omega) (by rw [List.length_set]; exact hx) (by omega) (by omega)
    refine ⟨y, ?_, h2, ?_, ?_⟩
    · refine Eq.trans h1 ?_
      congr 2
      omega
    · intro j hj
      rw [h3 j (by omega), List.getElem?_set, if_neg (by omega)]
    · intro j hj
      cases j with
      | zero =>
        rw [Nat.add_zero, h3 i (by omega), List.getElem?_set, if_pos rfl, if_pos (by omega)]
        simp
      | succ j =>
        have := h4 j (by omega)
        rw [show i + (j + 1) = i + 1 + j from by omega, this]
        congr 1
        omega
theorem heldIntS_l0 (n : Nat) (hl : n ≤ 1048576) (y : List Int) (hy : y.length = n) : ∀ (d k i : Nat) (m : Int), i + d = n → d < k → 0 ≤ m → m + d ≤ 4000000 → (∀ j, j < d → y[i + j]? = some (m + (j : Int))) →
    laws_heldIntS.l0 k y m (i : Int) = some (m + d) := by
  intro d
  induction d with
  | zero =>
    intro k i m hi hk hm hmd he
    obtain ⟨k, rfl⟩ : ∃ m, k = m + 1 := ⟨k - 1, by omega⟩
    simp only [laws_heldIntS.l0]
    rw [if_neg (by omega)]
    simp
  | succ d ih =>
    intro k i m hi hk hm hmd he
    obtain ⟨k, rfl⟩ : ∃ m, k = m + 1 := ⟨k - 1, by omega⟩
    simp only [laws_heldIntS.l0]
    have h0 := he 0 (by omega)
    have hr : rd y (i : Int) = m := by
      rw [rd_nat, List.getD_eq_getElem?_getD, show i = i + 0 from rfl, h0]
      simp
    rw [if_pos (by omega), if_pos (by omega), hr, if_pos rfl, wid (x := (i : Int) + 1) (by omega) (by omega), wid (x := m + 1) (by omega) (by omega)]
    refine Eq.trans (ih k (i + 1) (m + 1) (by omega) (by omega) (by omega) (by omega) (fun j hj => ?_)) ?_
    · have := he (j + 1) (by omega)
      rw [show i + 1 + j = i + (j + 1) from by omega, this]
      congr 1
      omega
    · congr 1
      omega
/-- A list is marked, and is found marked. -/
theorem marked (l : List Int) (hl : l.length ≤ 1048576) : ∃ y, (∀ k, l.length < k → laws_markIntS.f k l 1 = some (1 + (l.length : Int), y)) ∧ ∀ k, l.length < k → laws_heldIntS.f k y 1 = some (1 + (l.length : Int)) := by
  obtain ⟨y, h1, h2, _, h4⟩ := markIntS_l0 l.length hl l.length (l.length + 1) 0 l 1 (by omega) (by omega) rfl (by omega) (by omega)
  refine ⟨y, fun k hk => ?_, fun k hk => ?_⟩
  · unfold laws_markIntS.f
    exact at_rounds (g := fun k => laws_markIntS.l0 k l 1 0) (fun k => laws_markIntS.mono_l k _ _ _) (show l.length + 1 ≤ k by omega) h1
  · unfold laws_heldIntS.f
    exact heldIntS_l0 l.length hl y h2 l.length k 0 1 (by omega) hk (by omega) (by omega) (fun j hj => h4 j hj)
end Go.Proofs.Ytciobmjmincpdaa.LawInt
