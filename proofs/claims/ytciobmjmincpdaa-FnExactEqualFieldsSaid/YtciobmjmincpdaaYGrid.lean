/- Rows of pairs: the laws' own helpers over rows of rows (comparison, marks); plain lemmas, no condition beside those named. -/
import Derived.Test.YtciobmjmincpdaaY2
import Derived.Test.YtciobmjmincpdaaY1
import Derived.Test.YtciobmjmincpdaaYLawInt
namespace Go.Proofs.Ytciobmjmincpdaa.Grid
open Go.RowKit Go.Proofs.Ytciobmjmincpdaa.Y Go.Proofs.YtciobmjmincpdaaW.PrintWords Go.Proofs.YtciobmjmincpdaaW.PrintLast Go.Proofs.Ytciobmjmincpdaa
set_option linter.unusedVariables false
set_option linter.unusedSimpArgs false

theorem wid {x : Int} (h0 : -9223372036854775808 ≤ x) (h1 : x ≤ 9223372036854775807) : wrap64 x = x := by unfold wrap64; omega
theorem getL (l : List (List Int)) (i : Nat) (h : i < l.length) : rd_L1 l (i : Int) = l[i] := by
  unfold rd_L1; rw [Int.toNat_natCast, List.getD_eq_getElem?_getD, List.getElem?_eq_getElem h]; rfl
theorem eq_l0 (l : List (List Int)) (hl : l.length ≤ 1048576) (hs : ∀ y ∈ l, y.length = 2) : ∀ (d k i : Nat), i + d = l.length → d + 3 < k → laws_eqIntSS.l0 k l l (i : Int) = some true := by
  intro d
  induction d with
  | zero =>
    intro k i hi hk
    obtain ⟨k, rfl⟩ : ∃ m, k = m + 1 := ⟨k - 1, by omega⟩
    simp only [laws_eqIntSS.l0]
    rw [if_neg (by omega)]
  | succ d ih =>
    intro k i hi hk
    obtain ⟨k, rfl⟩ : ∃ m, k = m + 1 := ⟨k - 1, by omega⟩
    have hz : l[i].length = 2 := hs _ (List.getElem_mem _)
    simp only [laws_eqIntSS.l0]
    rw [if_pos (by omega), if_pos (by omega), if_pos (by omega), getL l i (by omega), LawInt.eqIntS l[i] (by omega) k (by omega), Option.bind_some, if_pos rfl, wid (x := (i : Int) + 1) (by omega) (by omega)]
    exact ih k (i + 1) (by omega) (by omega)
theorem eqSS (l : List (List Int)) (hl : l.length ≤ 1048576) (hs : ∀ y ∈ l, y.length = 2) (k : Nat) (hk : l.length + 3 < k) : laws_eqIntSS.f k l l = some true := by
  unfold laws_eqIntSS.f
  rw [if_pos rfl]
  exact eq_l0 l hl hs l.length k 0 (by omega) hk
theorem mark_go (k : Nat) (hk : 3 ≤ k) : ∀ (l : List (List Int)) (m : Int), 0 ≤ m → m + 2 * (l.length : Int) ≤ 3000000 → (∀ e ∈ l, e.length = 2) →
    ∃ l3, laws_markIntSS.go k l m = some (m + 2 * (l.length : Int), l3) ∧ l3.length = l.length ∧ ∀ i, i < l.length → ∃ y, l3[i]? = some y ∧ y.length = 2 ∧ ∀ j : Nat, j < 2 → y[0 + j]? = some (m + 2 * (i : Int) + (j : Int))
  | [], m, h0, h1, h2 => ⟨[], by simp [laws_markIntSS.go], rfl, fun i hi => absurd hi (Nat.not_lt_zero _)⟩
  | x :: t, m, h0, h1, h2 => by
    simp only [List.length_cons] at h1 ⊢
    obtain ⟨y, e1, e2, _, e4⟩ := LawInt.markIntS_l0 2 (by omega) 2 k 0 x m (by omega) (by omega) (h2 x (List.mem_cons_self ..)) h0 (by omega)
    obtain ⟨l3, f1, f2, f3⟩ := mark_go k hk t (m + 2) (by omega) (by omega) (fun e he => h2 e (List.mem_cons_of_mem _ he))
    refine ⟨y :: l3, ?_, by simp [f2], fun i hi => ?_⟩
    · unfold laws_markIntSS.go laws_markIntS.f
      have e1' : laws_markIntS.l0 k x m 0 = some (m + 2, y) := e1
      rw [e1', Option.bind_some, f1, Option.bind_some]
      show some (m + 2 + 2 * (t.length : Int), y :: l3) = _
      congr 2
      omega
    · cases i with
      | zero => exact ⟨y, rfl, e2, fun j hj => by rw [e4 j hj]; simp⟩
      | succ i =>
        obtain ⟨z, g1, g2, g3⟩ := f3 i (by omega)
        refine ⟨z, by rw [List.getElem?_cons_succ]; exact g1, g2, fun j hj => ?_⟩
        rw [g3 j hj]
        congr 1
        omega
theorem held_l0 (l3 : List (List Int)) (m : Int) (h0 : 0 ≤ m) (hm : m + 2 * (l3.length : Int) ≤ 3000000) (h3 : ∀ i, i < l3.length → ∃ y, l3[i]? = some y ∧ y.length = 2 ∧ ∀ j : Nat, j < 2 → y[0 + j]? = some (m + 2 * (i : Int) + (j : Int))) :
    ∀ (d k i : Nat), i + d = l3.length → d + 3 < k → laws_heldIntSS.l0 k l3 (m + 2 * (i : Int)) (i : Int) = some (m + 2 * (l3.length : Int)) := by
  intro d
  induction d with
  | zero =>
    intro k i hi hk
    obtain ⟨k, rfl⟩ : ∃ m, k = m + 1 := ⟨k - 1, by omega⟩
    simp only [laws_heldIntSS.l0]
    rw [if_neg (by omega)]
    congr 2
    omega
  | succ d ih =>
    intro k i hi hk
    obtain ⟨k, rfl⟩ : ∃ m, k = m + 1 := ⟨k - 1, by omega⟩
    obtain ⟨y, g1, g2, g3⟩ := h3 i (by omega)
    simp only [laws_heldIntSS.l0, laws_heldIntS.f]
    have hy : rd_L1 l3 (i : Int) = y := by
      rw [getL l3 i (by omega)]
      rw [List.getElem?_eq_getElem (by omega)] at g1
      exact Option.some.inj g1
    have hh := LawInt.heldIntS_l0 2 (by omega) y g2 2 k 0 (m + 2 * (i : Int)) (by omega) (by omega) (by omega) (by omega) g3
    have hh' : laws_heldIntS.l0 k y (m + 2 * (i : Int)) 0 = some (m + 2 * (i : Int) + 2) := hh
    rw [if_pos (by omega), if_pos (by omega), hy, hh', Option.bind_some, if_neg (by omega), wid (x := (i : Int) + 1) (by omega) (by omega)]
    have := ih k (i + 1) (by omega) (by omega)
    rw [show m + 2 * ((i + 1 : Nat) : Int) = m + 2 * (i : Int) + 2 by omega] at this
    exact this
/-- Rows of pairs are marked, and are found marked. -/
theorem markedSS (l : List (List Int)) (hl : l.length ≤ 1000000) (hs : ∀ y ∈ l, y.length = 2) (k : Nat) (hk : l.length + 3 < k) : ∃ l3, laws_markIntSS.f k l 1 = some (1 + 2 * (l.length : Int), l3) ∧ laws_heldIntSS.f k l3 1 = some (1 + 2 * (l.length : Int)) := by
  obtain ⟨l3, h1, h2, h3⟩ := mark_go k (by omega) l 1 (by omega) (by omega) hs
  refine ⟨l3, ?_, ?_⟩
  · unfold laws_markIntSS.f
    rw [if_pos hl, h1]
  · unfold laws_heldIntSS.f
    have := held_l0 l3 1 (by omega) (by omega) (fun i hi => h3 i (by omega)) l3.length k 0 (by omega) (by omega)
    rw [h2] at this
    exact this
end Go.Proofs.Ytciobmjmincpdaa.Grid
