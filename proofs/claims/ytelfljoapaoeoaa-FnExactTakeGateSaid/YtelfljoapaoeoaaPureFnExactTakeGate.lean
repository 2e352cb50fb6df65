/- The program's TakeGate answers as the reference's TakeGate does, in memory of its own, and leaves its list alone, for all arguments that the law lets in; no condition beside that. -/
import Derived.Test.YtelfljoapaoeoaaV4
import Derived.Test.YtelfljoapaoeoaaVLawInt
import Derived.Test.YtelfljoapaoeoaaVGates
namespace Go.Proofs.Ytelfljoapaoeoaa.Pure
open Go.RowKit Go.Proofs.Ytelfljoapaoeoaa.V Go.Proofs.YtelfljoapaoeoaaW.PrintWords Go.Proofs.YtelfljoapaoeoaaW.PrintLast Go.Proofs.Ytelfljoapaoeoaa Go.Proofs.Ytelfljoapaoeoaa.Gates
set_option linter.unusedVariables false
set_option linter.unusedSimpArgs false

theorem has_l0 (l : List Int) (v : Int) (hl : l.length ≤ 1048576) : ∀ (d k i : Nat), i + d = l.length → d < k →
    (∃ b, spec_l1Has.l0 k v l (l.length : Int) (i : Int) = some b ∧ ∃ n, slices_Index_int_int.l0 k l v (l.length : Int) (i : Int) = some n ∧ b = decide (n ≥ 0) ∧ (b = true → 0 < l.length)) := by
  intro d
  induction d with
  | zero =>
    intro k i hi hk
    obtain ⟨k, rfl⟩ : ∃ m, k = m + 1 := ⟨k - 1, by omega⟩
    refine ⟨false, ?_, -1, ?_, rfl, by simp⟩
    · simp only [spec_l1Has.l0]
      rw [if_neg (by omega)]
    · simp only [slices_Index_int_int.l0]
      rw [if_neg (by omega)]
  | succ d ih =>
    intro k i hi hk
    obtain ⟨k, rfl⟩ : ∃ m, k = m + 1 := ⟨k - 1, by omega⟩
    by_cases c : rd l (i : Int) = v
    · refine ⟨true, ?_, (i : Int), ?_, ?_, fun _ => by omega⟩
      · simp only [spec_l1Has.l0]
        rw [if_pos (by omega), if_pos (by omega), if_pos (by omega), if_pos c]
      · simp only [slices_Index_int_int.l0]
        rw [if_pos (by omega), if_pos (by omega), if_pos (by omega), if_pos c.symm]
      · exact (decide_eq_true (by omega)).symm
    · obtain ⟨b, hb, n, hn, e, hz⟩ := ih k (i + 1) (by omega) (by omega)
      rw [show ((i + 1 : Nat) : Int) = (i : Int) + 1 from by omega] at hb hn
      refine ⟨b, ?_, n, ?_, e, hz⟩
      · simp only [spec_l1Has.l0]
        rw [if_pos (by omega), if_pos (by omega), if_pos (by omega), if_neg c, wid (x := (i : Int) + 1) (by omega) (by omega)]
        exact hb
      · simp only [slices_Index_int_int.l0]
        rw [if_pos (by omega), if_pos (by omega), if_pos (by omega), if_neg (fun h => c h.symm), wid (x := (i : Int) + 1) (by omega) (by omega)]
        exact hn

theorem spec_l0 (l : List Int) (v : Int) (hl : l.length ≤ 1048576) : ∀ (d k i : Nat) (out : List Int), i + d = l.length → d < k → out.length ≤ i →
    spec_TakeGate.l0 k v out l (l.length : Int) (i : Int) = some (out ++ (l.drop i).filter (fun x => !(x == v)), true) := by
  intro d
  induction d with
  | zero =>
    intro k i out hi hk ho
    obtain ⟨k, rfl⟩ : ∃ m, k = m + 1 := ⟨k - 1, by omega⟩
    simp only [spec_TakeGate.l0]
    rw [if_neg (by omega), List.drop_of_length_le (by omega), List.filter_nil, List.append_nil]
  | succ d ih =>
    intro k i out hi hk ho
    obtain ⟨k, rfl⟩ : ∃ m, k = m + 1 := ⟨k - 1, by omega⟩
    simp only [spec_TakeGate.l0]
    rw [if_pos (by omega), if_pos (by omega), if_pos (by omega), rd_get l i (by omega), wid (x := (i : Int) + 1) (by omega) (by omega), List.drop_eq_getElem_cons (by omega : i < l.length), show (i : Int) + 1 = ((i + 1 : Nat) : Int) from by omega]
    by_cases c : l[i] = v
    · rw [if_pos c, ih k (i + 1) out (by omega) (by omega) (by omega), List.filter_cons_of_neg (by simp [c])]
    · rw [if_neg c, if_pos (by omega), ih k (i + 1) (out ++ [l[i]]) (by omega) (by omega) (by simp; omega), List.filter_cons_of_pos (by simp [c]), List.append_assoc]
      rfl

theorem core (a : Int) (l : List Int) (v : Int) (hl : l.length ≤ 1048576) : ∃ K r, l.length < K ∧ r.1.length ≤ 1048576 ∧ r.1.length < K ∧ spec_TakeGate.f K a l v = some r ∧ impl_TakeGate.f K a l v = some r := by
  obtain ⟨b, hb, hg⟩ := gates a l hl
  obtain ⟨g1, g2⟩ := hg (l.length + 20) (by omega)
  unfold spec_TakeGate.f impl_TakeGate.f
  cases b with
  | false =>
    refine ⟨l.length + 20, ([], false), by omega, by simp, by simp, ?_, ?_⟩
    · rw [g1]; rfl
    · rw [g2]; rfl
  | true =>
    obtain ⟨b, hb, n, hn, e, hz⟩ := has_l0 l v hl l.length (l.length + 20) 0 (by omega) (by omega)
    have h1 : spec_l1Has.f (l.length + 20) l v = some b := hb
    have h2 : slices_Contains_int_int.f (l.length + 20) l v = some b := by
      unfold slices_Contains_int_int.f slices_Index_int_int.f
      have hn' : slices_Index_int_int.l0 (l.length + 20) l v (l.length : Int) 0 = some n := hn
      rw [hn', Option.bind_some, e]
    cases b with
    | false =>
      refine ⟨l.length + 20, ([], false), by omega, by simp, by simp, ?_, ?_⟩
      · rw [g1, Option.bind_some, if_pos rfl, h1]; rfl
      · rw [g2, Option.bind_some, if_pos rfl, h2]; rfl
    | true =>
      have hp := hz rfl
      have hf : (l.filter fun x => !(x == v)).length ≤ l.length := List.length_filter_le _ _
      refine ⟨l.length + 20, (l.filter (fun x => !(x == v)), true), by omega, by show (l.filter fun x => !(x == v)).length ≤ _; omega, by show (l.filter fun x => !(x == v)).length < _; omega, ?_, ?_⟩
      · have q := spec_l0 l v hl l.length (l.length + 19) 0 [] (by omega) (by omega) (Nat.le_refl _)
        rw [List.drop_zero, List.nil_append] at q
        rw [g1, Option.bind_some, if_pos rfl, h1, Option.bind_some, show l.length + 20 = (l.length + 19) + 1 from rfl]
        simp only [spec_TakeGate.j0, Bool.not_true]
        rw [if_neg (by simp)]
        exact q
      · unfold slices_Clone_int_int.f
        rw [g2, Option.bind_some, if_pos rfl, h2, Option.bind_some, if_pos rfl, if_neg (by intro h; rw [h] at hp; simp at hp), if_pos (by omega), Option.bind_some]

theorem TakeGate_law (a : Int) (l : List Int) (v : Int) (K : Nat) (r : List Int × Bool) (hl : l.length ≤ 1048576) (kl : l.length < K) (hr : r.1.length ≤ 1048576) (kr : r.1.length < K) (hs : spec_TakeGate.f K a l v = some r) (hi : impl_TakeGate.f K a l v = some r) : ∃ k, laws_FnExactTakeGate.f k a l v = some true := by
  have hTl : ∀ j, laws_toIntS.f (K + j) l = some l := fun j => LawInt.toIntS l hl _ (by omega)
  have hEl : ∀ j, laws_eqIntS.f (K + j) l l = some true := fun j => LawInt.eqIntS l hl _ (by omega)
  obtain ⟨yl, hMl0, _⟩ := LawInt.marked l hl
  have hMl : ∀ j, laws_markIntS.f (K + j) l 1 = some (1 + (l.length : Int), yl) := fun j => hMl0 _ (by omega)
  have nl : ¬ (1 + (l.length : Int)) < 0 := by omega
  have hs' : ∀ j, spec_TakeGate.f (K + j) a l v = some r := fun j => at_rounds (g := fun k => spec_TakeGate.f k a l v) (spec_TakeGate.mono a l v) (Nat.le_add_right K j) hs
  have hi' : ∀ j, impl_TakeGate.f (K + j) a l v = some r := fun j => at_rounds (g := fun k => impl_TakeGate.f k a l v) (impl_TakeGate.mono a l v) (Nat.le_add_right K j) hi
  have hE : ∀ j, laws_eqIntS.f (K + j) r.1 r.1 = some true := fun j => LawInt.eqIntS r.1 hr _ (by omega)
  obtain ⟨y, hM0, hH0⟩ := LawInt.marked r.1 hr
  have hM : ∀ j, laws_markIntS.f (K + j) r.1 1 = some (1 + (r.1.length : Int), y) := fun j => hM0 _ (by omega)
  have hH : ∀ j, laws_heldIntS.f (K + j) y 1 = some (1 + (r.1.length : Int)) := fun j => hH0 _ (by omega)
  have n0 : ¬ (1 + (r.1.length : Int)) < 0 := by omega
  refine ⟨K + 20, ?_⟩
  unfold laws_FnExactTakeGate.f
  rw [if_neg (by omega)]
  simp [hTl, hEl, hMl, nl, hs', hi', hE, hM, hH, n0]

theorem FnExactTakeGate : laws_FnExactTakeGate.Pure := by
  intro a l v _ _ _ _ _
  by_cases hl : (l.length : Int) > 1048576
  · refine ⟨0, ?_⟩
    unfold laws_FnExactTakeGate.f
    rw [if_pos hl]
  · obtain ⟨K, r, hK, hr, kr, hs, hi⟩ := core a l v (by omega)
    exact TakeGate_law a l v K r (by omega) hK hr kr hs hi
end Go.Proofs.Ytelfljoapaoeoaa.Pure
