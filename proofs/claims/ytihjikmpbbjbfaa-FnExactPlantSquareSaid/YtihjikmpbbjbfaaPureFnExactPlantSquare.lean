/- The program's PlantSquare answers as the reference's PlantSquare does, in memory of its own, and leaves its list alone, for all arguments that the law lets in; no condition beside that. -/
import Derived.Test.YtihjikmpbbjbfaaX12
import Derived.Test.YtihjikmpbbjbfaaLawStr
import Derived.Test.YtihjikmpbbjbfaaLand
import Derived.Test.YtihjikmpbbjbfaaOwner
import Derived.Test.YtihjikmpbbjbfaaMarkStr
namespace Go.Proofs.Ytihjikmpbbjbfaa.Pure
open Go.RowKit Go.Proofs.Ytihjikmpbbjbfaa.X Go.Proofs.YtihjikmpbbjbfaaW.PrintWords Go.Proofs.YtihjikmpbbjbfaaW.PrintLast Go.Proofs.Ytihjikmpbbjbfaa Go.Proofs.Ytihjikmpbbjbfaa.Owner Go.Proofs.Ytihjikmpbbjbfaa.LawStr
set_option linter.unusedVariables false
set_option linter.unusedSimpArgs false

/-- Whether there is such a square, as the reference asks for it. -/
def inside (l : List ByteArray) (x y : Int) : Prop := (0 ≤ y ∧ y ≤ (l.length : Int) - 1) ∧ 0 ≤ x ∧ x ≤ ((Land.row l 0).size : Int) - 1

theorem row0 (l : List ByteArray) : rdOf ByteArray.empty l 0 = Land.row l 0 := rfl
theorem place_some (l : List ByteArray) (ok : Land.OK l) (x y : Int) : ∃ b, spec_fiPlace.f l [x, y] = some b ∧ (b = true ↔ inside l x y) := by
  have h1 := ok.1
  have h2 := (ok.2 0 (by omega)).2.1
  unfold spec_fiPlace.f inside
  have e0 : rd [x, y] 0 = x := rfl
  have e1 : rd [x, y] 1 = y := rfl
  rw [row0, if_pos (by rfl), if_pos (by simp), if_pos (by omega), Land.in_some, Land.in_some, wid (x := ((Land.row l 0).size : Int) - 1) (by omega) (by omega), wid (x := (l.length : Int) - 1) (by omega) (by omega), Option.bind_some, e0, e1]
  by_cases c1 : 0 ≤ x ∧ x ≤ ((Land.row l 0).size : Int) - 1
  · rw [decide_eq_true c1, if_pos rfl, if_pos (by simp), Option.bind_some]
    exact ⟨_, rfl, by rw [decide_eq_true_eq]; exact ⟨fun h => ⟨h, c1⟩, fun h => h.1⟩⟩
  · rw [decide_eq_false c1, if_neg (by simp)]
    exact ⟨false, rfl, ⟨(fun h => by cases h), fun h => absurd h.2 c1⟩⟩
theorem at_some (l : List ByteArray) (ok : Land.OK l) (x y : Int) : ∃ v, impl_at.f l x y = some v ∧ (v = 32 ↔ ¬ inside l x y) := by
  have h1 := ok.1
  have h2 := (ok.2 0 (by omega)).2.1
  unfold impl_at.f inside
  rw [row0, Land.within_some, Land.within_some, wid (x := ((Land.row l 0).size : Int) - 1) (by omega) (by omega), wid (x := (l.length : Int) - 1) (by omega) (by omega), Option.bind_some]
  by_cases c1 : 0 ≤ y ∧ y ≤ (l.length : Int) - 1
  · rw [decide_eq_true c1, if_pos rfl, if_pos (by omega), Option.bind_some]
    by_cases c2 : 0 ≤ x ∧ x ≤ ((Land.row l 0).size : Int) - 1
    · obtain ⟨j, rfl⟩ : ∃ j : Nat, (j : Int) = y := ⟨y.toNat, by omega⟩
      obtain ⟨c, rfl⟩ : ∃ c : Nat, (c : Int) = x := ⟨x.toNat, by omega⟩
      have h3 := ok.2 j (by omega)
      have h4 := h3.2.2 c (by omega)
      have e : rdOf ByteArray.empty l (j : Int) = Land.row l j := rfl
      rw [decide_eq_true c2, if_pos rfl, if_pos (by omega), if_pos (by omega), if_pos (by omega), e, if_pos (by omega)]
      refine ⟨_, rfl, ?_⟩
      have : ¬ bt (Land.row l j) (c : Int) = 32 := by rcases h4 with h | h <;> omega
      exact ⟨fun h => absurd h this, fun h => absurd ⟨c1, c2⟩ h⟩
    · rw [decide_eq_false c2, if_neg (by simp)]
      exact ⟨32, rfl, ⟨fun _ h => c2 h.2, fun _ => rfl⟩⟩
  · rw [decide_eq_false c1, if_neg (by simp)]
    exact ⟨32, rfl, ⟨fun _ h => c1 h.1, fun _ => rfl⟩⟩

theorem own_some (l : List ByteArray) (h : l.length ≤ 12) : spec_l1OwnS.f l = some l := by
  unfold spec_l1OwnS.f
  rw [Option.bind_some, if_pos (by simp; omega), List.nil_append]
theorem clone_some (l : List ByteArray) (h : l.length ≤ 12) : slices_Clone_string_string.f l = some l := by
  unfold slices_Clone_string_string.f
  rw [if_pos (by omega)]

theorem core (l : List ByteArray) (hl : l.length ≤ 1048576) (x y : Int) (a : ByteArray) (ha : a.size ≤ 1048576) (Q : Nat) (hQ : 400 < Q) :
    ∃ r : List ByteArray × Bool, r.1.length ≤ l.length ∧ spec_PlantSquare.f Q l x y a = some r ∧ impl_PlantSquare.f Q l x y a = some r := by
  obtain ⟨b, hb, hg⟩ := Land.land l hl
  obtain ⟨g1, g2⟩ := hg Q (by omega)
  have z : ([] : List ByteArray).length ≤ l.length := Nat.zero_le _
  cases b with
  | false =>
    refine ⟨([], false), z, ?_, ?_⟩
    · unfold spec_PlantSquare.f
      rw [g1]; rfl
    · unfold impl_PlantSquare.f
      rw [g2]; rfl
  | true =>
    have ok := hb.1 rfl
    have h1 := ok.1
    have h2 := (ok.2 0 (by omega)).2.1
    obtain ⟨p, hp, pi⟩ := place_some l ok x y
    obtain ⟨v, hv, vi⟩ := at_some l ok x y
    by_cases c : inside l x y
    · have hp' : p = true := pi.2 c
      have hv' : ¬ v = 32 := fun e => vi.1 e c
      subst hp'
      obtain ⟨⟨c1, c1'⟩, c2, c2'⟩ := c
      have hj : y.toNat < l.length := by omega
      have hR : (rdOf ByteArray.empty l y).size = (Land.row l 0).size := by
        have := (ok.2 y.toNat hj).1
        unfold Land.row at this
        rw [Int.toNat_of_nonneg c1] at this
        exact this
      have f := own_some l h1.2
      have f' := clone_some l h1.2
      have e0 : wrap64 (x + 1) = x + 1 := wid (by omega) (by omega)
      have p1 : ((rdOf ByteArray.empty l y).extract 0 (x : Int).toNat).size + a.size ≤ 9223372036854775807 := by rw [ByteArray.size_extract]; omega
      have p2 : (((rdOf ByteArray.empty l y).extract 0 (x : Int).toNat) ++ a).size + ((rdOf ByteArray.empty l y).extract ((x + 1) : Int).toNat (rdOf ByteArray.empty l y).size).size ≤ 9223372036854775807 := by
        rw [ByteArray.size_append, ByteArray.size_extract, ByteArray.size_extract]; omega
      obtain ⟨V, hV⟩ : ∃ V, V = (((rdOf ByteArray.empty l y).extract 0 (x : Int).toNat) ++ a) ++ ((rdOf ByteArray.empty l y).extract ((x + 1) : Int).toNat (rdOf ByteArray.empty l y).size) := ⟨_, rfl⟩
      have zl : (l.set y.toNat V).length ≤ l.length := by rw [List.length_set]; exact Nat.le_refl _
      by_cases d : a.toList = ([46] : List UInt8)
      · refine ⟨(l.set y.toNat V, true), zl, ?_, ?_⟩
        · unfold spec_PlantSquare.f
          rw [g1, Option.bind_some, if_pos rfl, hp, Option.bind_some, if_pos rfl, if_pos d, f, Option.bind_some, if_pos c1, if_pos (by omega), if_pos c2, if_pos (by omega), if_pos p1, e0, if_pos (by omega), if_pos (by omega), if_pos p2, if_pos (by omega), hV]
        · unfold impl_PlantSquare.f
          rw [g2, Option.bind_some, if_pos rfl, hv, Option.bind_some, if_neg hv', if_pos d, f', Option.bind_some, if_pos c1, if_pos (by omega), if_pos c2, if_pos (by omega), if_pos p1, e0, if_pos (by omega), if_pos (by omega), if_pos p2, hV]
      · by_cases hc : impl_isColour.colour a = true
        · refine ⟨(l.set y.toNat V, true), zl, ?_, ?_⟩
          · unfold spec_PlantSquare.f
            rw [g1, Option.bind_some, if_pos rfl, hp, Option.bind_some, if_pos rfl, if_neg d, owner_some, hc, Option.bind_some, if_pos rfl, f, Option.bind_some, if_pos c1, if_pos (by omega), if_pos c2, if_pos (by omega), if_pos p1, e0, if_pos (by omega), if_pos (by omega), if_pos p2, if_pos (by omega), hV]
          · unfold impl_PlantSquare.f impl_isColour.f
            rw [g2, Option.bind_some, if_pos rfl, hv, Option.bind_some, if_neg hv', if_neg d, hc, Option.bind_some, if_pos rfl, f', Option.bind_some, if_pos c1, if_pos (by omega), if_pos c2, if_pos (by omega), if_pos p1, e0, if_pos (by omega), if_pos (by omega), if_pos p2, hV]
        · have hc := Bool.eq_false_iff.mpr hc
          refine ⟨([], false), z, ?_, ?_⟩
          · unfold spec_PlantSquare.f
            rw [g1, Option.bind_some, if_pos rfl, hp, Option.bind_some, if_pos rfl, if_neg d, owner_some, hc]; rfl
          · unfold impl_PlantSquare.f impl_isColour.f
            rw [g2, Option.bind_some, if_pos rfl, hv, Option.bind_some, if_neg hv', if_neg d, hc]; rfl
    · have hp' : p = false := Bool.eq_false_iff.mpr (fun e => c (pi.1 e))
      have hv' : v = 32 := vi.2 c
      subst hp'
      refine ⟨([], false), z, ?_, ?_⟩
      · unfold spec_PlantSquare.f
        rw [g1, Option.bind_some, if_pos rfl, hp]; rfl
      · unfold impl_PlantSquare.f
        rw [g2, Option.bind_some, if_pos rfl, hv, Option.bind_some, if_pos hv']

theorem FnExactPlantSquare : laws_FnExactPlantSquare.Pure := by
  intro l x y a hm hs _ _ _
  by_cases ha : (a.size : Int) > 1048576
  · refine ⟨0, ?_⟩
    unfold laws_FnExactPlantSquare.f
    rw [if_pos ha]
  rcases LawStr.sized l hm hs with ⟨r, hr, K, hK⟩ | ⟨hl, hs', r, hr, hK⟩
  · refine ⟨K, ?_⟩
    unfold laws_FnExactPlantSquare.f
    rw [if_neg ha, hK K (Nat.le_refl _), Option.bind_some, if_pos hr]
  · obtain ⟨Q, hQ⟩ : ∃ Q, Q = l.length + 500 := ⟨_, rfl⟩
    obtain ⟨v, hv, v1, v2⟩ := core l hl x y a (by omega) Q (by omega)
    have e1 := LawStr.toStringS l hl Q (by omega)
    have e2 := LawStr.eqStringS l hl Q (by omega)
    have e3 := LawStr.eqStringS v.1 (by omega) Q (by omega)
    obtain ⟨y1, m1, _⟩ := MarkStr.marked l hl
    obtain ⟨y2, m2, n2⟩ := MarkStr.marked v.1 (by omega)
    have m1 := m1 Q (by omega)
    have m2 := m2 Q (by omega)
    have n2 := n2 Q (by omega)
    have c1 : ¬ (1 + (l.length : Int)) < 0 := by omega
    have c2 : ¬ (1 + (v.1.length : Int)) < 0 := by omega
    have n0 : ¬ r < 0 := by omega
    refine ⟨Q, ?_⟩
    unfold laws_FnExactPlantSquare.f
    rw [if_neg ha, hK Q (by omega)]
    simp [e1, e2, e3, v1, v2, n0, m1, m2, n2, c1, c2]
end Go.Proofs.Ytihjikmpbbjbfaa.Pure
