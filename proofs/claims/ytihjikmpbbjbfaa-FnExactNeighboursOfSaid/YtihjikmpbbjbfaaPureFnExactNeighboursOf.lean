/- The program's NeighboursOf answers as the reference's NeighboursOf does, and leaves its list alone, for all arguments that the law lets in; no condition beside that. -/
import Derived.Test.YtihjikmpbbjbfaaV8
import Derived.Test.YtihjikmpbbjbfaaVLawStr
import Derived.Test.YtihjikmpbbjbfaaVLand
import Derived.Test.YtihjikmpbbjbfaaVOwner
import Derived.Test.YtihjikmpbbjbfaaVSides
namespace Go.Proofs.Ytihjikmpbbjbfaa.Pure
open Go.RowKit Go.Proofs.Ytihjikmpbbjbfaa.V Go.Proofs.YtihjikmpbbjbfaaW.PrintWords Go.Proofs.YtihjikmpbbjbfaaW.PrintLast Go.Proofs.Ytihjikmpbbjbfaa Go.Proofs.Ytihjikmpbbjbfaa.Owner
set_option linter.unusedVariables false
set_option linter.unusedSimpArgs false

theorem letters : ∀ i : Nat, i < 5 → (⟨#[97, 98, 99, 100, 101]⟩ : ByteArray).extract i (i + 1) = Go.Utf8.encode (97 + (i : Int)) ∧ impl_isColour.colour (Go.Utf8.encode (97 + (i : Int))) = true ∧ bt (Go.Utf8.encode (97 + (i : Int))) 0 = 97 + (i : Int) ∧ (Go.Utf8.encode (97 + (i : Int))).size = 1 := by
  intro i hi
  match i, hi with
  | 0, _ => exact ⟨rfl, rfl, rfl, rfl⟩
  | 1, _ => exact ⟨rfl, rfl, rfl, rfl⟩
  | 2, _ => exact ⟨rfl, rfl, rfl, rfl⟩
  | 3, _ => exact ⟨rfl, rfl, rfl, rfl⟩
  | 4, _ => exact ⟨rfl, rfl, rfl, rfl⟩

theorem same_bytes (a b : ByteArray) (s1 : a.size = 1) (s2 : b.size = 1) : a.toList = b.toList ↔ bt a 0 = bt b 0 := by
  have hh : ∀ z : ByteArray, z.size = 1 → ∃ o, z = ⟨#[o]⟩ := by
    intro z hz
    obtain ⟨⟨d⟩⟩ := z
    match d, hz with
    | [o], _ => exact ⟨o, rfl⟩
  obtain ⟨o, rfl⟩ := hh a s1
  obtain ⟨p, rfl⟩ := hh b s2
  have x1 : bt ⟨#[o]⟩ 0 = (o.toNat : Int) := rfl
  have x2 : bt ⟨#[p]⟩ 0 = (p.toNat : Int) := rfl
  rw [x1, x2]
  constructor
  · intro h
    have e1 : (⟨#[o]⟩ : ByteArray).toList = [o] := ByteArray.toList_mk [o]
    have e2 : (⟨#[p]⟩ : ByteArray).toList = [p] := ByteArray.toList_mk [p]
    rw [e1, e2] at h
    injection h with h
    rw [h]
  · intro h
    have : o = p := UInt8.toNat_inj.1 (by omega)
    rw [this]

theorem between (l : List ByteArray) (hl : l.length ≤ 1048576) (ok : Land.OK l) (a b : ByteArray) (hc : impl_isColour.colour a = true) (hd : impl_isColour.colour b = true) (Q : Nat) (hQ : 3000 < Q) :
    impl_FenceBetween.f Q l a b = some (if bt a 0 = bt b 0 then (0, false) else (Sides.F l (bt a 0) (bt b 0), true)) := by
  obtain ⟨q, hb, hg⟩ := Land.land l hl
  obtain ⟨g1, g2⟩ := hg Q (by omega)
  rw [hb.2 ok] at g2
  obtain ⟨s1, c1, c2⟩ := colour_size a hc
  obtain ⟨s2, d1, d2⟩ := colour_size b hd
  unfold impl_FenceBetween.f impl_isOwned.f
  rw [g2]
  simp only [Option.bind_some, if_true, Bool.true_and, List.all_cons, List.all_nil, Bool.and_true, hc, hd]
  by_cases e : bt a 0 = bt b 0
  · rw [if_pos ((same_bytes a b s1 s2).2 e), if_pos e]
  · rw [if_neg (fun h => e ((same_bytes a b s1 s2).1 h)), if_neg e, Sides.sides l ok _ Q (by omega), Sides.between l ok (bt a 0) (bt b 0) ⟨c1, c2⟩ ⟨d1, d2⟩ e]
    rfl

theorem run (l : List ByteArray) (hl : l.length ≤ 1048576) (ok : Land.OK l) (a : ByteArray) (hc : impl_isColour.colour a = true) : ∀ (d i : Nat) (x : ByteArray), i + d = 5 → x.size ≤ i →
    ∃ r, ∀ K, 4000 + d < K → spec_NeighboursOf.l0 K l a x (97 + (i : Int)) = some r ∧ impl_NeighboursOf.l0 K l a x (i : Int) = some r := by
  intro d
  obtain ⟨s1, c1, c2⟩ := colour_size a hc
  induction d with
  | zero =>
    intro i x h1 h2
    refine ⟨(x, true), fun K hK => ?_⟩
    obtain ⟨K, rfl⟩ : ∃ m, K = m + 1 := ⟨K - 1, by omega⟩
    simp only [spec_NeighboursOf.l0, impl_NeighboursOf.l0]
    constructor
    · rw [if_neg (by omega)]
    · rw [if_neg (by omega)]
  | succ d ih =>
    intro i x h1 h2
    obtain ⟨e1, e2, e3, e4⟩ := letters i (by omega)
    have w1 : wrap64 ((i : Int) + 1) = (i : Int) + 1 := LawStr.wid (by omega) (by omega)
    have w2 : wrap32 (97 + (i : Int)) = 97 + (i : Int) := by unfold wrap32; omega
    have w3 : (97 + (i : Int) + 1) % 256 = 97 + ((i + 1 : Nat) : Int) := by omega
    have t1 : (i : Int).toNat = i := Int.toNat_natCast i
    have t2 : ((i : Int) + 1).toNat = i + 1 := by omega
    have i1 : (i : Int) + 1 = ((i + 1 : Nat) : Int) := by omega
    by_cases c : 97 + (i : Int) = bt a 0
    · obtain ⟨r, hr⟩ := ih (i + 1) x (by omega) (by omega)
      refine ⟨r, fun K hK => ?_⟩
      obtain ⟨K, rfl⟩ : ∃ m, K = m + 1 := ⟨K - 1, by omega⟩
      obtain ⟨q1, q2⟩ := hr K (by omega)
      have f := between l hl ok a _ hc e2 K (by omega)
      rw [e3, if_pos c.symm] at f
      simp only [spec_NeighboursOf.l0, impl_NeighboursOf.l0]
      constructor
      · rw [if_pos (by omega), if_pos (by omega), if_pos c, w3]
        exact q1
      · rw [if_pos (by omega), if_pos (by omega), w1, if_pos (by omega), if_pos (by omega), t1, t2, e1, f, Option.bind_some, if_neg (by simp), i1]
        exact q2
    · by_cases p : Sides.F l (bt a 0) (97 + (i : Int)) > 0
      · obtain ⟨r, hr⟩ := ih (i + 1) (x ++ Go.Utf8.encode (97 + (i : Int))) (by omega) (by rw [ByteArray.size_append, e4]; omega)
        refine ⟨r, fun K hK => ?_⟩
        obtain ⟨K, rfl⟩ : ∃ m, K = m + 1 := ⟨K - 1, by omega⟩
        obtain ⟨q1, q2⟩ := hr K (by omega)
        have f := between l hl ok a _ hc e2 K (by omega)
        rw [e3, if_neg (fun h => c h.symm)] at f
        simp only [spec_NeighboursOf.l0, impl_NeighboursOf.l0]
        constructor
        · rw [if_pos (by omega), if_pos (by omega), if_neg c, Sides.fences l ok _ _ K (by omega), Option.bind_some, if_pos p, w2, e4, if_pos (by omega), w3]
          exact q1
        · rw [if_pos (by omega), if_pos (by omega), w1, if_pos (by omega), if_pos (by omega), t1, t2, e1, f, Option.bind_some, if_pos rfl, if_pos p, e4, if_pos (by omega), i1]
          exact q2
      · obtain ⟨r, hr⟩ := ih (i + 1) x (by omega) (by omega)
        refine ⟨r, fun K hK => ?_⟩
        obtain ⟨K, rfl⟩ : ∃ m, K = m + 1 := ⟨K - 1, by omega⟩
        obtain ⟨q1, q2⟩ := hr K (by omega)
        have f := between l hl ok a _ hc e2 K (by omega)
        rw [e3, if_neg (fun h => c h.symm)] at f
        simp only [spec_NeighboursOf.l0, impl_NeighboursOf.l0]
        constructor
        · rw [if_pos (by omega), if_pos (by omega), if_neg c, Sides.fences l ok _ _ K (by omega), Option.bind_some, if_neg p, w3]
          exact q1
        · rw [if_pos (by omega), if_pos (by omega), w1, if_pos (by omega), if_pos (by omega), t1, t2, e1, f, Option.bind_some, if_pos rfl, if_neg p, i1]
          exact q2

theorem core (l : List ByteArray) (hl : l.length ≤ 1048576) (a : ByteArray) (Q : Nat) (hQ : 4500 < Q) : ∃ v : ByteArray × Bool, spec_NeighboursOf.f Q l a = some v ∧ impl_NeighboursOf.f Q l a = some v := by
  obtain ⟨b, hb, hg⟩ := Land.land l hl
  obtain ⟨g1, g2⟩ := hg Q (by omega)
  unfold spec_NeighboursOf.f impl_NeighboursOf.f spec_fiAsked.f impl_isOwned.f
  rw [g1, g2, owner_some]
  cases b with
  | false => exact ⟨(⟨#[]⟩, false), rfl, rfl⟩
  | true =>
    have ok := hb.1 rfl
    simp only [Option.bind_some, if_true, Bool.true_and, List.all_cons, List.all_nil, Bool.and_true]
    by_cases hc : impl_isColour.colour a = true
    · obtain ⟨r, hr⟩ := run l hl ok a hc 5 0 (⟨#[]⟩ : ByteArray) (by omega) (Nat.le_refl _)
      obtain ⟨q1, q2⟩ := hr Q (by omega)
      rw [hc, if_pos rfl, if_pos rfl]
      exact ⟨r, q1, q2⟩
    · have hc := Bool.eq_false_iff.mpr hc
      rw [hc]
      exact ⟨(⟨#[]⟩, false), rfl, rfl⟩

theorem FnExactNeighboursOf : laws_FnExactNeighboursOf.Pure := by
  intro l a hm hs _
  by_cases ha : (a.size : Int) > 1048576
  · refine ⟨0, ?_⟩
    unfold laws_FnExactNeighboursOf.f
    rw [if_pos ha]
  rcases LawStr.sized l hm hs with ⟨r, hr, K, hK⟩ | ⟨hl, hs', r, hr, hK⟩
  · refine ⟨K, ?_⟩
    unfold laws_FnExactNeighboursOf.f
    rw [if_neg ha, hK K (Nat.le_refl _), Option.bind_some, if_pos hr]
  · obtain ⟨Q, hQ⟩ : ∃ Q, Q = l.length + 5000 := ⟨_, rfl⟩
    obtain ⟨v, v1, v2⟩ := core l hl a Q (by omega)
    have e1 := LawStr.toStringS l hl Q (by omega)
    have e2 := LawStr.eqStringS l hl Q (by omega)
    have n0 : ¬ r < 0 := by omega
    refine ⟨Q, ?_⟩
    unfold laws_FnExactNeighboursOf.f
    rw [if_neg ha, hK Q (by omega)]
    simp [e1, e2, v1, v2, n0]
end Go.Proofs.Ytihjikmpbbjbfaa.Pure
