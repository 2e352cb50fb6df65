/- The program's FenceBetween answers as the reference's FenceBetween does, and leaves its list alone, for all arguments that the law lets in; no condition beside that. -/
import Derived.Test.YtihjikmpbbjbfaaZ8
import Derived.Test.YtihjikmpbbjbfaaZLawStr
import Derived.Test.YtihjikmpbbjbfaaZLand
import Derived.Test.YtihjikmpbbjbfaaZOwner
import Derived.Test.YtihjikmpbbjbfaaZSides
namespace Go.Proofs.Ytihjikmpbbjbfaa.Pure
open Go.RowKit Go.Proofs.Ytihjikmpbbjbfaa.Z Go.Proofs.YtihjikmpbbjbfaaW.PrintWords Go.Proofs.YtihjikmpbbjbfaaW.PrintLast Go.Proofs.Ytihjikmpbbjbfaa Go.Proofs.Ytihjikmpbbjbfaa.Owner
set_option linter.unusedVariables false
set_option linter.unusedSimpArgs false

theorem core (l : List ByteArray) (hl : l.length ≤ 1048576) (a b : ByteArray) (Q : Nat) (hQ : 3000 < Q) : ∃ v : Int × Bool, spec_FenceBetween.f Q l a b = some v ∧ impl_FenceBetween.f Q l a b = some v := by
  obtain ⟨q, hb, hg⟩ := Land.land l hl
  obtain ⟨g1, g2⟩ := hg Q (by omega)
  unfold spec_FenceBetween.f impl_FenceBetween.f spec_fiAsked.f impl_isOwned.f
  rw [g1, g2, owner_some, owner_some]
  cases q with
  | false => exact ⟨(0, false), rfl, rfl⟩
  | true =>
    have ok := hb.1 rfl
    simp only [Option.bind_some, if_true, Bool.true_and, List.all_cons, List.all_nil, Bool.and_true]
    by_cases hc : impl_isColour.colour a = true
    · by_cases hd : impl_isColour.colour b = true
      · obtain ⟨s1, c1, c2⟩ := colour_size a hc
        obtain ⟨s2, d1, d2⟩ := colour_size b hd
        rw [hc, hd]
        simp only [if_true, Bool.and_self]
        by_cases e : a.toList = b.toList
        · rw [if_pos e, if_pos e]
          exact ⟨(0, false), rfl, rfl⟩
        · have hne : bt a 0 ≠ bt b 0 := by
            intro h
            apply e
            have hh : ∀ z : ByteArray, z.size = 1 → ∃ o, z = ⟨#[o]⟩ := by
              intro z hz
              obtain ⟨⟨d⟩⟩ := z
              match d, hz with
              | [o], _ => exact ⟨o, rfl⟩
            obtain ⟨o, rfl⟩ := hh a s1
            obtain ⟨p, rfl⟩ := hh b s2
            have x1 : bt ⟨#[o]⟩ 0 = (o.toNat : Int) := rfl
            have x2 : bt ⟨#[p]⟩ 0 = (p.toNat : Int) := rfl
            rw [x1, x2] at h
            have : o = p := UInt8.toNat_inj.1 (by omega)
            rw [this]
          rw [if_neg e, if_neg e, if_pos (by omega), if_pos (by omega), Sides.fences l ok (bt a 0) (bt b 0) Q (by omega), Sides.sides l ok _ Q (by omega), Sides.between l ok (bt a 0) (bt b 0) ⟨c1, c2⟩ ⟨d1, d2⟩ hne]
          exact ⟨_, rfl, rfl⟩
      · have hd := Bool.eq_false_iff.mpr hd
        rw [hc, hd]
        exact ⟨(0, false), rfl, rfl⟩
    · have hc := Bool.eq_false_iff.mpr hc
      rw [hc]
      exact ⟨(0, false), rfl, rfl⟩

theorem FnExactFenceBetween : laws_FnExactFenceBetween.Pure := by
  intro l a b hm hs _ _
  by_cases ha : (a.size : Int) > 1048576
  · refine ⟨0, ?_⟩
    unfold laws_FnExactFenceBetween.f
    simp [ha]
  by_cases hb : (b.size : Int) > 1048576
  · refine ⟨0, ?_⟩
    unfold laws_FnExactFenceBetween.f
    simp [ha, hb]
  rcases LawStr.sized l hm hs with ⟨r, hr, K, hK⟩ | ⟨hl, hs', r, hr, hK⟩
  · refine ⟨K, ?_⟩
    unfold laws_FnExactFenceBetween.f
    simp [ha, hb, hK K (Nat.le_refl _), hr]
  · obtain ⟨Q, hQ⟩ : ∃ Q, Q = l.length + 5000 := ⟨_, rfl⟩
    obtain ⟨v, v1, v2⟩ := core l hl a b Q (by omega)
    have e1 := LawStr.toStringS l hl Q (by omega)
    have e2 := LawStr.eqStringS l hl Q (by omega)
    have n0 : ¬ r < 0 := by omega
    refine ⟨Q, ?_⟩
    unfold laws_FnExactFenceBetween.f
    simp [ha, hb, hK Q (by omega), e1, e2, v1, v2, n0]
end Go.Proofs.Ytihjikmpbbjbfaa.Pure
