/- Owners of land and lists of rows: plain lemmas, no condition beside those named. -/
import Derived.Test.YtihjikmpbbjbfaaVLand
import Derived.Test.YtihjikmpbbjbfaaV4
import Derived.Test.YtihjikmpbbjbfaaV2
namespace Go.Proofs.Ytihjikmpbbjbfaa.Owner
open Go.RowKit Go.Proofs.Ytihjikmpbbjbfaa.V Go.Proofs.YtihjikmpbbjbfaaW.PrintWords Go.Proofs.YtihjikmpbbjbfaaW.PrintLast Go.Proofs.Ytihjikmpbbjbfaa.LawStr Go.Proofs.Ytihjikmpbbjbfaa.Land
set_option linter.unusedVariables false
set_option linter.unusedSimpArgs false

theorem owner_some (a : ByteArray) : spec_fiOwner.f a = some (impl_isColour.colour a) := by
  unfold spec_fiOwner.f impl_isColour.colour
  by_cases h : a.size = 1
  · rw [if_pos (by omega), if_pos (by omega), letter_some, decide_eq_true h, Bool.true_and, Option.bind_some]
    congr 1
    by_cases c1 : 97 ≤ bt a 0
    · by_cases c2 : bt a 0 ≤ 101
      · rw [decide_eq_true c1, decide_eq_true c2, decide_eq_true ⟨c1, c2⟩]; rfl
      · rw [decide_eq_true c1, decide_eq_false c2, decide_eq_false (fun e => c2 e.2)]; rfl
    · rw [decide_eq_false c1, decide_eq_false (fun e => c1 e.1)]; rfl
  · rw [if_neg (by omega), decide_eq_false h]; rfl
theorem colour_size (a : ByteArray) (h : impl_isColour.colour a = true) : a.size = 1 ∧ 97 ≤ bt a 0 ∧ bt a 0 ≤ 101 := by
  unfold impl_isColour.colour at h
  simp only [Bool.and_eq_true, decide_eq_true_eq] at h
  exact ⟨h.1, h.2.1, h.2.2⟩
/-- The bytes of a text. -/
def B (x : ByteArray) : List UInt8 := x.data.toList
theorem B_length (x : ByteArray) : (B x).length = x.size := by unfold B; exact data_length x
theorem B_append (x y : ByteArray) : B (x ++ y) = B x ++ B y := by unfold B; simp [ByteArray.data_append]
theorem B_bt (x : ByteArray) (c : Nat) (h : c < x.size) : bt x (c : Int) = (((B x)[c]'(by rw [B_length]; exact h)).toNat : Int) := by
  unfold bt B
  rw [dif_pos (by rw [Int.toNat_natCast]; exact h)]
  rfl
theorem B_mk (x : ByteArray) (l : List UInt8) (h : B x = l) : x = ⟨l.toArray⟩ := by
  subst h
  obtain ⟨⟨d⟩⟩ := x
  rfl
theorem row_get (l : List ByteArray) (i : Nat) (h : i < l.length) : rdOf ByteArray.empty l (i : Int) = l[i] := rs_get l i h
end Go.Proofs.Ytihjikmpbbjbfaa.Owner
