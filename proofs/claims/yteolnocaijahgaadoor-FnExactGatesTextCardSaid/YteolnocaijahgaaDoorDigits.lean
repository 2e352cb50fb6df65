/- Numbers as texts, as the program and as the reference write them: plain lemmas, no condition beside those named. -/
import Derived.Test.YteolnocaijahgaaDoorX1
import Derived.Test.YteolnocaijahgaaDoorX3
import Derived.Lib.Join
namespace Go.Proofs.YteolnocaijahgaaDoor.Digits
open Go.RowKit Go.Proofs.YteolnocaijahgaaDoor.X Go.Proofs.YteolnocaijahgaaDoorW.PrintWords Go.Proofs.YteolnocaijahgaaDoorW.PrintLast
set_option linter.unusedVariables false
set_option linter.unusedSimpArgs false

theorem wid {x : Int} (h0 : -9223372036854775808 ≤ x) (h1 : x ≤ 9223372036854775807) : wrap64 x = x := by unfold wrap64; omega
/-- The bytes of a text. -/
def B (x : ByteArray) : List UInt8 := x.data.toList
theorem B_length (x : ByteArray) : (B x).length = x.size := by unfold B; exact Array.length_toList
theorem B_append (x y : ByteArray) : B (x ++ y) = B x ++ B y := by unfold B; simp [ByteArray.data_append]
theorem B_mk (x : ByteArray) (l : List UInt8) (h : B x = l) : x = ⟨l.toArray⟩ := by
  subst h
  obtain ⟨⟨d⟩⟩ := x
  rfl
/-- A small number's text. -/
def T (n : Int) : ByteArray := ⟨(Lib.decDigits n.toNat).toArray⟩
theorem T_B (n : Int) : B (T n) = Lib.decDigits n.toNat := rfl
theorem T_size (n : Int) (h : n < 100) : (T n).size ≤ 2 := by
  rw [← B_length, T_B]
  rw [Lib.decDigits]
  split
  · simp
  · rw [Lib.decDigits, dif_pos (by omega)]
    simp
theorem one (n : Int) (h0 : 0 ≤ n) (h1 : n < 10) : strOfNums [(wrap64 (48 + n)) % 256] = T n := by
  have e : (wrap64 (48 + n)) % 256 = 48 + n := by rw [wid (by omega) (by omega)]; omega
  have hn : n.toNat < 10 := by omega
  unfold T
  rw [e, Lib.decDigits, dif_pos hn]
  show (⟨([48 + n].map fun m : Int => UInt8.ofNat m.toNat).toArray⟩ : ByteArray) = _
  rw [List.map_cons, List.map_nil, show (48 + n).toNat = 48 + n.toNat by omega]
theorem num (k : Nat) (hk : 2 ≤ k) (n : Int) (h0 : 0 ≤ n) (h1 : n < 100) : spec_l1Num.f k n = some (T n) := by
  obtain ⟨k, rfl⟩ : ∃ m, k = m + 2 := ⟨k - 2, by omega⟩
  by_cases h : n < 10
  · unfold spec_l1Num.f
    rw [if_pos h, one n h0 h]
  · have hd : Int.tdiv n 10 = n / 10 := Int.tdiv_eq_ediv_of_nonneg h0
    have hm : Int.tmod n 10 = n % 10 := Int.tmod_eq_emod_of_nonneg h0
    unfold spec_l1Num.f
    rw [if_neg h, hd, hm, wid (x := n / 10) (by omega) (by omega)]
    unfold spec_l1Num.f
    rw [if_pos (by omega), one (n / 10) (by omega) (by omega), Option.bind_some, Option.bind_some, one (n % 10) (by omega) (by omega), if_pos (by have := T_size (n / 10) (by omega); have := T_size (n % 10) (by omega); omega)]
    congr 1
    refine (B_mk _ _ ?_).trans (B_mk (T n) _ rfl).symm
    rw [B_append, T_B, T_B, T_B, Lib.decDigits.eq_def n.toNat, dif_neg (by omega)]
    rw [show (n / 10).toNat = n.toNat / 10 by omega, show (n % 10).toNat = n.toNat % 10 by omega]
    congr 1
    rw [Lib.decDigits, dif_pos (by omega)]
theorem itoa (n : Int) (h0 : 0 ≤ n) (h1 : n < 100) : strconv_Itoa.f n = some (T n) := by
  unfold strconv_Itoa.f
  rw [if_pos ⟨h0, h1⟩]
  rfl
end Go.Proofs.YteolnocaijahgaaDoor.Digits
