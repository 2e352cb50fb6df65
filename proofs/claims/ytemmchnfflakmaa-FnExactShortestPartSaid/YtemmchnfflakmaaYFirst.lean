/- The first place of a number in a list; plain lemmas, no condition beside those named. -/
import Derived.Test.YtemmchnfflakmaaY3
import Derived.Test.YtemmchnfflakmaaYParts
namespace Go.Proofs.Ytemmchnfflakmaa.First
open Go.RowKit Go.Proofs.Ytemmchnfflakmaa.Y Go.Proofs.YtemmchnfflakmaaW.PrintWords Go.Proofs.YtemmchnfflakmaaW.PrintLast Go.Proofs.Ytemmchnfflakmaa.Gates
set_option linter.unusedVariables false
set_option linter.unusedSimpArgs false

theorem index_l0 (p : List Int) (m : Int) (t : Nat) (hp : p.length ≤ 1048576) (ht : t < p.length) (hm : rd p (t : Int) = m) (hn : ∀ j : Nat, j < t → rd p (j : Int) ≠ m) : ∀ (d k i : Nat), i + d = t → d < k → slices_Index_int_int.l0 k p m (p.length : Int) (i : Int) = some (t : Int) := by
  intro d
  induction d with
  | zero =>
    intro k i hi hk
    obtain ⟨k, rfl⟩ : ∃ m, k = m + 1 := ⟨k - 1, by omega⟩
    obtain rfl : i = t := by omega
    simp only [slices_Index_int_int.l0]
    rw [if_pos (by omega), if_pos (by omega), if_pos (by omega), if_pos hm.symm]
  | succ d ih =>
    intro k i hi hk
    obtain ⟨k, rfl⟩ : ∃ m, k = m + 1 := ⟨k - 1, by omega⟩
    simp only [slices_Index_int_int.l0]
    have := hn i (by omega)
    rw [if_pos (by omega), if_pos (by omega), if_pos (by omega), if_neg (fun e => this e.symm), wid (x := (i : Int) + 1) (by omega) (by omega)]
    exact ih k (i + 1) (by omega) (by omega)
theorem index (p : List Int) (m : Int) (t : Nat) (hp : p.length ≤ 1048576) (ht : t < p.length) (hm : rd p (t : Int) = m) (hn : ∀ j : Nat, j < t → rd p (j : Int) ≠ m) (k : Nat) (hk : p.length < k) : slices_Index_int_int.f k p m = some (t : Int) := by
  unfold slices_Index_int_int.f
  exact index_l0 p m t hp ht hm hn t k 0 (by omega) (by omega)
end Go.Proofs.Ytemmchnfflakmaa.First
