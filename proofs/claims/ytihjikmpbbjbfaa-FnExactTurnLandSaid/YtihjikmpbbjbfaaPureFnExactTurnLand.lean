/- The program's TurnLand answers as the reference's TurnLand does, in memory of its own, and leaves its list alone, for all arguments that the law lets in; no condition beside that. -/
import Derived.Test.YtihjikmpbbjbfaaU5
import Derived.Test.YtihjikmpbbjbfaaULawStr
import Derived.Test.YtihjikmpbbjbfaaULand
import Derived.Test.YtihjikmpbbjbfaaUMarkStr
namespace Go.Proofs.Ytihjikmpbbjbfaa.Pure
open Go.RowKit Go.Proofs.Ytihjikmpbbjbfaa.U Go.Proofs.YtihjikmpbbjbfaaW.PrintWords Go.Proofs.YtihjikmpbbjbfaaW.PrintLast Go.Proofs.Ytihjikmpbbjbfaa Go.Proofs.Ytihjikmpbbjbfaa.LawStr
set_option linter.unusedVariables false
set_option linter.unusedSimpArgs false

theorem row0 (l : List ByteArray) : rdOf ByteArray.empty l 0 = Land.row l 0 := rfl
/-- One byte more. -/
theorem snoc (xs : List Int) (s : ByteArray) (c : Nat) (hc : c < s.size) : strOfNums (xs ++ [bt s (c : Int)]) = strOfNums xs ++ s.extract c (c + 1) := by
  apply ByteArray.ext
  apply Array.ext'
  have h1 : (s.extract c (c + 1)).data.toList = [s[c]'hc] := by
    rw [ByteArray.data_extract, Array.toList_extract, List.extract_eq_take_drop]
    rw [show c + 1 - c = 1 by omega]
    have hl : c < s.data.toList.length := hc
    rw [List.drop_eq_getElem_cons hl, List.take_succ_cons, List.take_zero]
    rfl
  rw [ByteArray.data_append, Array.toList_append, h1]
  show (List.map (fun n : Int => UInt8.ofNat n.toNat) (xs ++ [bt s (c : Int)])) = (List.map (fun n : Int => UInt8.ofNat n.toNat) xs) ++ _
  rw [List.map_append, List.map_cons, List.map_nil]
  congr 2
  unfold bt
  rw [dif_pos (by rw [Int.toNat_natCast]; exact hc)]
  simp
/-- The column's numbers. -/
def nums (l : List ByteArray) (x : Nat) : Nat → List Int
  | 0 => []
  | m + 1 => nums l x m ++ [bt (rdOf ByteArray.empty l ((l.length : Int) - 1 - (m : Int))) (x : Int)]
theorem nums_len (l : List ByteArray) (x : Nat) : ∀ m, (nums l x m).length = m
  | 0 => rfl
  | m + 1 => by unfold nums; rw [List.length_append, nums_len l x m]; rfl
theorem nums_col (l : List ByteArray) (x n : Nat) (hx : x < n) (h : ∀ y, y < l.length → (rdOf ByteArray.empty l (y : Int)).size = n) : ∀ m, m ≤ l.length → strOfNums (nums l x m) = spec_TurnLand.col l x m
  | 0, _ => rfl
  | m + 1, hm => by
    unfold nums spec_TurnLand.col
    have e : ((l.length : Int) - 1 - (m : Int)) = ((l.length - 1 - m : Nat) : Int) := by omega
    rw [snoc _ _ x (by rw [e, h _ (by omega)]; exact hx), nums_col l x n hx h m (by omega)]
theorem inner (l : List ByteArray) (n x : Nat) (hl : l.length ≤ 12) (hx : x < n) (h : ∀ y, y < l.length → (rdOf ByteArray.empty l (y : Int)).size = n) (L : List ByteArray) (hL : L.length ≤ 100) (B : Nat) (r : List ByteArray × Bool)
    (out : ∀ k, B < k → impl_TurnLand.l0 k l (L ++ [spec_TurnLand.col l x l.length]) (n : Int) (wrap64 ((x : Int) + 1)) = some r) : ∀ (d k m : Nat), m + d = l.length → d + B + 1 < k →
    impl_TurnLand.l1 k l L (x : Int) (nums l x m) ((l.length : Int) - 1 - (m : Int)) (n : Int) (x : Int) = some r := by
  intro d
  induction d with
  | zero =>
    intro k m hm hk
    obtain ⟨k, rfl⟩ : ∃ q, k = q + 1 := ⟨k - 1, by omega⟩
    obtain rfl : m = l.length := by omega
    simp only [impl_TurnLand.l1]
    rw [if_neg (by omega), if_pos (by omega), nums_col l x n hx h _ (Nat.le_refl _)]
    exact out k (by omega)
  | succ d ih =>
    intro k m hm hk
    obtain ⟨k, rfl⟩ : ∃ q, k = q + 1 := ⟨k - 1, by omega⟩
    have e : ((l.length : Int) - 1 - (m : Int)) = ((l.length - 1 - m : Nat) : Int) := by omega
    have h1 := h (l.length - 1 - m) (by omega)
    rw [← e] at h1
    have h2 := nums_len l x m
    simp only [impl_TurnLand.l1]
    rw [if_pos (by omega), if_pos (by omega), if_pos (by omega), if_pos (by omega), if_pos (by omega), if_pos (by omega), wid (x := (l.length : Int) - 1 - (m : Int) - 1) (by omega) (by omega)]
    have := ih k (m + 1) (by omega) (by omega)
    rw [show (l.length : Int) - 1 - ((m + 1 : Nat) : Int) = (l.length : Int) - 1 - (m : Int) - 1 by omega] at this
    exact this
theorem outer (l : List ByteArray) (n : Nat) (hl : l.length ≤ 12) (hn : n ≤ 12) (h : ∀ y, y < l.length → (rdOf ByteArray.empty l (y : Int)).size = n) : ∀ (d k x : Nat), x + d = n → d * 20 < k →
    impl_TurnLand.l0 k l (spec_TurnLand.turn l x) (n : Int) (x : Int) = some (spec_TurnLand.turn l n, true) := by
  intro d
  induction d with
  | zero =>
    intro k x hx hk
    obtain ⟨k, rfl⟩ : ∃ q, k = q + 1 := ⟨k - 1, by omega⟩
    obtain rfl : x = n := by omega
    simp only [impl_TurnLand.l0]
    rw [if_neg (by omega)]
  | succ d ih =>
    intro k x hx hk
    obtain ⟨k, rfl⟩ : ∃ q, k = q + 1 := ⟨k - 1, by omega⟩
    simp only [impl_TurnLand.l0]
    have e : wrap64 ((l.length : Int) - 1) = (l.length : Int) - 1 - ((0 : Nat) : Int) := by rw [wid (by omega) (by omega)]; omega
    rw [if_pos (by omega), e]
    have ht : (spec_TurnLand.turn l x).length = x := by unfold spec_TurnLand.turn; rw [List.length_map, List.length_range]
    refine inner l n x hl (by omega) h (spec_TurnLand.turn l x) (by omega) (d * 20) _ (fun k hk => ?_) l.length k 0 (by omega) (by omega)
    have es : spec_TurnLand.turn l x ++ [spec_TurnLand.col l x l.length] = spec_TurnLand.turn l (x + 1) := by unfold spec_TurnLand.turn; rw [List.range_succ, List.map_append]; rfl
    rw [es, wid (x := (x : Int) + 1) (by omega) (by omega)]
    exact ih k (x + 1) (by omega) hk

theorem core (l : List ByteArray) (hl : l.length ≤ 1048576) (Q : Nat) (hQ : 400 < Q) :
    ∃ r : List ByteArray × Bool, r.1.length ≤ 1000 ∧ spec_TurnLand.f Q l = some r ∧ impl_TurnLand.f Q l = some r := by
  obtain ⟨b, hb, hg⟩ := Land.land l hl
  obtain ⟨g1, g2⟩ := hg Q (by omega)
  cases b with
  | false =>
    refine ⟨([], false), by simp, ?_, ?_⟩
    · unfold spec_TurnLand.f
      rw [g1]; rfl
    · unfold impl_TurnLand.f
      rw [g2]; rfl
  | true =>
    have ok := hb.1 rfl
    have h1 := ok.1
    have h2 := (ok.2 0 (by omega)).2.1
    have hs : ∀ y, y < l.length → (rdOf ByteArray.empty l (y : Int)).size = (Land.row l 0).size := fun y hy => (ok.2 y hy).1
    refine ⟨(spec_TurnLand.turn l (Land.row l 0).size, true), ?_, ?_, ?_⟩
    · show (spec_TurnLand.turn l _).length ≤ 1000
      unfold spec_TurnLand.turn
      rw [List.length_map, List.length_range]
      omega
    · unfold spec_TurnLand.f
      rw [g1, Option.bind_some, if_pos rfl, row0, if_pos]
      refine ⟨by omega, by omega, by omega, hs, fun c hc => ?_⟩
      have := (ok.2 0 (by omega)).2.2 c hc
      have e : (((Land.row l 0).get! c).toNat : Int) = bt (Land.row l 0) (c : Int) := by
        rw [← bt_at (Land.row l 0) (c : Int) (by rw [Int.toNat_natCast]; exact hc), show (Land.row l 0).get! c = (Land.row l 0)[c]'hc from get_at _ _ hc]
        simp
      rcases this with h | h <;> omega
    · unfold impl_TurnLand.f
      rw [g2, Option.bind_some, if_pos rfl, if_pos (by omega), row0]
      exact outer l (Land.row l 0).size h1.2 h2.2 hs (Land.row l 0).size Q 0 (by omega) (by omega)

theorem FnExactTurnLand : laws_FnExactTurnLand.Pure := by
  intro l hm hs
  rcases LawStr.sized l hm hs with ⟨r, hr, K, hK⟩ | ⟨hl, hs', r, hr, hK⟩
  · refine ⟨K, ?_⟩
    unfold laws_FnExactTurnLand.f
    rw [hK K (Nat.le_refl _), Option.bind_some, if_pos hr]
  · obtain ⟨Q, hQ⟩ : ∃ Q, Q = l.length + 5000 := ⟨_, rfl⟩
    obtain ⟨v, hv, v1, v2⟩ := core l hl Q (by omega)
    have e1 := LawStr.toStringS l hl Q (by omega)
    have e2 := LawStr.eqStringS l hl Q (by omega)
    have e3 := LawStr.eqStringS v.1 (by omega) Q (by omega)
    obtain ⟨y1, m1, _⟩ := MarkStr.marked l hl
    obtain ⟨y2, m2, n2⟩ := MarkStr.marked v.1 (by omega)
    have m1 := m1 Q (by omega)
    have m2 := m2 Q (by omega)
    have n2 := n2 Q (by omega)
    have c1 : ¬ (1 + (l.length : Int)) < 0 := by omega
    have c2 : ¬ (1 + (v.1.length : Int)) < 0 := by omega
    have n0 : ¬ r < 0 := by omega
    refine ⟨Q, ?_⟩
    unfold laws_FnExactTurnLand.f
    rw [hK Q (by omega)]
    simp [e1, e2, e3, v1, v2, n0, m1, m2, n2, c1, c2]
end Go.Proofs.Ytihjikmpbbjbfaa.Pure
