/- The program's GatesText answers as the reference's GatesText does, and leaves its list alone, for all arguments that the law lets in; no condition beside that. -/
import Derived.Test.YteolnocaijahgaaDoorX4
import Derived.Test.YteolnocaijahgaaDoorLawInt
import Derived.Test.YteolnocaijahgaaDoorGates
import Derived.Test.YteolnocaijahgaaDoorDigits
namespace Go.Proofs.YteolnocaijahgaaDoor.Pure
open Go.RowKit Go.Proofs.YteolnocaijahgaaDoor.X Go.Proofs.YteolnocaijahgaaDoorW.PrintWords Go.Proofs.YteolnocaijahgaaDoorW.PrintLast Go.Proofs.YteolnocaijahgaaDoor Go.Proofs.YteolnocaijahgaaDoor.Gates Go.Proofs.YteolnocaijahgaaDoor.Digits
set_option linter.unusedVariables false
set_option linter.unusedSimpArgs false

/-- What the text is. -/
def txt (l : List Int) : List UInt8 := Lib.join ((l.map T).map B) [124]
theorem spec_loop (l : List Int) (hl : l.length ≤ 10) (ok : ∀ j : Nat, j < l.length → 1 ≤ rd l (j : Int) ∧ rd l (j : Int) ≤ 39) : ∀ (d k i : Nat) (x : ByteArray), 1 ≤ i → i + d = l.length → d + 3 < k → x.size ≤ 100 * i →
    ∃ r, spec_gaText.l0 k x l (l.length : Int) (i : Int) = some r ∧ B r = B x ++ Lib.joinTail [124] (((l.drop i).map T).map B) := by
  intro d
  induction d with
  | zero =>
    intro k i x h0 h1 h2 h3
    obtain ⟨k, rfl⟩ : ∃ m, k = m + 1 := ⟨k - 1, by omega⟩
    refine ⟨x, ?_, ?_⟩
    · simp only [spec_gaText.l0]
      rw [if_neg (by omega)]
    · rw [List.drop_of_length_le (by omega)]
      simp [Lib.joinTail]
  | succ d ih =>
    intro k i x h0 h1 h2 h3
    obtain ⟨k, rfl⟩ : ∃ m, k = m + 1 := ⟨k - 1, by omega⟩
    have hok := ok i (by omega)
    have hs := T_size (rd l (i : Int)) (by omega)
    have h124 : (⟨#[124]⟩ : ByteArray).size = 1 := rfl
    obtain ⟨r, hr, hb⟩ := ih k (i + 1) (x ++ (⟨#[124]⟩ : ByteArray) ++ T (rd l (i : Int))) (by omega) (by omega) (by omega) (by rw [ByteArray.size_append, ByteArray.size_append, h124]; omega)
    refine ⟨r, ?_, ?_⟩
    · simp only [spec_gaText.l0]
      rw [if_pos (by omega), if_pos (by omega), if_pos (by omega), if_pos (by omega), if_pos (by omega), num k (by omega) _ (by omega) (by omega), Option.bind_some, if_pos (by rw [ByteArray.size_append, h124]; omega), Digits.wid (x := (i : Int) + 1) (by omega) (by omega)]
      exact hr
    · rw [hb, B_append, B_append, List.drop_eq_getElem_cons (by omega : i < l.length), rd_get l i (by omega)]
      have e : Lib.joinTail [124] ((((l[i] :: l.drop (i + 1)).map T).map B)) = [124] ++ B (T l[i]) ++ Lib.joinTail [124] (((l.drop (i + 1)).map T).map B) := by
        unfold Lib.joinTail
        simp only [List.map_cons, List.flatten_cons]
      have e7 : B (⟨#[124]⟩ : ByteArray) = [124] := rfl
      rw [e, e7]
      simp only [List.append_assoc]
theorem spec_text (l : List Int) (hl : l.length ≤ 10) (ok : ∀ j : Nat, j < l.length → 1 ≤ rd l (j : Int) ∧ rd l (j : Int) ≤ 39) (k : Nat) (hk : 20 < k) : spec_gaText.f k l = some ⟨(txt l).toArray⟩ := by
  obtain ⟨k, rfl⟩ : ∃ m, k = m + 1 := ⟨k - 1, by omega⟩
  unfold spec_gaText.f
  cases l with
  | nil =>
    simp only [spec_gaText.l0]
    rw [if_neg (by simp)]
    rfl
  | cons a t =>
    have hok := ok 0 (by simp)
    have ra : rd (a :: t) 0 = a := rfl
    rw [show ((0 : Nat) : Int) = 0 from rfl, ra] at hok
    have hs := T_size a (by omega)
    have z : (⟨#[]⟩ : ByteArray).size = 0 := rfl
    have zb : B ((⟨#[]⟩ : ByteArray) ++ T a) = B (T a) := by rw [B_append]; rfl
    obtain ⟨r, hr, hb⟩ := spec_loop (a :: t) hl ok t.length k 1 ((⟨#[]⟩ : ByteArray) ++ T a) (by omega) (by simp; omega) (by simp at hl; omega) (by rw [ByteArray.size_append, z]; omega)
    have hB : B r = txt (a :: t) := by
      rw [hb, zb]
      unfold txt
      rw [List.map_cons, List.map_cons, Lib.join_cons]
      rfl
    simp only [spec_gaText.l0]
    rw [if_pos (by first | (simp; done) | (simp; omega)), if_pos (by omega), if_pos (by first | (simp; done) | (simp; omega)), if_neg (by omega), ra, num k (by omega) _ (by omega) (by omega), Option.bind_some, if_pos (by rw [z]; omega), Digits.wid (x := 0 + 1) (by omega) (by omega), ← hB]
    have e : r = ⟨(B r).toArray⟩ := B_mk r _ rfl
    rw [← e]
    exact hr
theorem lens_le : ∀ u : List Int, (∀ y ∈ u, y < 100) → Lib.lens ((u.map T).map B) ≤ 2 * u.length := by
  intro u
  induction u with
  | nil => intro _; exact Nat.le_refl _
  | cons y u ih =>
    intro h
    have h1 := ih (fun z hz => h z (List.mem_cons_of_mem _ hz))
    have h2 := T_size y (h y (List.mem_cons_self ..))
    have h3 : (B (T y)).length = (T y).size := B_length (T y)
    unfold Lib.lens at h1 ⊢
    simp only [List.map_cons, List.sum_cons, List.length_cons] at h1 ⊢
    rw [h3]
    omega
theorem txt_len (l : List Int) (hl : l.length ≤ 10) (h : ∀ y ∈ l, y < 100) : (txt l).length ≤ 1000 := by
  unfold txt
  cases l with
  | nil => simp [Lib.join_nil]
  | cons a t =>
    have h1 := lens_le t (fun y hy => h y (List.mem_cons_of_mem _ hy))
    have h2 := T_size a (h a (List.mem_cons_self ..))
    have h3 : (B (T a)).length = (T a).size := B_length (T a)
    rw [List.map_cons, List.map_cons, Lib.join_cons, List.length_append, Lib.joinTail_length, h3]
    simp only [List.length_cons, List.length_map, List.length_nil] at hl ⊢
    omega
theorem impl_loop (l : List Int) (hl : l.length ≤ 10) (ok : ∀ j : Nat, j < l.length → 1 ≤ rd l (j : Int) ∧ rd l (j : Int) ≤ 39) (s : ByteArray) : ∀ (d k i : Nat) (L : List ByteArray), i + d = l.length → d < k → L.length = i →
    impl_numbersText.l0 k s L l (l.length : Int) (i : Int) = (strings_Join.f (L ++ (l.drop i).map T) s).bind some := by
  intro d
  induction d with
  | zero =>
    intro k i L h1 h2 h3
    obtain ⟨k, rfl⟩ : ∃ m, k = m + 1 := ⟨k - 1, by omega⟩
    simp only [impl_numbersText.l0]
    rw [if_neg (by omega), List.drop_of_length_le (by omega), List.map_nil, List.append_nil]
  | succ d ih =>
    intro k i L h1 h2 h3
    obtain ⟨k, rfl⟩ : ∃ m, k = m + 1 := ⟨k - 1, by omega⟩
    have hok := ok i (by omega)
    simp only [impl_numbersText.l0]
    rw [if_pos (by omega), if_pos (by omega), if_pos (by omega), itoa _ (by omega) (by omega), Option.bind_some, if_pos (by omega), Digits.wid (x := (i : Int) + 1) (by omega) (by omega)]
    have := ih k (i + 1) (L ++ [T (rd l (i : Int))]) (by omega) (by omega) (by simp; omega)
    rw [show ((i + 1 : Nat) : Int) = (i : Int) + 1 by omega] at this
    rw [this, List.drop_eq_getElem_cons (by omega : i < l.length), List.map_cons, rd_get l i (by omega), List.append_assoc]
    rfl
theorem impl_text (l : List Int) (hl : l.length ≤ 10) (ok : ∀ j : Nat, j < l.length → 1 ≤ rd l (j : Int) ∧ rd l (j : Int) ≤ 39) (k : Nat) (hk : 20 < k) : impl_numbersText.f k l (⟨#[124]⟩ : ByteArray) = some ⟨(txt l).toArray⟩ := by
  unfold impl_numbersText.f
  rw [show (0 : Int) = ((0 : Nat) : Int) from rfl, impl_loop l hl ok _ l.length k 0 [] (by omega) (by omega) rfl, List.drop_zero, List.nil_append]
  have hall : ∀ y ∈ l, y < 100 := by
    intro y hy
    obtain ⟨j, hj, rfl⟩ := List.getElem_of_mem hy
    have := (ok j hj).2
    rw [rd_get l j hj] at this
    omega
  have h1 := txt_len l hl hall
  have e : strings_Join.f (l.map T) (⟨#[124]⟩ : ByteArray) = some ⟨(txt l).toArray⟩ := by
    unfold strings_Join.f
    have e1 : (Lib.join ((l.map T).map (·.data.toList)) (⟨#[124]⟩ : ByteArray).data.toList) = txt l := rfl
    rw [e1, if_pos ⟨by rw [List.length_map]; omega, by omega⟩]
  rw [e, Option.bind_some]

theorem FnExactGatesText : laws_FnExactGatesText.Pure := by
  intro l _ _ _
  by_cases hl : (l.length : Int) > 1048576
  · refine ⟨0, ?_⟩
    unfold laws_FnExactGatesText.f
    rw [if_pos hl]
  · obtain ⟨Q, hQ⟩ : ∃ Q, Q = l.length + 50 := ⟨_, rfl⟩
    obtain ⟨b, hb, hg⟩ := gates 40 l (by omega)
    obtain ⟨g1, g2⟩ := hg Q (by omega)
    have core : ∃ v : ByteArray × Bool, spec_GatesText.f Q l = some v ∧ impl_GatesText.f Q l = some v := by
      unfold spec_GatesText.f impl_GatesText.f
      rw [g1, g2]
      cases b with
      | false => exact ⟨_, rfl, rfl⟩
      | true =>
        have ok := hb.1 rfl
        have ok2 : ∀ j : Nat, j < l.length → 1 ≤ rd l (j : Int) ∧ rd l (j : Int) ≤ 39 := fun j hj => by
          have := ok.2.2 j (Nat.zero_le _) hj
          omega
        refine ⟨(⟨(txt l).toArray⟩, true), ?_, ?_⟩
        · rw [Option.bind_some, if_pos rfl, spec_text l ok.2.1 ok2 Q (by omega)]; rfl
        · rw [Option.bind_some, if_pos rfl, impl_text l ok.2.1 ok2 Q (by omega)]; rfl
    obtain ⟨v, v1, v2⟩ := core
    have e1 := LawInt.toIntS l (by omega) Q (by omega)
    have e2 := LawInt.eqIntS l (by omega) Q (by omega)
    refine ⟨Q, ?_⟩
    unfold laws_FnExactGatesText.f
    rw [if_neg hl]
    simp [e1, e2, v1, v2]
end Go.Proofs.YteolnocaijahgaaDoor.Pure
