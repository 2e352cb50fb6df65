/- The program's LandText answers as the reference's LandText does, and leaves its list alone, for all arguments that the law lets in; no condition beside that. -/
import Derived.Test.YtihjikmpbbjbfaaX4
import Derived.Test.YtihjikmpbbjbfaaLawStr
import Derived.Test.YtihjikmpbbjbfaaLand
import Derived.Test.YtihjikmpbbjbfaaOwner
namespace Go.Proofs.Ytihjikmpbbjbfaa.Pure
open Go.RowKit Go.Proofs.Ytihjikmpbbjbfaa.X Go.Proofs.YtihjikmpbbjbfaaW.PrintWords Go.Proofs.YtihjikmpbbjbfaaW.PrintLast Go.Proofs.Ytihjikmpbbjbfaa Go.Proofs.Ytihjikmpbbjbfaa.Owner
set_option linter.unusedVariables false
set_option linter.unusedSimpArgs false

theorem small (l : List ByteArray) (ok : Land.OK l) (i : Nat) (h : i < l.length) : l[i].size ≤ 12 := by
  have := (ok.2 i h).2.1.2
  unfold Land.row at this
  rwa [row_get l i h] at this

theorem text_l0 (l : List ByteArray) (ok : Land.OK l) : ∀ (d k i : Nat) (x : ByteArray), 1 ≤ i → i + d = l.length → d < k → x.size ≤ 100 * i →
    ∃ r, spec_fiText.l0 k x l (l.length : Int) (i : Int) = some r ∧ B r = B x ++ Lib.joinTail [47] ((l.drop i).map B) := by
  have hl := ok.1.2
  intro d
  induction d with
  | zero =>
    intro k i x h0 h1 h2 h3
    obtain ⟨k, rfl⟩ : ∃ m, k = m + 1 := ⟨k - 1, by omega⟩
    refine ⟨x, ?_, ?_⟩
    · simp only [spec_fiText.l0]
      rw [if_neg (by omega)]
    · rw [List.drop_of_length_le (by omega)]
      simp [Lib.joinTail]
  | succ d ih =>
    intro k i x h0 h1 h2 h3
    obtain ⟨k, rfl⟩ : ∃ m, k = m + 1 := ⟨k - 1, by omega⟩
    have hs := small l ok i (by omega)
    have h47 : (⟨#[47]⟩ : ByteArray).size = 1 := rfl
    obtain ⟨r, hr, hb⟩ := ih k (i + 1) (x ++ (⟨#[47]⟩ : ByteArray) ++ l[i]) (by omega) (by omega) (by omega) (by rw [ByteArray.size_append, ByteArray.size_append, h47]; omega)
    refine ⟨r, ?_, ?_⟩
    · simp only [spec_fiText.l0]
      rw [if_pos (by omega), if_pos (by omega), if_pos (by omega), if_pos (by omega), if_pos (by omega), row_get l i (by omega), if_pos (by rw [ByteArray.size_append, h47]; omega), LawStr.wid (x := (i : Int) + 1) (by omega) (by omega)]
      exact hr
    · rw [hb, B_append, B_append, List.drop_eq_getElem_cons (by omega : i < l.length)]
      have e : Lib.joinTail [47] ((l[i] :: l.drop (i + 1)).map B) = [47] ++ B l[i] ++ Lib.joinTail [47] ((l.drop (i + 1)).map B) := by
        unfold Lib.joinTail
        simp only [List.map_cons, List.flatten_cons]
      have e7 : B (⟨#[47]⟩ : ByteArray) = [47] := rfl
      rw [e, e7]
      simp only [List.append_assoc]

theorem text (l : List ByteArray) (ok : Land.OK l) (k : Nat) (hk : 20 < k) : spec_fiText.f k l = some ⟨(Lib.join (l.map (·.data.toList)) [47]).toArray⟩ ∧ (Lib.join (l.map (·.data.toList)) [47]).length ≤ 1048576 := by
  have hl := ok.1
  obtain ⟨k, rfl⟩ : ∃ m, k = m + 1 := ⟨k - 1, by omega⟩
  obtain ⟨x0, t, rfl⟩ : ∃ x0 t, l = x0 :: t := by
    cases l with
    | nil => simp at hl
    | cons a b => exact ⟨a, b, rfl⟩
  have hs := small (x0 :: t) ok 0 (by simp)
  have e0 : (x0 :: t)[0] = x0 := rfl
  rw [e0] at hs
  have z : (⟨#[]⟩ : ByteArray).size = 0 := rfl
  have zb : B ((⟨#[]⟩ : ByteArray) ++ x0) = B x0 := by rw [B_append]; rfl
  obtain ⟨r, hr, hb⟩ := text_l0 (x0 :: t) ok t.length k 1 ((⟨#[]⟩ : ByteArray) ++ x0) (by omega) (by simp; omega) (by have := hl.2; simp at this; omega) (by rw [ByteArray.size_append, z]; omega)
  have hB : B r = Lib.join ((x0 :: t).map (·.data.toList)) [47] := by
    rw [hb, zb, List.map_cons, Lib.join_cons]
    rfl
  refine ⟨?_, ?_⟩
  · unfold spec_fiText.f
    simp only [spec_fiText.l0]
    have r0 : rdOf ByteArray.empty (x0 :: t) 0 = x0 := rfl
    rw [if_pos (by first | (simp; done) | (simp; omega)), if_pos (by omega), if_pos (by first | (simp; done) | (simp; omega)), if_neg (by omega), r0, if_pos (by rw [z]; omega), LawStr.wid (x := 0 + 1) (by omega) (by omega), ← hB]
    have e : r = ⟨(B r).toArray⟩ := B_mk r _ rfl
    rw [← e]
    exact hr
  · rw [List.map_cons, Lib.join_cons, List.length_append, Lib.joinTail_length]
    have : ∀ u : List ByteArray, (∀ y ∈ u, y.size ≤ 12) → Lib.lens (u.map (·.data.toList)) ≤ 12 * u.length := by
      intro u
      induction u with
      | nil => intro _; exact Nat.le_refl _
      | cons y u ih =>
        intro h
        have h1 := ih (fun z hz => h z (List.mem_cons_of_mem _ hz))
        have h2 := h y (List.mem_cons_self ..)
        have h3 : y.data.toList.length = y.size := data_length y
        unfold Lib.lens at h1 ⊢
        simp only [List.map_cons, List.sum_cons, List.length_cons] at h1 ⊢
        rw [h3]
        omega
    have q := this t (fun y hy => by
      obtain ⟨j, hj, rfl⟩ := List.getElem_of_mem hy
      have := small (x0 :: t) ok (j + 1) (by simp; omega)
      exact this)
    have h3 : x0.data.toList.length = x0.size := data_length x0
    have h4 := hl.2
    simp only [List.length_cons, List.length_map, List.length_nil] at h4 ⊢
    rw [h3]
    omega

theorem FnExactLandText : laws_FnExactLandText.Pure := by
  intro l hm hs
  rcases LawStr.sized l hm hs with ⟨r, hr, K, hK⟩ | ⟨hl, hs', r, hr, hK⟩
  · refine ⟨K, ?_⟩
    unfold laws_FnExactLandText.f
    rw [hK K (Nat.le_refl _), Option.bind_some, if_pos hr]
  · obtain ⟨b, hb, hg⟩ := Land.land l hl
    obtain ⟨Q, hQ⟩ : ∃ Q, Q = l.length + 400 := ⟨_, rfl⟩
    obtain ⟨g1, g2⟩ := hg Q (by omega)
    have core : ∃ v : ByteArray × Bool, spec_LandText.f Q l = some v ∧ impl_LandText.f Q l = some v := by
      unfold spec_LandText.f impl_LandText.f
      rw [g1, g2]
      cases b with
      | false => exact ⟨_, rfl, rfl⟩
      | true =>
        have ok := hb.1 rfl
        obtain ⟨t1, t2⟩ := text l ok Q (by omega)
        refine ⟨(⟨(Lib.join (l.map (·.data.toList)) [47]).toArray⟩, true), ?_, ?_⟩
        · rw [Option.bind_some, if_pos rfl, t1]; rfl
        · have e : strings_Join.f l (⟨#[47]⟩ : ByteArray) = some ⟨(Lib.join (l.map (·.data.toList)) [47]).toArray⟩ := by
            unfold strings_Join.f
            have e1 : (⟨#[47]⟩ : ByteArray).data.toList = [47] := rfl
            rw [e1, if_pos ⟨by omega, by omega⟩]
          rw [Option.bind_some, if_pos rfl, e]; rfl
    obtain ⟨v, v1, v2⟩ := core
    have e1 := LawStr.toStringS l hl Q (by omega)
    have e2 := LawStr.eqStringS l hl Q (by omega)
    have n0 : ¬ r < 0 := by omega
    refine ⟨Q, ?_⟩
    unfold laws_FnExactLandText.f
    rw [hK Q (by omega)]
    simp [e1, e2, v1, v2, n0]
end Go.Proofs.Ytihjikmpbbjbfaa.Pure
