/- The program's AreaOf answers as the reference's AreaOf does, and leaves its list alone, for all arguments that the law lets in; no condition beside that. -/
import Derived.Test.YtihjikmpbbjbfaaX4
import Derived.Test.YtihjikmpbbjbfaaLawStr
import Derived.Test.YtihjikmpbbjbfaaLand
import Derived.Test.YtihjikmpbbjbfaaOwner
namespace Go.Proofs.Ytihjikmpbbjbfaa.Pure
open Go.RowKit Go.Proofs.Ytihjikmpbbjbfaa.X Go.Proofs.YtihjikmpbbjbfaaW.PrintWords Go.Proofs.YtihjikmpbbjbfaaW.PrintLast Go.Proofs.Ytihjikmpbbjbfaa Go.Proofs.Ytihjikmpbbjbfaa.Owner
set_option linter.unusedVariables false
set_option linter.unusedSimpArgs false

theorem small (l : List ByteArray) (ok : Land.OK l) (i : Nat) (h : i < l.length) : l[i].size ≤ 12 := by
  have := (ok.2 i h).2.1.2
  unfold Land.row at this
  rwa [row_get l i h] at this

/-- The squares of rows that an owner has. -/
def sum (o : UInt8) (u : List ByteArray) : Nat := (u.map fun y => (B y).count o).sum

theorem rows_l1 (l : List ByteArray) (a : ByteArray) (o : UInt8) (ha : a.size = 1) (ho : bt a 0 = (o.toNat : Int)) (i : Nat) (x : ByteArray) (hx : x.size ≤ 12) (hl : l.length ≤ 12) (hi : i ≤ 12) :
    ∀ (d c : Nat) (n : Int), c + d = x.size → 0 ≤ n → n + d ≤ 1000 → ∀ k, spec_AreaOf.l1 (k + d + 1) a n x (c : Int) l (l.length : Int) (i : Int) = spec_AreaOf.l0 k a (n + (((B x).drop c).count o : Int)) l (l.length : Int) ((i : Int) + 1) := by
  have hB := B_length x
  intro d
  induction d with
  | zero =>
    intro c n h1 h2 h3 k
    simp only [spec_AreaOf.l1]
    rw [if_neg (by omega), List.drop_of_length_le (by omega), LawStr.wid (x := (i : Int) + 1) (by omega) (by omega)]
    simp
  | succ d ih =>
    intro c n h1 h2 h3 k
    obtain ⟨M, hM⟩ : ∃ M, M = k + d + 1 := ⟨_, rfl⟩
    rw [show k + (d + 1) + 1 = M + 1 from by omega]
    simp only [spec_AreaOf.l1]
    rw [if_pos (by omega), if_pos (by omega), if_pos (by omega), B_bt x c (by omega), ho, LawStr.wid (x := (c : Int) + 1) (by omega) (by omega), LawStr.wid (x := n + 1) (by omega) (by omega), List.drop_eq_getElem_cons (by omega : c < (B x).length), List.count_cons]
    have hc : (((B x).drop (c + 1)).count o) ≤ d := by
      refine Nat.le_trans (List.count_le_length ..) ?_
      rw [List.length_drop]; omega
    have e1 : ((c : Int) + 1) = ((c + 1 : Nat) : Int) := by omega
    by_cases q : (B x)[c] = o
    · rw [if_pos (by rw [q])]
      subst hM
      rw [e1, ih (c + 1) (n + 1) (by omega) (by omega) (by omega) k, q]
      have z : (if (o == o) = true then 1 else 0 : Nat) = 1 := by simp
      rw [z]
      congr 1
      omega
    · rw [if_neg (by intro e; apply q; apply UInt8.toNat_inj.1; omega)]
      subst hM
      rw [e1, ih (c + 1) n (by omega) (by omega) (by omega) k]
      have z : (if ((B x)[c] == o) = true then 1 else 0 : Nat) = 0 := by simp [q]
      rw [z]
      congr 1

theorem rows_l0 (l : List ByteArray) (ok : Land.OK l) (a : ByteArray) (o : UInt8) (ha : a.size = 1) (ho : bt a 0 = (o.toNat : Int)) : ∀ (d i : Nat) (n : Int), i + d = l.length → 0 ≤ n → n ≤ 12 * i → ∀ k,
    spec_AreaOf.l0 (k + 20 * d + 1) a n l (l.length : Int) (i : Int) = some (n + (sum o (l.drop i) : Int), true) := by
  have hl := ok.1.2
  intro d
  induction d with
  | zero =>
    intro i n h1 h2 h3 k
    simp only [spec_AreaOf.l0]
    rw [if_neg (by omega), List.drop_of_length_le (by omega)]
    simp [sum]
  | succ d ih =>
    intro i n h1 h2 h3 k
    have hs := small l ok i (by omega)
    have hc : ((B l[i]).count o) ≤ 12 := Nat.le_trans (List.count_le_length ..) (by rw [B_length]; exact hs)
    obtain ⟨M, hM⟩ : ∃ M, M = k + 20 * (d + 1) := ⟨_, rfl⟩
    rw [← hM]
    simp only [spec_AreaOf.l0]
    rw [if_pos (by omega), if_pos (by omega), if_pos (by omega), row_get l i (by omega)]
    have h4 := rows_l1 l a o ha ho i l[i] hs hl (by omega) l[i].size 0 n (by omega) h2 (by omega) (M - l[i].size - 1)
    rw [show M - l[i].size - 1 + l[i].size + 1 = M from by omega, show ((0 : Nat) : Int) = 0 from rfl, List.drop_zero] at h4
    rw [h4, show (i : Int) + 1 = ((i + 1 : Nat) : Int) from by omega, show M - l[i].size - 1 = (M - l[i].size - 2 - 20 * d) + 20 * d + 1 from by omega, ih (i + 1) (n + ((B l[i]).count o : Int)) (by omega) (by omega) (by omega) _, List.drop_eq_getElem_cons (by omega : i < l.length)]
    have e : sum o (l[i] :: l.drop (i + 1)) = (B l[i]).count o + sum o (l.drop (i + 1)) := by unfold sum; rw [List.map_cons, List.sum_cons]
    rw [e]
    congr 2
    omega

theorem flat (o : UInt8) (l : List ByteArray) : Lib.countByte (Lib.join (l.map (·.data.toList)) []) o = sum o l := by
  unfold Lib.countByte
  have tail : ∀ u : List ByteArray, (Lib.joinTail [] (u.map (·.data.toList))).count o = sum o u := by
    intro u
    induction u with
    | nil => rfl
    | cons y u ih =>
      unfold Lib.joinTail sum at ih ⊢
      simp only [List.map_cons, List.flatten_cons, List.nil_append, List.count_append, List.sum_cons] at ih ⊢
      rw [ih]; rfl
  cases l with
  | nil => rfl
  | cons x t =>
    rw [List.map_cons, Lib.join_cons, List.count_append, tail t]
    rfl
theorem flat_len (l : List ByteArray) (ok : Land.OK l) : (Lib.join (l.map (·.data.toList)) []).length ≤ 1048576 := by
  have lens : ∀ u : List ByteArray, (∀ y ∈ u, y.size ≤ 12) → Lib.lens (u.map (·.data.toList)) ≤ 12 * u.length := by
    intro u
    induction u with
    | nil => intro _; exact Nat.le_refl _
    | cons y u ih =>
      intro h
      have h1 := ih (fun z hz => h z (List.mem_cons_of_mem _ hz))
      have h2 := h y (List.mem_cons_self ..)
      have h3 : y.data.toList.length = y.size := data_length y
      unfold Lib.lens at h1 ⊢
      simp only [List.map_cons, List.sum_cons, List.length_cons] at h1 ⊢
      rw [h3]
      omega
  have hl := ok.1
  cases l with
  | nil => exact Nat.zero_le _
  | cons x0 t =>
    rw [List.map_cons, Lib.join_cons, List.length_append, Lib.joinTail_length]
    have q := lens t (fun y hy => by
      obtain ⟨j, hj, rfl⟩ := List.getElem_of_mem hy
      have := small (x0 :: t) ok (j + 1) (by simp; omega)
      exact this)
    have hs := small (x0 :: t) ok 0 (by simp)
    have e0 : (x0 :: t)[0] = x0 := rfl
    rw [e0] at hs
    have h3 : x0.data.toList.length = x0.size := data_length x0
    have h4 := hl.2
    simp only [List.length_cons, List.length_map, List.length_nil] at h4 ⊢
    rw [h3]
    omega

theorem core (l : List ByteArray) (hl : l.length ≤ 1048576) (a : ByteArray) (Q : Nat) (hQ : 400 < Q) : ∃ v : Int × Bool, spec_AreaOf.f Q l a = some v ∧ impl_AreaOf.f Q l a = some v := by
  obtain ⟨b, hb, hg⟩ := Land.land l hl
  obtain ⟨g1, g2⟩ := hg Q (by omega)
  unfold spec_AreaOf.f impl_AreaOf.f spec_fiAsked.f impl_isOwned.f
  rw [g1, g2, owner_some]
  cases b with
  | false => exact ⟨(0, false), rfl, rfl⟩
  | true =>
    have ok := hb.1 rfl
    simp only [Option.bind_some, if_true, Bool.true_and, List.all_cons, List.all_nil, Bool.and_true]
    by_cases hc : impl_isColour.colour a = true
    · rw [hc, if_pos rfl, if_pos rfl]
      obtain ⟨s1, _, _⟩ := colour_size a hc
      have hh : ∃ o, B a = [o] := by
        have := B_length a
        match h : B a with
        | [] => rw [h] at this; simp at this; omega
        | [o] => exact ⟨o, rfl⟩
        | _ :: _ :: _ => rw [h] at this; simp at this; omega
      obtain ⟨o, ho⟩ := hh
      have hbt : bt a 0 = (o.toNat : Int) := by
        have := B_bt a 0 (by omega)
        rw [show ((0 : Nat) : Int) = 0 from rfl] at this
        rw [this]
        simp [ho]
      have h1 := rows_l0 l ok a o s1 hbt l.length 0 0 (by omega) (by omega) (by omega) (Q - 20 * l.length - 1)
      have hl12 := ok.1.2
      rw [show Q - 20 * l.length - 1 + 20 * l.length + 1 = Q from by omega, show ((0 : Nat) : Int) = 0 from rfl, List.drop_zero] at h1
      refine ⟨_, h1, ?_⟩
      have e : strings_Join.f l (⟨#[]⟩ : ByteArray) = some ⟨(Lib.join (l.map (·.data.toList)) []).toArray⟩ := by
        unfold strings_Join.f
        have e1 : (⟨#[]⟩ : ByteArray).data.toList = [] := rfl
        have := flat_len l ok
        rw [e1, if_pos ⟨by omega, by omega⟩]
      have e2 : strings_Count.f ⟨(Lib.join (l.map (·.data.toList)) []).toArray⟩ a = some (sum o l : Int) := by
        unfold strings_Count.f
        rw [if_pos s1, ← flat o l]
        have : a.data.toList = [o] := ho
        rw [this]
        rfl
      rw [e, Option.bind_some, e2, Option.bind_some, Int.zero_add]
    · have hc := Bool.eq_false_iff.mpr hc
      rw [hc]
      exact ⟨(0, false), rfl, rfl⟩

theorem FnExactAreaOf : laws_FnExactAreaOf.Pure := by
  intro l a hm hs _
  by_cases ha : (a.size : Int) > 1048576
  · refine ⟨0, ?_⟩
    unfold laws_FnExactAreaOf.f
    rw [if_pos ha]
  rcases LawStr.sized l hm hs with ⟨r, hr, K, hK⟩ | ⟨hl, hs', r, hr, hK⟩
  · refine ⟨K, ?_⟩
    unfold laws_FnExactAreaOf.f
    rw [if_neg ha, hK K (Nat.le_refl _), Option.bind_some, if_pos hr]
  · obtain ⟨Q, hQ⟩ : ∃ Q, Q = l.length + 500 := ⟨_, rfl⟩
    obtain ⟨v, v1, v2⟩ := core l hl a Q (by omega)
    have e1 := LawStr.toStringS l hl Q (by omega)
    have e2 := LawStr.eqStringS l hl Q (by omega)
    have n0 : ¬ r < 0 := by omega
    refine ⟨Q, ?_⟩
    unfold laws_FnExactAreaOf.f
    rw [if_neg ha, hK Q (by omega)]
    simp [e1, e2, v1, v2, n0]
end Go.Proofs.Ytihjikmpbbjbfaa.Pure
