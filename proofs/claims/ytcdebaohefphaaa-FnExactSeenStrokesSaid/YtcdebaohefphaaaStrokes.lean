/- Lists of strokes: the laws' own helpers (sizes, copies, comparisons), and whether all are strokes of a fence, as the program and as the reference ask; plain lemmas, no condition beside those named. -/
import Derived.Test.YtcdebaohefphaaaX3
import Derived.Test.YtcdebaohefphaaaX4
import Derived.Test.YtcdebaohefphaaaX6
import Derived.Test.YtcdebaohefphaaaFence
namespace Go.Proofs.Ytcdebaohefphaaa.Strokes
open Go.RowKit Go.Proofs.Ytcdebaohefphaaa.X Go.Proofs.YtcdebaohefphaaaW.PrintWords Go.Proofs.YtcdebaohefphaaaW.PrintLast Go.Proofs.Ytcdebaohefphaaa.Fence
set_option linter.unusedVariables false
set_option linter.unusedSimpArgs false

theorem get23 (l : List S23) (i : Nat) (h : i < l.length) : rd_T23 l (i : Int) = l[i] := by
  unfold rd_T23; rw [Int.toNat_natCast, List.getD_eq_getElem?_getD, List.getElem?_eq_getElem h]; rfl
theorem get27 (l : List S27) (i : Nat) (h : i < l.length) : rd_T27 l (i : Int) = l[i] := by
  unfold rd_T27; rw [Int.toNat_natCast, List.getD_eq_getElem?_getD, List.getElem?_eq_getElem h]; rfl
/-- The strokes of the program's own type. -/
def conv (l : List S23) : List S27 := l.map fun x => ⟨x.f0, x.f1, x.f2⟩
theorem conv_length (l : List S23) : (conv l).length = l.length := by unfold conv; simp

theorem to_l0 (l : List S23) (hl : l.length ≤ 1048576) : ∀ (d k i : Nat) (y : List S27), i + d = l.length → d < k → y.length = l.length → (∀ j, j < i → y[j]? = (conv l)[j]?) →
    laws_toStrokeS.l0 k l y (i : Int) = some (conv l) := by
  intro d
  have hc := conv_length l
  induction d with
  | zero =>
    intro k i y hi hk hy he
    obtain ⟨k, rfl⟩ : ∃ m, k = m + 1 := ⟨k - 1, by omega⟩
    simp only [laws_toStrokeS.l0]
    rw [if_neg (by omega)]
    congr 1
    apply List.ext_getElem?
    intro j
    by_cases hj : j < i
    · exact he j hj
    · rw [List.getElem?_eq_none (by omega), List.getElem?_eq_none (by omega)]
  | succ d ih =>
    intro k i y hi hk hy he
    obtain ⟨k, rfl⟩ : ∃ m, k = m + 1 := ⟨k - 1, by omega⟩
    simp only [laws_toStrokeS.l0, laws_toStroke.f, Option.bind_some]
    rw [if_pos (by omega), if_pos (by omega), if_pos (by omega), wid (x := (i : Int) + 1) (by omega) (by omega), Int.toNat_natCast]
    refine ih k (i + 1) _ (by omega) (by omega) (by rw [List.length_set]; exact hy) ?_
    intro j hj
    rw [List.getElem?_set]
    by_cases e : i = j
    · subst e
      rw [if_pos rfl, if_pos (by omega), get23 l i (by omega)]
      unfold conv
      rw [List.getElem?_map, List.getElem?_eq_getElem (by omega)]
      rfl
    · rw [if_neg e]
      exact he j (by omega)
theorem toS (l : List S23) (hl : l.length ≤ 1048576) (k : Nat) (hk : l.length < k) : laws_toStrokeS.f k l = some (conv l) := by
  unfold laws_toStrokeS.f
  rw [if_pos (by omega), Int.toNat_natCast, if_pos (by omega)]
  exact to_l0 l hl l.length k 0 _ (by omega) hk (by simp) (by intro j hj; omega)

theorem eq_l0 (l : List S27) (hl : l.length ≤ 1048576) : ∀ (d k i : Nat), i + d = l.length → d < k → laws_eqStrokeS.l0 k l l (i : Int) = some true := by
  intro d
  induction d with
  | zero =>
    intro k i hi hk
    obtain ⟨k, rfl⟩ : ∃ m, k = m + 1 := ⟨k - 1, by omega⟩
    simp only [laws_eqStrokeS.l0]
    rw [if_neg (by omega)]
  | succ d ih =>
    intro k i hi hk
    obtain ⟨k, rfl⟩ : ∃ m, k = m + 1 := ⟨k - 1, by omega⟩
    simp only [laws_eqStrokeS.l0, laws_eqStroke.f, if_true, Option.bind_some]
    rw [if_pos (by omega), if_pos (by omega), if_pos (by omega), wid (x := (i : Int) + 1) (by omega) (by omega)]
    exact ih k (i + 1) (by omega) (by omega)
theorem eqS (l : List S27) (hl : l.length ≤ 1048576) (k : Nat) (hk : l.length < k) : laws_eqStrokeS.f k l l = some true := by
  unfold laws_eqStrokeS.f
  rw [if_pos rfl]
  exact eq_l0 l hl l.length k 0 (by omega) hk

theorem sz_l0 (l : List S23) (hl : l.length ≤ 1048576) (hs : ∀ y ∈ l, y.f2.size ≤ 9223372036854775807) : ∀ (d k i : Nat) (m : Int), i + d = l.length → d < k → 0 ≤ m → m ≤ 1048576 →
    ∃ r, laws_szStrokeS.l0 k l m (i : Int) = some r := by
  intro d
  induction d with
  | zero =>
    intro k i m hi hk h0 h1
    obtain ⟨k, rfl⟩ : ∃ m, k = m + 1 := ⟨k - 1, by omega⟩
    simp only [laws_szStrokeS.l0]
    rw [if_neg (by omega)]
    exact ⟨m, rfl⟩
  | succ d ih =>
    intro k i m hi hk h0 h1
    obtain ⟨k, rfl⟩ : ∃ m, k = m + 1 := ⟨k - 1, by omega⟩
    have hz : (rd_T23 l (i : Int)).f2.size ≤ 9223372036854775807 := by rw [get23 l i (by omega)]; exact hs _ (List.getElem_mem _)
    simp only [laws_szStrokeS.l0, laws_szStroke.f]
    rw [if_pos (by omega), if_pos (by omega), wid (x := m - ((rd_T23 l (i : Int)).f2.size : Int)) (by omega) (by omega), wid (x := (i : Int) + 1) (by omega) (by omega)]
    by_cases hn : m - ((rd_T23 l (i : Int)).f2.size : Int) < 0
    · rw [if_pos hn]
      exact ⟨-1, rfl⟩
    · rw [if_neg hn]
      simp only [Option.bind_some]
      rw [if_neg hn]
      exact ih k (i + 1) _ (by omega) (by omega) (by omega) (by omega)
/-- The law's own bound: the law answers at once, or the list is small. -/
theorem sized (l : List S23) (hm : l.length ≤ 9223372036854775807) (hs : ∀ y ∈ l, y.f2.size ≤ 9223372036854775807) : ∃ r, (r < 0 ∨ l.length ≤ 1048576) ∧ ∃ K, ∀ k, K ≤ k → laws_szStrokeS.f k l 1048576 = some r := by
  by_cases h : (1048576 : Int) - (l.length : Int) < 0
  · refine ⟨-1, .inl (by omega), 0, fun k _ => ?_⟩
    unfold laws_szStrokeS.f
    rw [wid (x := 1048576 - (l.length : Int)) (by omega) (by omega), if_pos h]
  · obtain ⟨r, hr⟩ := sz_l0 l (by omega) hs l.length (l.length + 1) 0 (1048576 - (l.length : Int)) (by omega) (by omega) (by omega) (by omega)
    refine ⟨r, .inr (by omega), l.length + 1, fun k hk => ?_⟩
    unfold laws_szStrokeS.f
    rw [wid (x := 1048576 - (l.length : Int)) (by omega) (by omega), if_neg h]
    exact at_rounds (g := fun k => laws_szStrokeS.l0 k l (1048576 - (l.length : Int)) 0) (fun k => laws_szStrokeS.mono_l k _ _ _) hk hr

theorem st_is (b : Int) (x : S27) (h1 : 1 ≤ b) (h2 : b ≤ 20) : spec_stIs.f b x.f0 x.f1 x.f2 = some (impl_areStrokes.st b x) ∧ (impl_areStrokes.st b x = true ↔ Is b x.f0 x.f1 x.f2) := by
  obtain ⟨r, r1, r2, hr⟩ := stroke b x.f0 x.f1 x.f2 h1 h2
  rw [impl_areStrokes.st_f] at r2
  obtain rfl := Option.some.inj r2
  exact ⟨r1, hr⟩
theorem list_l0 (s : ByteArray) (hs : 1 ≤ s.size ∧ s.size ≤ 20) (L : List S27) (hl : L.length ≤ 1048576) : ∀ (d k i : Nat), i + d = L.length → d < k →
    spec_stList.l0 k s L (L.length : Int) (i : Int) = some ((L.drop i).all (impl_areStrokes.st (s.size : Int))) := by
  intro d
  induction d with
  | zero =>
    intro k i hi hk
    obtain ⟨k, rfl⟩ : ∃ m, k = m + 1 := ⟨k - 1, by omega⟩
    simp only [spec_stList.l0]
    rw [if_neg (by omega), List.drop_of_length_le (by omega)]
    rfl
  | succ d ih =>
    intro k i hi hk
    obtain ⟨k, rfl⟩ : ∃ m, k = m + 1 := ⟨k - 1, by omega⟩
    simp only [spec_stList.l0]
    rw [if_pos (by omega), if_pos (by omega), if_pos (by omega), List.drop_eq_getElem_cons (by omega), List.all_cons, get27 L i (by omega), wid (x := (i : Int) + 1) (by omega) (by omega), (st_is (s.size : Int) L[i] (by omega) (by omega)).1]
    simp only [Option.bind_some]
    cases impl_areStrokes.st (s.size : Int) L[i] with
    | false => rfl
    | true =>
      rw [if_pos rfl]
      exact ih k (i + 1) (by omega) (by omega)
/-- A fence, and strokes of it. -/
def OK (s : ByteArray) (L : List S27) : Prop := (1 ≤ s.size ∧ s.size ≤ 20) ∧ L.length ≤ 40 ∧ ∀ x ∈ L, Is (s.size : Int) x.f0 x.f1 x.f2
theorem list (s : ByteArray) (L : List S27) (hl : L.length ≤ 1048576) : ∃ b : Bool, impl_isPainted.f s L = some b ∧ (b = true → OK s L) ∧ ∀ k, L.length + 50 < k → spec_stList.f k s L = some b := by
  obtain ⟨b, e1, iff1, e2⟩ := fence s
  unfold impl_isPainted.f impl_areStrokes.f
  rw [e1]
  simp only [Option.bind_some]
  cases b with
  | false =>
    refine ⟨false, rfl, by simp, fun k hk => ?_⟩
    unfold spec_stList.f
    rw [e2 k (by omega)]
    obtain ⟨k, rfl⟩ : ∃ m, k = m + 1 := ⟨k - 1, by omega⟩
    rfl
  | true =>
    have g := (iff1.1 rfl).1
    refine ⟨_, rfl, fun h => ?_, fun k hk => ?_⟩
    · rw [Bool.and_eq_true, decide_eq_true_eq, List.all_eq_true] at h
      exact ⟨g, by omega, fun x hx => (st_is (s.size : Int) x (by omega) (by omega)).2.1 (h.2 x hx)⟩
    · unfold spec_stList.f
      rw [e2 k (by omega)]
      obtain ⟨k, rfl⟩ : ∃ m, k = m + 1 := ⟨k - 1, by omega⟩
      simp only [Option.bind_some, if_true, spec_stList.j0]
      by_cases h40 : (L.length : Int) ≤ 40
      · rw [decide_eq_true h40, decide_eq_false (by omega)]
        have := list_l0 s g L hl L.length k 0 (by omega) (by omega)
        rw [List.drop_zero] at this
        simpa using this
      · rw [decide_eq_false h40, decide_eq_true (by omega)]
        rfl
end Go.Proofs.Ytcdebaohefphaaa.Strokes
