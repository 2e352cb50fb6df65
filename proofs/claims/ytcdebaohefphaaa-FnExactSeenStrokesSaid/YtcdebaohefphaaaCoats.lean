/- How often strokes paint each board, as the program counts it; plain lemmas, no condition beside those named. -/
import Derived.Test.YtcdebaohefphaaaX5
import Derived.Test.YtcdebaohefphaaaStrokes
namespace Go.Proofs.Ytcdebaohefphaaa.Coats
open Go.RowKit Go.Proofs.Ytcdebaohefphaaa.X Go.Proofs.YtcdebaohefphaaaW.PrintWords Go.Proofs.YtcdebaohefphaaaW.PrintLast Go.Proofs.Ytcdebaohefphaaa.Fence
set_option linter.unusedVariables false
set_option linter.unusedSimpArgs false

theorem rd_nat (l : List Int) (i : Nat) : rd l (i : Int) = l.getD i 0 := by unfold rd; rw [Int.toNat_natCast]
theorem rd_get (l : List Int) (i : Nat) (h : i < l.length) : rd l (i : Int) = l[i] := by
  rw [rd_nat, List.getD_eq_getElem?_getD, List.getElem?_eq_getElem h]; rfl
theorem rd_set (l : List Int) (i j : Nat) (v : Int) (h : i < l.length) : rd (l.set i v) (j : Int) = if i = j then v else rd l (j : Int) := by
  rw [rd_nat, rd_nat, List.getD_eq_getElem?_getD, List.getD_eq_getElem?_getD, List.getElem?_set]
  by_cases e : i = j
  · subst e; rw [if_pos rfl, if_pos h, if_pos rfl]; rfl
  · rw [if_neg e, if_neg e]
theorem sum_set : ∀ (l : List Int) (i : Nat) (v : Int), i < l.length → (l.set i v).sum = l.sum - rd l (i : Int) + v
  | [], i, v, h => absurd h (Nat.not_lt_zero _)
  | x :: l, 0, v, h => by
    rw [rd_nat]; simp only [List.set_cons_zero, List.sum_cons, List.getD_cons_zero]; omega
  | x :: l, i + 1, v, h => by
    have ih := sum_set l i v (by simpa using h)
    rw [rd_nat] at ih ⊢
    simp only [List.set_cons_succ, List.sum_cons, List.getD_cons_succ]
    rw [ih]; omega

/-- One coat more on so many boards from one on. -/
def bump (x : List Int) (j : Nat) : Nat → List Int
  | 0 => x
  | d + 1 => bump (x.set j (rd x (j : Int) + 1)) (j + 1) d
/-- All coats. -/
def cs (x : List Int) : List S27 → List Int
  | [] => x
  | s :: L => cs (bump x s.f0.toNat (s.f1 - s.f0 + 1).toNat) L

theorem bump_facts : ∀ (d j : Nat) (x : List Int), j + d ≤ x.length → (bump x j d).length = x.length ∧ (bump x j d).sum = x.sum + d ∧ ∀ q : Nat, rd (bump x j d) (q : Int) = rd x (q : Int) + if j ≤ q ∧ q < j + d then 1 else 0 := by
  intro d
  induction d with
  | zero =>
    intro j x h
    refine ⟨rfl, by simp [bump], fun q => ?_⟩
    rw [if_neg (by omega)]
    simp [bump]
  | succ d ih =>
    intro j x h
    obtain ⟨h1, h2, h3⟩ := ih (j + 1) (x.set j (rd x (j : Int) + 1)) (by rw [List.length_set]; omega)
    simp only [bump]
    refine ⟨by rw [h1, List.length_set], by rw [h2, sum_set x j _ (by omega)]; omega, fun q => ?_⟩
    rw [h3 q, rd_set x j q _ (by omega)]
    by_cases e : j = q
    · subst e
      rw [if_pos rfl, if_neg (by omega), if_pos (by omega)]
      omega
    · rw [if_neg e]
      by_cases e2 : j ≤ q ∧ q < j + (d + 1)
      · rw [if_pos e2, if_pos (by omega)]
      · rw [if_neg e2, if_neg (by omega)]

theorem coats_l1 (L : List S27) (n : Nat) (hn : n ≤ 20) (len i f0 f1 : Int) (c : ByteArray) (hf : f1 < (n : Int)) (h1 : -1 ≤ f1) : ∀ (d k j : Nat) (x : List Int), (j : Int) + d = f1 + 1 → x.length = n → (∀ q : Nat, 0 ≤ rd x (q : Int) ∧ rd x (q : Int) ≤ 1000) → (∀ q : Nat, j ≤ q → rd x (q : Int) ≤ 999) →
    impl_coats.l1 (k + d + 1) x (j : Int) L len i f0 f1 c = impl_coats.l0 k (bump x j d) L len (wrap64 (i + 1)) := by
  intro d
  induction d with
  | zero =>
    intro k j x hj hx b1 b2
    simp only [impl_coats.l1, bump]
    rw [if_neg (by omega)]
  | succ d ih =>
    intro k j x hj hx b1 b2
    have q1 := b1 j
    have q2 := b2 j (Nat.le_refl _)
    rw [show k + (d + 1) + 1 = (k + d + 1) + 1 from by omega]
    simp only [impl_coats.l1, bump]
    rw [if_pos (by omega), if_pos (by omega), if_pos (by omega), wid (x := (j : Int) + 1) (by omega) (by omega), wid (x := rd x (j : Int) + 1) (by omega) (by omega), Int.toNat_natCast]
    have := ih k (j + 1) (x.set j (rd x (j : Int) + 1)) (by omega) (by rw [List.length_set]; exact hx) (fun q => ?_) (fun q hq => ?_)
    · rw [show ((j + 1 : Nat) : Int) = (j : Int) + 1 from by omega] at this
      exact this
    · rw [rd_set x j q _ (by omega)]
      have := b1 q
      split <;> omega
    · rw [rd_set x j q _ (by omega), if_neg (by omega)]
      exact b2 q (by omega)

theorem coats_l0 (L : List S27) (hl : L.length ≤ 40) (n : Nat) (hn : n ≤ 20) (h : ∀ x ∈ L, Is (n : Int) x.f0 x.f1 x.f2) : ∀ (d i : Nat) (x : List Int), i + d = L.length → x.length = n → (∀ q : Nat, 0 ≤ rd x (q : Int) ∧ rd x (q : Int) ≤ (i : Int)) →
    ∀ k, 30 * d < k → impl_coats.l0 k x L (L.length : Int) (i : Int) = some (cs x (L.drop i)) := by
  intro d
  induction d with
  | zero =>
    intro i x hi hx b k hk
    obtain ⟨k, rfl⟩ : ∃ m, k = m + 1 := ⟨k - 1, by omega⟩
    simp only [impl_coats.l0]
    rw [if_neg (by omega), List.drop_of_length_le (by omega)]
    rfl
  | succ d ih =>
    intro i x hi hx b k hk
    have hI := h (L[i]'(by omega)) (List.getElem_mem _)
    obtain ⟨⟨x1, x2, x3⟩, _⟩ := hI
    have hd := List.drop_eq_getElem_cons (show i < L.length by omega)
    have hg := Strokes.get27 L i (by omega)
    generalize L[i]'(by omega) = y at *
    obtain ⟨u, hu⟩ : ∃ u : Nat, y.f0 = (u : Int) := ⟨y.f0.toNat, by omega⟩
    obtain ⟨v, hv⟩ : ∃ v : Nat, (v : Int) = y.f1 - y.f0 + 1 := ⟨(y.f1 - y.f0 + 1).toNat, by omega⟩
    obtain ⟨k, rfl⟩ : ∃ m, k = m + v + 2 := ⟨k - v - 2, by omega⟩
    obtain ⟨f1, f2, f3⟩ := bump_facts v u x (by omega)
    rw [show k + v + 2 = (k + v + 1) + 1 from by omega]
    simp only [impl_coats.l0]
    rw [if_pos (by omega), if_pos (by omega), if_pos (by omega), hg, hu, coats_l1 L n hn (L.length : Int) (i : Int) (u : Int) y.f1 y.f2 x3 (by omega) v k u x (by omega) hx (fun q => by have := b q; omega) (fun q _ => by have := b q; omega), wid (x := (i : Int) + 1) (by omega) (by omega), hd]
    have := ih (i + 1) (bump x u v) (by omega) (by omega) (fun q => ?_) k (by omega)
    · rw [show ((i + 1 : Nat) : Int) = (i : Int) + 1 from by omega] at this
      rw [this]
      simp only [cs]
      rw [hu, Int.toNat_natCast, show (y.f1 - (u : Int) + 1).toNat = v from by omega]
    · rw [f3 q]
      have := b q
      split <;> omega

theorem cs_facts (n : Nat) (hn : n ≤ 20) : ∀ (L : List S27) (x : List Int) (m : Int), (∀ y ∈ L, Is (n : Int) y.f0 y.f1 y.f2) → x.length = n → (∀ q : Nat, 0 ≤ rd x (q : Int) ∧ rd x (q : Int) ≤ m) →
    (cs x L).length = n ∧ (cs x L).sum = x.sum + (L.map fun x => x.f1 - x.f0 + 1).sum ∧ ∀ q : Nat, 0 ≤ rd (cs x L) (q : Int) ∧ rd (cs x L) (q : Int) ≤ m + L.length := by
  intro L
  induction L with
  | nil =>
    intro x m _ hx b
    refine ⟨hx, by simp [cs], fun q => ?_⟩
    have := b q
    simp only [cs, List.length_nil]
    omega
  | cons y L ih =>
    intro x m h hx b
    obtain ⟨⟨x1, x2, x3⟩, _⟩ := h y List.mem_cons_self
    obtain ⟨f1, f2, f3⟩ := bump_facts (y.f1 - y.f0 + 1).toNat y.f0.toNat x (by omega)
    obtain ⟨g1, g2, g3⟩ := ih (bump x y.f0.toNat (y.f1 - y.f0 + 1).toNat) (m + 1) (fun z hz => h z (List.mem_cons_of_mem _ hz)) (by omega) (fun q => by
      rw [f3 q]
      have := b q
      split <;> omega)
    simp only [cs]
    refine ⟨g1, ?_, fun q => ?_⟩
    · rw [g2, f2, List.map_cons, List.sum_cons]; omega
    · have := g3 q
      rw [List.length_cons]
      omega

/-- The coats: as many numbers as boards, none great, their sum. -/
theorem coats (L : List S27) (hl : L.length ≤ 40) (n : Nat) (hn : n ≤ 20) (h : ∀ x ∈ L, Is (n : Int) x.f0 x.f1 x.f2) : ∃ c : List Int, c.length = n ∧ (∀ x ∈ c, 0 ≤ x ∧ x ≤ 1000) ∧ c.sum = (L.map fun x => x.f1 - x.f0 + 1).sum ∧ ∀ k, 2000 < k → impl_coats.f k (n : Int) L = some c := by
  have hz : ∀ q : Nat, rd (List.replicate n (0 : Int)) (q : Int) = 0 := fun q => by
    rw [rd_nat, List.getD_eq_getElem?_getD, List.getElem?_replicate]
    split <;> rfl
  obtain ⟨g1, g2, g3⟩ := cs_facts n hn L (List.replicate n 0) 0 h (by simp) (fun q => by rw [hz q]; omega)
  refine ⟨cs (List.replicate n 0) L, g1, fun x hx => ?_, ?_, fun k hk => ?_⟩
  · obtain ⟨j, hj, rfl⟩ := List.getElem_of_mem hx
    have := g3 j
    rw [rd_get _ j hj] at this
    omega
  · rw [g2]
    have : (List.replicate n (0 : Int)).sum = 0 := by
      clear g1 g2 g3 hz hn h
      induction n with
      | zero => rfl
      | succ n ih => rw [List.replicate_succ, List.sum_cons, ih]; rfl
    rw [this, Int.zero_add]
  · unfold impl_coats.f
    rw [if_pos (by omega), Int.toNat_natCast, if_pos (by omega)]
    have := coats_l0 L hl n hn h L.length 0 (List.replicate n 0) (by omega) (by simp) (fun q => by rw [hz q]; omega) k (by omega)
    rw [List.drop_zero] at this
    exact this
end Go.Proofs.Ytcdebaohefphaaa.Coats
