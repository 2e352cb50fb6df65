/- The program's NeedlessStrokes answers as the reference's NeedlessStrokes does, in memory of its own, and leaves its list alone, for all arguments that the law lets in; no condition beside that. -/
import Derived.Test.YtcdebaohefphaaaX16
import Derived.Test.YtcdebaohefphaaaPaint
import Derived.Test.YtcdebaohefphaaaStrokes
import Derived.Test.YtcdebaohefphaaaCoats
import Derived.Test.YtcdebaohefphaaaMark
import Derived.Test.YtcdebaohefphaaaLawInt
namespace Go.Proofs.Ytcdebaohefphaaa.Pure
open Go.RowKit Go.Proofs.Ytcdebaohefphaaa.X Go.Proofs.YtcdebaohefphaaaW.PrintWords Go.Proofs.YtcdebaohefphaaaW.PrintLast Go.Proofs.Ytcdebaohefphaaa Go.Proofs.Ytcdebaohefphaaa.Fence
set_option linter.unusedVariables false
set_option linter.unusedSimpArgs false
set_option linter.unusedSectionVars false

theorem all_l0 (L : List S27) (hl : L.length ≤ 40) (n : Nat) (hn : n ≤ 20) (h : ∀ x ∈ L, Is (n : Int) x.f0 x.f1 x.f2) : ∀ (d i : Nat) (s : ByteArray), i + d = L.length → s.size = n →
    ∃ r : ByteArray, r.size = n ∧ ∀ k, d + 30 < k → spec_stAll.l0 k s L (L.length : Int) (i : Int) = some r ∧ impl_paintedAll.l0 k s L (L.length : Int) (i : Int) = some r := by
  intro d
  induction d with
  | zero =>
    intro i s hi hs
    refine ⟨s, hs, fun k hk => ?_⟩
    obtain ⟨k, rfl⟩ : ∃ m, k = m + 1 := ⟨k - 1, by omega⟩
    simp only [spec_stAll.l0, impl_paintedAll.l0]
    rw [if_neg (by omega), if_neg (by omega)]
    exact ⟨rfl, rfl⟩
  | succ d ih =>
    intro i s hi hs
    obtain ⟨y, y0, y1, y2⟩ := Paint.paint s (L[i]'(by omega)).f2 (L[i]'(by omega)).f0 (L[i]'(by omega)).f1 (by omega) (by rw [hs]; exact h _ (List.getElem_mem _))
    obtain ⟨r, r0, hr⟩ := ih (i + 1) y (by omega) (by omega)
    refine ⟨r, r0, fun k hk => ?_⟩
    obtain ⟨k, rfl⟩ : ∃ m, k = m + 1 := ⟨k - 1, by omega⟩
    obtain ⟨r1, r2⟩ := hr k (by omega)
    simp only [spec_stAll.l0, impl_paintedAll.l0]
    rw [if_pos (by omega), if_pos (by omega), if_pos (by omega), if_pos (by omega), if_pos (by omega), if_pos (by omega), Strokes.get27 L i (by omega), wid (x := (i : Int) + 1) (by omega) (by omega), y1, y2 k (by omega)]
    simp only [Option.bind_some]
    exact ⟨r1, r2⟩


theorem at_most (L : List S27) (n : Nat) (h : ∀ x ∈ L, Is (n : Int) x.f0 x.f1 x.f2) (t : List S27) (ht : ∀ x ∈ t, x ∈ L) : ∀ x ∈ t, Is (n : Int) x.f0 x.f1 x.f2 := fun x hx => h x (ht x hx)
/-- All strokes painted: the same answer of the two. -/
theorem all_f (t : List S27) (hl : t.length ≤ 40) (s : ByteArray) (hn : s.size ≤ 20) (h : ∀ x ∈ t, Is (s.size : Int) x.f0 x.f1 x.f2) : ∃ r, r.size = s.size ∧ ∀ k, 80 < k → spec_stAll.f k s t = some r ∧ impl_paintedAll.f k s t = some r := by
  obtain ⟨r, r0, hr⟩ := all_l0 t hl s.size hn h t.length 0 s (by omega) rfl
  refine ⟨r, r0, fun k hk => ?_⟩
  unfold spec_stAll.f impl_paintedAll.f
  rw [show (0 : Int) = ((0 : Nat) : Int) from rfl]
  exact hr k (by omega)
/-- One list behind another. -/
theorem app (u : List S27) : ∀ (d i : Nat) (t : List S27) (s : ByteArray) (r : ByteArray), i + d = t.length → (∃ M, ∀ k, M ≤ k → impl_paintedAll.l0 k s t (t.length : Int) (i : Int) = some r) → t.length ≤ 1000 → u.length ≤ 1000 →
    ∀ z, (∃ M, ∀ k, M ≤ k → impl_paintedAll.l0 k r u (u.length : Int) 0 = some z) → ∃ M, ∀ k, M ≤ k → impl_paintedAll.l0 k s (t ++ u) ((t ++ u).length : Int) (i : Int) = some z := by
  intro d
  induction d with
  | zero =>
    intro i t s r hi hs ht hu z hz
    obtain ⟨M, hM⟩ := hs
    have h1 := hM (M + 1) (by omega)
    simp only [impl_paintedAll.l0] at h1
    rw [if_neg (by omega)] at h1
    obtain rfl := Option.some.inj h1
    obtain ⟨Z, hZ⟩ := hz
    have key : ∀ (e : Nat) (c : Nat) (x : ByteArray), c + e = u.length → ∀ k, impl_paintedAll.l0 k x (t ++ u) ((t ++ u).length : Int) ((t.length + c : Nat) : Int) = impl_paintedAll.l0 k x u (u.length : Int) (c : Int) := by
      intro e
      induction e with
      | zero =>
        intro c x hc k
        cases k with
        | zero => rfl
        | succ k =>
          simp only [impl_paintedAll.l0]
          rw [if_neg (by rw [List.length_append]; omega), if_neg (by omega)]
      | succ e ihe =>
        intro c x hc k
        cases k with
        | zero => rfl
        | succ k =>
          have hg : rd_T27 (t ++ u) ((t.length + c : Nat) : Int) = rd_T27 u (c : Int) := by
            rw [Strokes.get27 _ _ (by rw [List.length_append]; omega), Strokes.get27 u c (by omega), List.getElem_append_right (by omega)]
            congr 1
            omega
          have := fun y => ihe (c + 1) y (by omega) k
          rw [show t.length + (c + 1) = t.length + c + 1 from by omega] at this
          simp only [impl_paintedAll.l0]
          rw [if_pos (by rw [List.length_append]; omega), if_pos (by omega), if_pos (by rw [List.length_append]; omega), if_pos (by omega), if_pos (by omega), if_pos (by omega), hg, wid (x := ((t.length + c : Nat) : Int) + 1) (by omega) (by omega), wid (x := (c : Int) + 1) (by omega) (by omega)]
          congr 1
          funext y
          have ty := this y
          rw [show ((t.length + c + 1 : Nat) : Int) = ((t.length + c : Nat) : Int) + 1 from by omega, show ((c + 1 : Nat) : Int) = (c : Int) + 1 from by omega] at ty
          exact ty
    refine ⟨Z, fun k hk => ?_⟩
    have := key u.length 0 s (by omega) k
    rw [show ((t.length + 0 : Nat) : Int) = (i : Int) from by omega] at this
    rw [this]
    exact hZ k hk
  | succ d ih =>
    intro i t s r hi hs ht hu z hz
    obtain ⟨M, hM⟩ := hs
    have hg : rd_T27 (t ++ u) (i : Int) = rd_T27 t (i : Int) := by
      rw [Strokes.get27 _ _ (by rw [List.length_append]; omega), Strokes.get27 t i (by omega), List.getElem_append_left (by omega)]
    have h1 := hM (M + 1) (by omega)
    simp only [impl_paintedAll.l0] at h1
    rw [if_pos (by omega), if_pos (by omega), if_pos (by omega)] at h1
    obtain ⟨y, y1, y2⟩ := Option.bind_eq_some_iff.mp h1
    have hs' : ∃ M, ∀ k, M ≤ k → impl_paintedAll.l0 k y t (t.length : Int) ((i + 1 : Nat) : Int) = some r := ⟨M, fun k hk => by
      have h2 := hM (k + 1) (by omega)
      simp only [impl_paintedAll.l0] at h2
      rw [if_pos (by omega), if_pos (by omega), if_pos (by omega), y1, Option.bind_some, wid (x := (i : Int) + 1) (by omega) (by omega)] at h2
      rw [show ((i + 1 : Nat) : Int) = (i : Int) + 1 from by omega]
      exact h2⟩
    obtain ⟨M', hM'⟩ := ih (i + 1) t y r (by omega) hs' ht hu z hz
    refine ⟨M' + 1, fun k hk => ?_⟩
    obtain ⟨k, rfl⟩ : ∃ m, k = m + 1 := ⟨k - 1, by omega⟩
    simp only [impl_paintedAll.l0]
    rw [if_pos (by rw [List.length_append]; omega), if_pos (by omega), if_pos (by rw [List.length_append]; omega), hg, y1, Option.bind_some, wid (x := (i : Int) + 1) (by omega) (by omega)]
    have := hM' k (by omega)
    rw [show ((i + 1 : Nat) : Int) = (i : Int) + 1 from by omega] at this
    exact this

theorem spec_step (s : ByteArray) (L : List S27) (hl : L.length ≤ 40) (all z : ByteArray) (out : List Int) (k i : Nat) (hi : i < L.length) (ho : out.length ≤ 40) (hv : spec_stAll.f k s (L.take i ++ L.drop (i + 1)) = some z) :
    spec_NeedlessStrokes.l0 (k + 1) s L out all (L.length : Int) (i : Int) = if z.toList = all.toList then spec_NeedlessStrokes.l0 k s L (out ++ [(i : Int)]) all (L.length : Int) ((i + 1 : Nat) : Int) else spec_NeedlessStrokes.l0 k s L out all (L.length : Int) ((i + 1 : Nat) : Int) := by
  have ht : (L.take i).length = i := by rw [List.length_take]; omega
  have hd : (L.drop (i + 1)).length = L.length - (i + 1) := List.length_drop
  rw [spec_NeedlessStrokes.l0, if_pos (by omega), Option.bind_some, if_pos (by omega), if_pos (by omega), Option.bind_some, if_pos (by rw [List.length_nil, Int.toNat_natCast, ht]; omega), Option.bind_some, wid (x := (i : Int) + 1) (by omega) (by omega), if_pos (by omega), if_pos (by omega), Option.bind_some, show ((i : Int) + 1).toNat = i + 1 from by omega, Int.toNat_natCast, List.nil_append, if_pos (by rw [ht, hd]; omega), hv, Option.bind_some, show ((i + 1 : Nat) : Int) = (i : Int) + 1 from by omega]
  by_cases c : z.toList = all.toList
  · rw [if_pos c, if_pos c, if_pos (by omega)]
  · rw [if_neg c, if_neg c]
theorem impl_step (s : ByteArray) (L : List S27) (hl : L.length ≤ 40) (all x z : ByteArray) (out : List Int) (k i : Nat) (hi : i < L.length) (ho : out.length ≤ 40) (hx : impl_paintedAll.f k s (L.take i) = some x) (hz : impl_paintedAll.f k x (L.drop (i + 1)) = some z) :
    impl_NeedlessStrokes.l0 (k + 1) s L all out (L.length : Int) (i : Int) = if z.toList = all.toList then impl_NeedlessStrokes.l0 k s L all (out ++ [(i : Int)]) (L.length : Int) ((i + 1 : Nat) : Int) else impl_NeedlessStrokes.l0 k s L all out (L.length : Int) ((i + 1 : Nat) : Int) := by
  simp only [impl_NeedlessStrokes.l0]
  rw [wid (x := (i : Int) + 1) (by omega) (by omega), show ((i : Int) + 1).toNat = i + 1 from by omega, Int.toNat_natCast, if_pos (by omega), if_pos (by omega), if_pos (by omega), hx, Option.bind_some, if_pos (by omega), if_pos (by omega), hz, Option.bind_some, show ((i + 1 : Nat) : Int) = (i : Int) + 1 from by omega]
  by_cases c : z.toList = all.toList
  · rw [if_pos c, if_pos c, if_pos (by omega)]
  · rw [if_neg c, if_neg c]
theorem parts_same (s : ByteArray) (t u : List S27) (ht : t.length ≤ 40) (hu : u.length ≤ 40) (x z v : ByteArray) (hx : ∀ k, 80 < k → impl_paintedAll.f k s t = some x) (hz : ∀ k, 80 < k → impl_paintedAll.f k x u = some z) (hv : ∀ k, 80 < k → impl_paintedAll.f k s (t ++ u) = some v) : v = z := by
  obtain ⟨M, hM⟩ := app u t.length 0 t s x (by omega) ⟨81, fun k hk => hx k (by omega)⟩ (by omega) (by omega) z ⟨81, fun k hk => hz k (by omega)⟩
  have h1 := hM (M + 100) (by omega)
  have h2 := hv (M + 100) (by omega)
  exact Option.some.inj (h2.symm.trans h1)

section
variable (s : ByteArray) (L : List S27) (ok : Strokes.OK s L) (all : ByteArray)
include ok
theorem both_l0 : ∀ (d i : Nat) (out : List Int), i + d = L.length → out.length ≤ i → ∃ r : List Int, r.length ≤ L.length ∧ ∀ k, d + 300 < k → spec_NeedlessStrokes.l0 k s L out all (L.length : Int) (i : Int) = some (r, true) ∧ impl_NeedlessStrokes.l0 k s L all out (L.length : Int) (i : Int) = some (r, true) := by
  have hl := ok.2.1
  intro d
  induction d with
  | zero =>
    intro i out hi ho
    refine ⟨out, by omega, fun k hk => ?_⟩
    obtain ⟨k, rfl⟩ : ∃ m, k = m + 1 := ⟨k - 1, by omega⟩
    simp only [spec_NeedlessStrokes.l0, impl_NeedlessStrokes.l0]
    rw [if_neg (by omega), if_neg (by omega)]
    exact ⟨rfl, rfl⟩
  | succ d ih =>
    intro i out hi ho
    have ht : (L.take i).length = i := by rw [List.length_take]; omega
    have hd : (L.drop (i + 1)).length = d := by rw [List.length_drop]; omega
    obtain ⟨x, x0, hx⟩ := all_f (L.take i) (by omega) s ok.1.2 (at_most L s.size ok.2.2 _ (fun y hy => List.mem_of_mem_take hy))
    obtain ⟨z, z0, hz⟩ := all_f (L.drop (i + 1)) (by omega) x (by have := ok.1.2; omega) (by rw [x0]; exact at_most L s.size ok.2.2 _ (fun y hy => List.mem_of_mem_drop hy))
    obtain ⟨v, v0, hv⟩ := all_f (L.take i ++ L.drop (i + 1)) (by rw [List.length_append]; omega) s ok.1.2 (at_most L s.size ok.2.2 _ (fun y hy => by
      rcases List.mem_append.1 hy with hy | hy
      · exact List.mem_of_mem_take hy
      · exact List.mem_of_mem_drop hy))
    have e : v = z := parts_same s (L.take i) (L.drop (i + 1)) (by omega) (by omega) x z v (fun k hk => (hx k hk).2) (fun k hk => (hz k hk).2) (fun k hk => (hv k hk).2)
    subst e
    obtain ⟨r1, p1, q1⟩ := ih (i + 1) (out ++ [(i : Int)]) (by omega) (by simp; omega)
    obtain ⟨r2, p2, q2⟩ := ih (i + 1) out (by omega) (by omega)
    by_cases c : v.toList = all.toList
    · refine ⟨r1, p1, fun k hk => ?_⟩
      obtain ⟨k, rfl⟩ : ∃ m, k = m + 1 := ⟨k - 1, by omega⟩
      rw [spec_step s L hl all v out k i (by omega) (by omega) (hv k (by omega)).1, impl_step s L hl all x v out k i (by omega) (by omega) (hx k (by omega)).2 (hz k (by omega)).2, if_pos c, if_pos c]
      exact q1 k (by omega)
    · refine ⟨r2, p2, fun k hk => ?_⟩
      obtain ⟨k, rfl⟩ : ∃ m, k = m + 1 := ⟨k - 1, by omega⟩
      rw [spec_step s L hl all v out k i (by omega) (by omega) (hv k (by omega)).1, impl_step s L hl all x v out k i (by omega) (by omega) (hx k (by omega)).2 (hz k (by omega)).2, if_neg c, if_neg c]
      exact q2 k (by omega)
end

theorem core (s : ByteArray) (L : List S27) (hl : L.length ≤ 1048576) : ∃ (M : Nat) (r : List Int × Bool), (r.1.length ≤ 1048576 ∧ r.1.length ≤ M) ∧ (∀ k, M ≤ k → spec_NeedlessStrokes.f k s L = some r) ∧ ∀ k, M ≤ k → impl_NeedlessStrokes.f k s L = some r := by
  obtain ⟨b, e1, iff1, e2⟩ := Strokes.list s L hl
  cases b with
  | false =>
    refine ⟨L.length + 51, ([], false), by simp, fun k hk => ?_, fun k hk => ?_⟩
    · unfold spec_NeedlessStrokes.f
      rw [e2 k (by omega)]; rfl
    · unfold impl_NeedlessStrokes.f
      rw [e1]; rfl
  | true =>
    have ok := iff1 rfl
    have h40 := ok.2.1
    obtain ⟨a, a0, ha⟩ := all_f L ok.2.1 s ok.1.2 ok.2.2
    obtain ⟨r, hr, hq⟩ := both_l0 s L ok a L.length 0 [] (by omega) (by simp)
    refine ⟨1000, (r, true), ?_, fun k hk => ?_, fun k hk => ?_⟩
    · show r.length ≤ 1048576 ∧ r.length ≤ 1000; omega
    · unfold spec_NeedlessStrokes.f
      rw [e2 k (by omega)]
      simp only [Option.bind_some, if_true]
      rw [(ha k (by omega)).1, Option.bind_some]
      exact (hq k (by omega)).1
    · unfold impl_NeedlessStrokes.f
      rw [e1]
      simp only [Option.bind_some, if_true]
      rw [(ha k (by omega)).2, Option.bind_some]
      exact (hq k (by omega)).2

theorem FnExactNeedlessStrokes : laws_FnExactNeedlessStrokes.Pure := by
  intro s l _ hm hy
  by_cases h : (s.size : Int) > 1048576
  · refine ⟨0, ?_⟩
    unfold laws_FnExactNeedlessStrokes.f
    rw [if_pos h]
  · obtain ⟨z, hz, K, hK⟩ := Strokes.sized l hm (fun y h => (hy y h).2.2)
    by_cases hn : z < 0
    · refine ⟨K, ?_⟩
      unfold laws_FnExactNeedlessStrokes.f
      rw [if_neg h, hK K (Nat.le_refl _)]
      simp only [Option.bind_some]
      rw [if_pos hn]
    · have hl : l.length ≤ 1048576 := by rcases hz with hz | hz; exact absurd hz hn; exact hz
      have hc := Strokes.conv_length l
      obtain ⟨M, r, hr, hs, hi⟩ := core s (Strokes.conv l) (by omega)
      obtain ⟨Q, hQ⟩ : ∃ Q, Q = K + M + l.length + 100 := ⟨_, rfl⟩
      have hmk : ∀ j, ∃ y, laws_markStrokeS.f (Q + j) (Strokes.conv l) 1 = some (1 + 3 * ((Strokes.conv l).length : Int), y) := fun j => Mark.mark _ (by omega) _ (by omega)
      obtain ⟨Y, e6⟩ : ∃ Y : Nat → List S27, ∀ j, laws_markStrokeS.f (Q + j) (Strokes.conv l) 1 = some (1 + 3 * ((Strokes.conv l).length : Int), Y j) := ⟨fun j => Classical.choose (hmk j), fun j => Classical.choose_spec (hmk j)⟩
      clear hmk
      have n6 : ¬ (1 + 3 * ((Strokes.conv l).length : Int)) < 0 := by omega
      have hE : ∀ j, laws_eqIntS.f (Q + j) r.1 r.1 = some true := fun j => LawInt.eqIntS r.1 (by omega) _ (by omega)
      obtain ⟨y, hM0, hH0⟩ := LawInt.marked r.1 (by omega)
      have hM : ∀ j, laws_markIntS.f (Q + j) r.1 1 = some (1 + (r.1.length : Int), y) := fun j => hM0 _ (by omega)
      have hH : ∀ j, laws_heldIntS.f (Q + j) y 1 = some (1 + (r.1.length : Int)) := fun j => hH0 _ (by omega)
      have n0 : ¬ (1 + (r.1.length : Int)) < 0 := by omega
      have e1 : ∀ j, laws_szStrokeS.f (Q + j) l 1048576 = some z := fun j => hK _ (by omega)
      have e2 : ∀ j, laws_toStrokeS.f (Q + j) l = some (Strokes.conv l) := fun j => Strokes.toS l hl _ (by omega)
      have e3 : ∀ j, laws_eqStrokeS.f (Q + j) (Strokes.conv l) (Strokes.conv l) = some true := fun j => Strokes.eqS _ (by omega) _ (by omega)
      have e4 : ∀ j, spec_NeedlessStrokes.f (Q + j) s (Strokes.conv l) = some r := fun j => hs _ (by omega)
      have e5 : ∀ j, impl_NeedlessStrokes.f (Q + j) s (Strokes.conv l) = some r := fun j => hi _ (by omega)
      refine ⟨Q + 20, ?_⟩
      unfold laws_FnExactNeedlessStrokes.f
      rw [if_neg h]
      simp [e1, e2, e3, e4, e5, hn, e6, n6, hE, hM, hH, n0, laws_FnExactNeedlessStrokes.j0, laws_FnExactNeedlessStrokes.j1, laws_FnExactNeedlessStrokes.j2]
end Go.Proofs.Ytcdebaohefphaaa.Pure
