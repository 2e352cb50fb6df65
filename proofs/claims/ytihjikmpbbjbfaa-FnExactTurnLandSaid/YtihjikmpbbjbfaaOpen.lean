/- Cells that read as data of a Go type are an element of a kind: what the rows of this session's claims open their arguments by; no condition beside those named. -/
import Derived.Test.YtihjikmpbbjbfaaWWords
import Derived.Deep.Strs
import Derived.ChangeSlices
import Derived.ChangeArms
import Derived.DataReads
import Derived.Deep.Fields
namespace Go.Proofs.Ytihjikmpbbjbfaa.Open
open Go.ChangeShapes Go.WideShapes Go.RowKit Go.Proofs.YtihjikmpbbjbfaaW.PrintWords
set_option linter.unusedVariables false
set_option linter.unusedSimpArgs false
section
variable {H : Type} {P : Program} {w : World}

/-- Cells that read as data of the type are an element of the kind, of which G holds. -/
def Opens (enc : TypeId × Value → H) (P : Program) (w : World) (t : TypeId) {α : Type} (d : Kd α) (G : α → Prop) : Prop :=
  ∀ (fuel : Nat) (cs : List Value) (x : DataW H × List MemPlace), DataW.trod enc P w 0 (fun _ => true) true fuel t cs = some x → ∃ y, d.K w y cs ∧ G y

variable {enc : TypeId × Value → H}
theorem opens_int {t : TypeId} {k : IntKind} (ht : P.underlying t = some (.int k)) : Opens enc P w t (Kd.int k) (fun n => (Lit.int k n).wf = true) := by
  intro fuel cs x h
  obtain ⟨m, rfl, _, hw⟩ := DataW.trod_int ht h
  exact ⟨m, rfl, hw⟩
theorem opens_string {t : TypeId} (ht : P.underlying t = some .string) : Opens enc P w t Kd.string (fun s => s.size ≤ 9223372036854775807) := by
  intro fuel cs x h
  obtain ⟨s, rfl, _, hw⟩ := DataW.trod_string ht h
  exact ⟨s, rfl, by unfold maxLen at hw; omega⟩
theorem opens_bool {t : TypeId} (ht : P.underlying t = some .bool) : Opens enc P w t Kd.bool (fun _ => True) := by
  intro fuel cs x h
  obtain ⟨s, rfl, _⟩ := DataW.trod_bool ht h
  exact ⟨s, rfl, trivial⟩

theorem add_add (a : Addr) (m n : Nat) : (a.add m).add n = a.add (m + n) := by
  unfold Addr.add
  by_cases hm : m = 0 <;> by_cases hn : n = 0 <;> simp [hm, hn, Nat.add_assoc]

theorem opens_slice {t e : TypeId} {α : Type} {d : Kd α} {G : α → Prop} (ht : P.underlying t = some (.slice e)) (hc : P.cellsOf e = d.sz) (he : Opens enc P w e d G) :
    Opens enc P w t (Kd.slice e d) (fun xs => xs.length ≤ 9223372036854775807 ∧ ∀ y ∈ xs, G y) := by
  intro fuel cs x h
  rcases DataW.trod_slice ht h with ⟨rfl, _⟩ | ⟨a, len, cap, elems, rest, n, _, rfl, _, _, hl, hm, hlen, hel, _, _⟩
  · exact ⟨[], ⟨none, 0, rfl, Nat.le_refl _, Kd.C_nil d w⟩, by simp, by simp⟩
  have hm' : cap ≤ 9223372036854775807 := by unfold maxLen at hm; omega
  have each : ∀ i : Fin len, ∃ (y : α), G y ∧ ∃ c : List Value, c.length = d.sz ∧ d.K w y c ∧ ∀ j u, c[j]? = some u → w.cell? (a.add (i.val * d.sz + j)) = some u := by
    intro i
    have hi := hel i.val i.isLt
    rw [List.getElem?_eq_getElem (by omega), Option.bind_eq_some_iff] at hi
    obtain ⟨cs', hcs, hy⟩ := hi
    obtain ⟨y, hK, hG⟩ := he _ _ _ hy
    obtain ⟨_, hcl, hce⟩ := World.cells?_some hcs
    rw [hc] at hcl hce
    refine ⟨y, hG, cs', hcl, hK, fun j u hu => ?_⟩
    have hj : j < d.sz := by
      have := (List.getElem?_eq_some_iff.1 hu).1
      omega
    rw [← add_add, hce j hj]
    exact hu
  have pick := fun i => Classical.choose_spec (each i)
  generalize hY : (fun i => Classical.choose (each i)) = Y at *
  have pick' : ∀ i : Fin len, G (Y i) ∧ ∃ c : List Value, c.length = d.sz ∧ d.K w (Y i) c ∧ ∀ j u, c[j]? = some u → w.cell? (a.add (i.val * d.sz + j)) = some u := fun i => by
    rw [← hY]; exact pick i
  refine ⟨List.ofFn Y, ⟨some a, cap, by rw [List.length_ofFn], by rw [List.length_ofFn]; exact hl, rfl, by rw [List.length_ofFn]; omega, fun _ => ⟨a, rfl, fun j p hj => ?_⟩⟩, by rw [List.length_ofFn]; omega, fun y hy => ?_⟩
  · have hjl : j < len := by
      have := (List.getElem?_eq_some_iff.1 hj).1
      rwa [List.length_ofFn] at this
    rw [List.getElem?_ofFn, dif_pos hjl] at hj
    obtain rfl := Option.some.inj hj
    exact (pick' ⟨j, hjl⟩).2
  · rw [List.mem_ofFn] at hy
    obtain ⟨i, rfl⟩ := hy
    exact (pick' i).1

theorem opens_struct2 {t : TypeId} {f0 f1 : Field} {α0 α1 β : Type} {d0 : Kd α0} {d1 : Kd α1} {G0 : α0 → Prop} {G1 : α1 → Prop} (ht : P.underlying t = some (.struct #[f0, f1])) (hc : P.cellsOf t = 2)
    (hone : Go.Deep.oneCellFields P #[f0, f1] = true) (h0 : Opens enc P w f0.type d0 G0) (h1 : Opens enc P w f1.type d1 G1)
    (f : β → α0 × α1) (g : α0 × α1 → β) (hg : ∀ p, f (g p) = p) : Opens enc P w t (Kd.iso (Kd.pair d0 d1) f) (fun y => G0 (f y).1 ∧ G1 (f y).2) := by
  intro fuel cs x h
  obtain ⟨y0, y1, n, _, hl, k0, k1⟩ := trod_struct2 ht h
  obtain ⟨o0, q0⟩ := Go.Deep.hone_of hone 0 f0 rfl
  obtain ⟨o1, q1⟩ := Go.Deep.hone_of hone 1 f1 rfl
  rw [hc] at hl
  match cs, hl with
  | [v0, v1], _ =>
    rw [o0, q0] at k0
    rw [o1, q1] at k1
    obtain ⟨z0, K0, g0⟩ := h0 _ _ _ k0
    obtain ⟨z1, K1, g1⟩ := h1 _ _ _ k1
    refine ⟨g (z0, z1), ?_, by show G0 _ ∧ G1 _; rw [hg]; exact ⟨g0, g1⟩⟩
    show (Kd.pair d0 d1).K w (f (g (z0, z1))) _
    rw [hg]
    exact ⟨_, _, rfl, K0, K1⟩
theorem opens_struct3 {t : TypeId} {f0 f1 f2 : Field} {α0 α1 α2 β : Type} {d0 : Kd α0} {d1 : Kd α1} {d2 : Kd α2} {G0 : α0 → Prop} {G1 : α1 → Prop} {G2 : α2 → Prop} (ht : P.underlying t = some (.struct #[f0, f1, f2])) (hc : P.cellsOf t = 3)
    (hone : Go.Deep.oneCellFields P #[f0, f1, f2] = true) (h0 : Opens enc P w f0.type d0 G0) (h1 : Opens enc P w f1.type d1 G1) (h2 : Opens enc P w f2.type d2 G2)
    (f : β → α0 × α1 × α2) (g : α0 × α1 × α2 → β) (hg : ∀ p, f (g p) = p) : Opens enc P w t (Kd.iso (Kd.pair d0 (Kd.pair d1 d2)) f) (fun y => G0 (f y).1 ∧ G1 (f y).2.1 ∧ G2 (f y).2.2) := by
  intro fuel cs x h
  obtain ⟨y0, y1, y2, n, _, hl, k0, k1, k2⟩ := Go.Deep.trod_struct3 ht h
  obtain ⟨o0, q0⟩ := Go.Deep.hone_of hone 0 f0 rfl
  obtain ⟨o1, q1⟩ := Go.Deep.hone_of hone 1 f1 rfl
  obtain ⟨o2, q2⟩ := Go.Deep.hone_of hone 2 f2 rfl
  rw [hc] at hl
  match cs, hl with
  | [v0, v1, v2], _ =>
    rw [o0, q0] at k0
    rw [o1, q1] at k1
    rw [o2, q2] at k2
    obtain ⟨z0, K0, g0⟩ := h0 _ _ _ k0
    obtain ⟨z1, K1, g1⟩ := h1 _ _ _ k1
    obtain ⟨z2, K2, g2⟩ := h2 _ _ _ k2
    refine ⟨g (z0, z1, z2), ?_, by show G0 _ ∧ G1 _ ∧ G2 _; rw [hg]; exact ⟨g0, g1, g2⟩⟩
    show (Kd.pair d0 (Kd.pair d1 d2)).K w (f (g (z0, z1, z2))) _
    rw [hg]
    exact ⟨_, _, rfl, K0, _, _, rfl, K1, K2⟩

/-- An argument that is a slice. -/
theorem arg_slice {t e : TypeId} {α : Type} {d : Kd α} {G : α → Prop} {r : Reach} {b0 : Nat} {v : Value} {da : DataW H} {p : List MemPlace} (ht : P.underlying t = some (.slice e)) (hc : P.cellsOf e = d.sz) (he : Opens enc P w e d G)
    (hv : Value.okWide P w r b0 t v) (h : DataW.Trod enc P w 0 (fun _ => true) true t v da p) :
    ∃ (A : Option Addr) (c : Nat) (xs : List α), v = .slice A xs.length c ∧ d.C w A xs.length xs ∧ xs.length ≤ c ∧ xs.length ≤ 9223372036854775807 ∧ ∀ y ∈ xs, G y := by
  obtain ⟨a, len, cap, rfl⟩ := okWide_slice ht hv
  obtain ⟨fuel, hf⟩ := h
  obtain ⟨xs, ⟨A, c, e1, hl, hC⟩, hG, hG'⟩ := opens_slice ht hc he _ _ _ hf
  have e2 : Value.slice a len cap = .slice A xs.length c := by simpa [Value.cells] using e1
  exact ⟨A, c, xs, e2, hC, hl, hG, hG'⟩
end
end Go.Proofs.Ytihjikmpbbjbfaa.Open
