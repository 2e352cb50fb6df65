/- Laid by xp.py, a program of this session, over the kit's print: plain Lean functions with the answers of the Go functions, and proofs that the Go calls come to these answers; no condition beside those that each theorem names. -/
import Derived.Test.YtelfljoapaoeoaaV0
import Derived.Test.YtelfljoapaoeoaaV1
import Derived.Test.YtelfljoapaoeoaaV2
import Derived.Test.YtelfljoapaoeoaaV3
namespace Go.Proofs.Ytelfljoapaoeoaa.V
open Go.RowKit Go.Proofs.YtelfljoapaoeoaaW.PrintWords Go.Proofs.YtelfljoapaoeoaaW.PrintLast Go.Proofs.YtelfljoapaoeoaaW.PrintMore
attribute [local go_sem] max2_int min2_int max_two min_two max_three min_three max_four min_four   -- for this text's walks alone
set_option linter.unusedVariables false
set_option linter.unusedSimpArgs false

/-! ### impl_TakeGate: function 21 -/
def impl_TakeGate.f (k : Nat) (a0 : Int) (l1 : List Int) (a2 : Int) : Option (List Int × Bool) := (impl_AreGates.f k a0 l1).bind fun t => (if t = true then ((slices_Contains_int_int.f k l1 a2).bind fun b => (if b = true then (if l1 = [] then none else ((slices_Clone_int_int.f l1).bind fun c => (some (c.filter (fun x => !(x == a2)), true)))) else (some (([] : List Int), false)))) else (some (([] : List Int), false)))
theorem impl_TakeGate.mono : ∀ a0 a1 a2 k, LeO (impl_TakeGate.f k a0 a1 a2) (impl_TakeGate.f (k + 1) a0 a1 a2) := by
  intro a0 a1 a2 k
  unfold impl_TakeGate.f
  repeat' first
      | (with_reducible exact impl_AreGates.mono _ _ _)
      | (with_reducible exact slices_Contains_int_int.mono _ _ _)
      | (with_reducible exact LeO.refl _)
      | (with_reducible exact LeO.none _)
      | (with_reducible refine LeO.ite ?_ ?_)
      | (with_reducible refine LeO.bind ?_ (fun _ => ?_))
      | exact impl_AreGates.mono _ _ _
      | exact slices_Contains_int_int.mono _ _ _
      | exact LeO.refl _
      | exact LeO.none _
      | refine LeO.ite ?_ ?_
      | refine LeO.bind ?_ (fun _ => ?_)
def impl_TakeGate.ren : Go.Shelf.Ren := ⟨fun | 6 => 47 | 10 => 39 | n => n, fun | 0 => 0 | 3 => 3 | 4 => 4 | 22 => 22 | 23 => 3 | 25 => 44 | n => n, fun | n => n⟩
theorem impl_TakeGate.lays : Go.Proofs.SlLaysH.n10 Try.prog impl_TakeGate.ren := {
  mixed := by kernel_rfl
  f6 := ⟨"slices.IndexFunc[[]int,int]", by rfl, Try.func47.trans (congrArg some (by kernel_rfl))⟩
  f10 := ⟨"slices.DeleteFunc[[]int,int]", by rfl, Try.func39.trans (congrArg some (by kernel_rfl))⟩
  t0 := Try.underlying0
  a0 := Try.isAgg0
  z0 := Try.sizeOf0
  v0 := Try.zeroValue0
  t3 := Try.underlying3
  a3 := Try.isAgg3
  z3 := Try.sizeOf3
  v3 := Try.zeroValue3
  t4 := Try.underlying4
  a4 := Try.isAgg4
  z4 := Try.sizeOf4
  v4 := Try.zeroValue4
  t22 := Try.underlying22
  a22 := Try.isAgg22
  z22 := Try.sizeOf22
  v22 := Try.zeroValue22
  a23 := Try.isAgg3
  z23 := Try.sizeOf3
  t25 := Try.underlying44
  a25 := Try.isAgg44
  z25 := Try.sizeOf44
  v25 := Try.zeroValue44 }
set_option maxHeartbeats 4000000 in
theorem impl_TakeGate.one (g : Int) (B : Nat) (W : World) (hB : W.cell? ⟨B, 0, none⟩ = some (.int .i64 g)) (x : Int) :
    Calls Try.prog 41 #[.int .i64 x, .pointer (some ⟨B, 0, none⟩)] W fun e w' => e = .returned (.bool (x == g)) ∧ ∃ q, w' = W.drewN q := by
  go_enter Try.func41, Try.ntmps41
  go_wp2
  go_ret
  exact ⟨by first | rfl | (simp; done), 0, by first | rfl | (simp; done)⟩
theorem impl_TakeGate.cells (nd : Array Int) (cur : Array Value) (L : List Int) (h1 : L.length ≤ nd.size) (h2 : nd.size ≤ cur.size) (h3 : ∀ j, j < L.length → nd[j]! = L[j]!) : (Go.Sort.putCells (Value.int .i64) 0 nd cur).toList.take (L.length * 1) = L.map (Value.int .i64) := by
  apply List.ext_getElem?
  intro j
  rw [Nat.mul_one, List.getElem?_take, List.getElem?_map, Array.getElem?_toList]
  by_cases hj : j < L.length
  · rw [if_pos hj]
    unfold Go.Sort.putCells
    have h4 := h3 j hj
    rw [getElem!_pos L j hj] at h4
    rw [Array.getElem?_mapIdx, Array.getElem?_eq_getElem (by omega), List.getElem?_eq_getElem hj, Option.map_some, Option.map_some, if_pos ⟨Nat.zero_le _, by omega⟩, Nat.sub_zero, h4]
  · rw [if_neg hj, List.getElem?_eq_none (by omega)]
    rfl
theorem impl_TakeGate.reps (f : World) (b : Nat) (o : Nat → Prop) (L : List Int) : Reps (Kd.M (Kd.int .i64) f b o) (Kd.int .i64).sz L (L.map (Value.int .i64)) := by
  refine ⟨by rw [List.length_map]; exact (Nat.mul_one _).symm, fun j p hj => ?_⟩
  show ((L.map (Value.int .i64)).drop (j * 1)).take 1 = [Value.int .i64 p]
  have hl := (List.getElem?_eq_some_iff.1 hj)
  obtain ⟨hlt, rfl⟩ := hl
  rw [Nat.mul_one, List.drop_eq_getElem_cons (by rw [List.length_map]; exact hlt), List.take_succ_cons, List.take_zero, List.getElem_map]
set_option maxHeartbeats 4000000 in
theorem impl_TakeGate.del (g : Int) (B : Nat) (c : List Int) (hc : c ≠ []) (v : Value) (w0 W : World) (hb0 : Below w0.heap.size w0 W) (hR : Kd.R (Kd.int .i64) 3 W w0.heap.size (fun _ => True) v c) (hB : W.cell? ⟨B, 0, none⟩ = some (.int .i64 g)) (hne : v.ownBlock ≠ some B) :
    Calls Try.prog 39 #[v, .func (.func 41) #[] #[.pointer (some ⟨B, 0, none⟩)]] W fun e w' => ∃ v', e = .returned v' ∧ Kd.R (Kd.int .i64) 3 w' w0.heap.size (fun _ => True) v' (c.filter fun x => !(x == g)) ∧ Below w0.heap.size w0 w' := by
  have eg : ∀ args w, (callFunc 41 args).run Try.prog w = .ok (.enter 41 args) w := enters_of Try.func41 (by kernel_rfl) rfl
  obtain ⟨hok, inner, ⟨hlen, hrow⟩, hreps⟩ := hR
  rcases hrow with ⟨rfl, h0⟩ | ⟨gb, cap, cur, rfl, hge, hheap, hn, hmax, hsz, htake⟩
  · exact absurd (List.length_eq_zero_iff.1 h0) hc
  have hsz1 : cur.size = cap := by rw [hsz]; exact Nat.mul_one _
  have hlen1 : inner.length = c.length := by rw [hlen]; exact Nat.mul_one _
  have hBne : B ≠ gb := fun e => hne (by rw [e]; rfl)
  have hBlt := World.block_lt_of_cell? W _ hB
  have hgblt : gb < W.heap.size := by
    rcases Nat.lt_or_ge gb W.heap.size with h | h
    · exact h
    · rw [Array.getElem?_eq_none h] at hheap; cases hheap
  have hcell : ∀ j (hj : j < c.length), cur[j]? = some (.int .i64 c[j]) := by
    intro j hj
    have h1 := hreps.2 j c[j] (List.getElem?_eq_getElem hj)
    have h2 : ((inner.drop (j * 1)).take 1) = [Value.int .i64 c[j]] := h1
    rw [Nat.mul_one, List.drop_eq_getElem_cons (by omega), List.take_succ_cons, List.take_zero] at h2
    injection h2 with h2 _
    have h3 : inner[j]? = some (Value.int .i64 c[j]) := by rw [List.getElem?_eq_getElem (by omega), h2]
    rw [← htake, List.getElem?_take, if_pos (by show j < c.length * 1; omega), Array.getElem?_toList] at h3
    exact h3
  have hH : Go.Sort.Holds (Value.int .i64) W gb 0 c.toArray := by
    intro j hj
    have hj' : j < c.length := by simpa using hj
    constructor
    · unfold World.cell?
      simp only [hheap, Nat.zero_add]
      rw [if_neg (by simp), hcell j hj', getElem!_pos c.toArray j hj]
      simp
    · unfold World.frozen?
      simp [hheap]
  have hp : PredAt Try.prog 41 #[.pointer (some ⟨B, 0, none⟩)] (Value.int .i64) (fun x => x == g) W := fun W' x hb => impl_TakeGate.one g B W' ((hb.cell hBlt).trans hB) x
  have hpo : PredOver Try.prog 41 #[.pointer (some ⟨B, 0, none⟩)] (Value.int .i64) (fun x => x == g) gb 0 c.toArray.size W := by
    intro n os dk x hdk
    refine impl_TakeGate.one g B _ ?_ x
    unfold sortWorld
    rw [Go.Sort.cell?_grow _ _ _ (by rw [Go.Sort.size_putRow]; exact hBlt), Go.Sort.cell?_putRow_other _ _ _ _ _ _ (.inl hBne)]
    exact hB
  have hD := AnyE.slices_DeleteFunc impl_TakeGate.lays (Value.int .i64) (fun _ => rfl) (fun x => x == g) 41 #[.pointer (some ⟨B, 0, none⟩)] eg (0 : Int) (fun w => Try.zeroValue3 w) gb 0 cap c.toArray W hp hpo hH (by simp; unfold maxLen at hmax; omega) (by simpa using hn)
  have hs : c.toArray.size = c.length := by simp
  have hF : (c.filter fun x => !(x == g)).length ≤ c.length := List.length_filter_le _ _
  rw [hs] at hD
  have hl : c.toArray.toList = c := by simp
  rw [hl] at hD
  refine hD.mono ?_
  rintro e w' ⟨rfl, q, rfl⟩
  generalize hLdef : (c.filter fun x => !(x == g)) = L at *
  generalize hND : (L ++ List.replicate (c.length - L.length) (0 : Int)).toArray = nd at *
  have hnd : nd.size = c.length := by rw [← hND]; simp; omega
  refine ⟨_, rfl, ⟨fun _ _ => trivial, L.map (Value.int .i64), ⟨by rw [List.length_map]; exact (Nat.mul_one _).symm, .inr ⟨gb, cap, Go.Sort.putCells (Value.int .i64) 0 nd cur, rfl, hge, ?_, by omega, hmax, ?_, ?_⟩⟩, impl_TakeGate.reps _ _ _ _⟩, ?_⟩
  · unfold Go.Sort.putRow Go.Sort.mapBlock
    show ((Go.Sort.ahead W q).heap.modify gb _)[gb]? = _
    rw [Array.getElem?_modify, if_pos rfl]
    show (W.heap[gb]?).map _ = _
    rw [hheap]
    rfl
  · unfold Go.Sort.putCells
    rw [Array.size_mapIdx]
    exact hsz
  · refine impl_TakeGate.cells nd cur L (by omega) (by omega) (fun j hj => ?_)
    rw [← hND, getElem!_pos _ j (by simp; omega), getElem!_pos L j hj]
    simp [List.getElem_append_left hj]
  · refine ⟨hb0.os, hb0.tape, hb0.output, ?_, fun k hk => ?_⟩
    · rw [Go.Sort.size_putRow]
      exact hb0.size
    · unfold Go.Sort.putRow Go.Sort.mapBlock
      show ((Go.Sort.ahead W q).heap.modify gb _)[k]? = _
      rw [Array.getElem?_modify, if_neg (by omega)]
      exact hb0.block k hk
set_option maxHeartbeats 8000000 in
set_option maxRecDepth 100000 in
theorem impl_TakeGate.calls (k : Nat) (a0 : Int) (A1 : Option Addr) (c1 : Nat) (l1 : List Int) (a2 : Int) (r1 : List Int) (r2 : Bool) (w : World) (hr1 : Kd.C (Kd.int .i64) w A1 l1.length l1) (hc1 : l1.length ≤ c1) (h : impl_TakeGate.f k a0 l1 a2 = some (r1, r2)) :
    Calls Try.prog 21 #[.int .i64 a0, .slice A1 l1.length c1, .int .i64 a2] w fun e w' => ∃ v1_ : Value, e = .returned (.tuple #[v1_, .bool r2]) ∧ Kd.R (Kd.int .i64) 3 w' w.heap.size (fun _ => True) v1_ r1 ∧ Below w.heap.size w w' := by
  have HR := Aside0.mk hr1
  have HC := Aside0.mk hc1
  clear hr1 hc1
  have HB := Aside0.mk (Below.refl w.heap.size w)
  unfold impl_TakeGate.f at h
  obtain ⟨t, ht, h⟩ := Option.bind_eq_some_iff.mp h
  have HT := Aside0.mk ht
  clear ht
  cases t with
  | true =>
    rw [if_pos rfl] at h
    obtain ⟨b, hb_, h⟩ := Option.bind_eq_some_iff.mp h
    have HK := Aside0.mk hb_
    clear hb_
    cases b with
    | true =>
      rw [if_pos rfl] at h
      by_cases hz : l1 = []
      · rw [if_pos hz] at h
        cases h
      rw [if_neg hz] at h
      obtain ⟨c, hcl, h⟩ := Option.bind_eq_some_iff.mp h
      have hcc : c = l1 := by
        unfold slices_Clone_int_int.f at hcl
        split at hcl
        · exact (Option.some.inj hcl).symm
        · cases hcl
      have HZ := Aside0.mk (show c ≠ [] by rw [hcc]; exact hz)
      have HCL := Aside0.mk hcl
      clear hcl hcc hz
      simp only [Option.some.injEq, Prod.mk.injEq] at h
      obtain ⟨rfl, rfl⟩ := h
      go_enter Try.func21, Try.ntmps21
      go_wp2_with (first | ((with_reducible refine gate_dst (N := 5) rfl ?_); refine box_event ?hg (N := 5) ?hd (cs := #[.int .i64 a2]) (t := 3) ?hr ?_; (case hd => rfl); (case hg => rfl); (case hr => first | (go_simp; done) | (go_simp; rfl)); intro gb hg wb hbox hb; have hcz : wb.cell? ⟨gb, 0, none⟩ = some (.int .i64 a2) := (blk_cell hbox 0).trans rfl; have n0_ := Aside0.mk (below_step (by repeat (first | (with_reducible first | exact HB.out | apply below_alloc | apply pw_below_drewN | apply below_drew1) | exact HB.out)) hb); clear HB; have HB := n0_; clear n0_; have HZ0 := Aside0.mk hcz; have HBZ := Aside0.mk (Below.refl wb.heap.size wb); clear hb hg hbox) | (go_at_call 29; (refine (impl_AreGates.calls k a0 _ _ l1 _ _ ?side1 ?side2 HT.out).mono ?_); (case side1 => repeat (first | exact (Kd.C_below HR.out HB.out) | (with_reducible refine Kd.C_alloc ?_ _) | (with_reducible refine Kd.C_drewN ?_ _) | (with_reducible refine Kd.C_drew ?_))); (case side2 => exact HC.out); rintro e w10 ⟨rfl, hb⟩; replace hb := (by first | exact hb | exact Drawn0.below hb : Below _ _ _); have n0_ := Aside0.mk (below_step (by repeat (first | (with_reducible first | exact HB.out | apply below_alloc | apply pw_below_drewN | apply below_drew1) | exact HB.out)) hb); have hq := pw_cell_below hb HZ0.out; clear HZ0; have HZ0 := Aside0.mk hq; have hcz := hq; clear HB; have HB := n0_; clear n0_; clear hb) | (go_at_call 38; (refine (slices_Contains_int_int.calls k _ _ l1 a2 _ _ ?side1 ?side2 HK.out).mono ?_); (case side1 => repeat (first | exact (Kd.C_below HR.out HB.out) | (with_reducible refine Kd.C_alloc ?_ _) | (with_reducible refine Kd.C_drewN ?_ _) | (with_reducible refine Kd.C_drew ?_))); (case side2 => exact HC.out); rintro e w11 ⟨rfl, hb⟩; replace hb := (by first | exact hb | exact Drawn0.below hb : Below _ _ _); have n0_ := Aside0.mk (below_step (by repeat (first | (with_reducible first | exact HB.out | apply below_alloc | apply pw_below_drewN | apply below_drew1) | exact HB.out)) hb); have hq := pw_cell_below hb HZ0.out; clear HZ0; have HZ0 := Aside0.mk hq; have hcz := hq; clear HB; have HB := n0_; clear n0_; clear hb) | (go_at_call 40; (refine (slices_Clone_int_int.calls _ _ l1 c _ ?side1 ?side2 HCL.out).mono ?_); (case side1 => repeat (first | exact (Kd.C_below HR.out HB.out) | (with_reducible refine Kd.C_alloc ?_ _) | (with_reducible refine Kd.C_drewN ?_ _) | (with_reducible refine Kd.C_drew ?_))); (case side2 => exact HC.out); rintro e w12 ⟨v12, rfl, ho, hb⟩; have hne := (show v12.ownBlock ≠ some gb from fun e_ => by have h1 := Kd.R_base ho gb e_; have h2 := World.block_lt_of_cell? _ _ HZ0.out; have h3 : gb < _ := h2; omega); have HNE := Aside0.mk hne; have HO := Aside0.mk (Kd.R_lower ho (below_size (by repeat (first | (with_reducible first | exact HB.out | apply below_alloc | apply pw_below_drewN | apply below_drew1) | exact HB.out)))); clear ho hne; replace hb := (by first | exact hb | exact Drawn0.below hb : Below _ _ _); have n0_ := Aside0.mk (below_step (by repeat (first | (with_reducible first | exact HB.out | apply below_alloc | apply pw_below_drewN | apply below_drew1) | exact HB.out)) hb); have hq := pw_cell_below hb HZ0.out; clear HZ0; have HZ0 := Aside0.mk hq; have hcz := hq; clear HB; have HB := n0_; clear n0_; clear hb) | (go_at_call 39; (refine (impl_TakeGate.del a2 gb c HZ.out _ w _ HB.out HO.out HZ0.out HNE.out).mono ?_); rintro e w13 ⟨v13, rfl, hd, hb⟩; have HD := Aside0.mk hd; clear HB; have HB := Aside0.mk hb; clear hb hd))
      go_ret2
      exact ⟨_, rfl, HD.out, HB.out⟩
    | false =>
      rw [if_neg (by simp)] at h
      simp only [Option.some.injEq, Prod.mk.injEq] at h
      obtain ⟨rfl, rfl⟩ := h
      go_enter Try.func21, Try.ntmps21
      go_wp2_with (first | ((with_reducible refine gate_dst (N := 5) rfl ?_); refine box_event ?hg (N := 5) ?hd (cs := #[.int .i64 a2]) (t := 3) ?hr ?_; (case hd => rfl); (case hg => rfl); (case hr => first | (go_simp; done) | (go_simp; rfl)); intro gb hg wb hbox hb; have hcz : wb.cell? ⟨gb, 0, none⟩ = some (.int .i64 a2) := (blk_cell hbox 0).trans rfl; have n0_ := Aside0.mk (below_step (by repeat (first | (with_reducible first | exact HB.out | apply below_alloc | apply pw_below_drewN | apply below_drew1) | exact HB.out)) hb); clear HB; have HB := n0_; clear n0_; have HZ0 := Aside0.mk hcz; have HBZ := Aside0.mk (Below.refl wb.heap.size wb); clear hb hg hbox) | (go_at_call 29; (refine (impl_AreGates.calls k a0 _ _ l1 _ _ ?side1 ?side2 HT.out).mono ?_); (case side1 => repeat (first | exact (Kd.C_below HR.out HB.out) | (with_reducible refine Kd.C_alloc ?_ _) | (with_reducible refine Kd.C_drewN ?_ _) | (with_reducible refine Kd.C_drew ?_))); (case side2 => exact HC.out); rintro e w10 ⟨rfl, hb⟩; replace hb := (by first | exact hb | exact Drawn0.below hb : Below _ _ _); have n0_ := Aside0.mk (below_step (by repeat (first | (with_reducible first | exact HB.out | apply below_alloc | apply pw_below_drewN | apply below_drew1) | exact HB.out)) hb); have hq := pw_cell_below hb HZ0.out; clear HZ0; have HZ0 := Aside0.mk hq; have hcz := hq; clear HB; have HB := n0_; clear n0_; clear hb) | (go_at_call 38; (refine (slices_Contains_int_int.calls k _ _ l1 a2 _ _ ?side1 ?side2 HK.out).mono ?_); (case side1 => repeat (first | exact (Kd.C_below HR.out HB.out) | (with_reducible refine Kd.C_alloc ?_ _) | (with_reducible refine Kd.C_drewN ?_ _) | (with_reducible refine Kd.C_drew ?_))); (case side2 => exact HC.out); rintro e w11 ⟨rfl, hb⟩; replace hb := (by first | exact hb | exact Drawn0.below hb : Below _ _ _); have n0_ := Aside0.mk (below_step (by repeat (first | (with_reducible first | exact HB.out | apply below_alloc | apply pw_below_drewN | apply below_drew1) | exact HB.out)) hb); have hq := pw_cell_below hb HZ0.out; clear HZ0; have HZ0 := Aside0.mk hq; have hcz := hq; clear HB; have HB := n0_; clear n0_; clear hb))
      go_ret2
      exact ⟨_, rfl, Kd.R_nil _ _ _ _ _, by repeat (first | (with_reducible first | exact HB.out | apply below_alloc | apply pw_below_drewN | apply below_drew1) | exact HB.out)⟩
  | false =>
    rw [if_neg (by simp)] at h
    simp only [Option.some.injEq, Prod.mk.injEq] at h
    obtain ⟨rfl, rfl⟩ := h
    go_enter Try.func21, Try.ntmps21
    go_wp2_with (first | ((with_reducible refine gate_dst (N := 5) rfl ?_); refine box_event ?hg (N := 5) ?hd (cs := #[.int .i64 a2]) (t := 3) ?hr ?_; (case hd => rfl); (case hg => rfl); (case hr => first | (go_simp; done) | (go_simp; rfl)); intro gb hg wb hbox hb; have hcz : wb.cell? ⟨gb, 0, none⟩ = some (.int .i64 a2) := (blk_cell hbox 0).trans rfl; have n0_ := Aside0.mk (below_step (by repeat (first | (with_reducible first | exact HB.out | apply below_alloc | apply pw_below_drewN | apply below_drew1) | exact HB.out)) hb); clear HB; have HB := n0_; clear n0_; have HZ0 := Aside0.mk hcz; have HBZ := Aside0.mk (Below.refl wb.heap.size wb); clear hb hg hbox) | (go_at_call 29; (refine (impl_AreGates.calls k a0 _ _ l1 _ _ ?side1 ?side2 HT.out).mono ?_); (case side1 => repeat (first | exact (Kd.C_below HR.out HB.out) | (with_reducible refine Kd.C_alloc ?_ _) | (with_reducible refine Kd.C_drewN ?_ _) | (with_reducible refine Kd.C_drew ?_))); (case side2 => exact HC.out); rintro e w10 ⟨rfl, hb⟩; replace hb := (by first | exact hb | exact Drawn0.below hb : Below _ _ _); have n0_ := Aside0.mk (below_step (by repeat (first | (with_reducible first | exact HB.out | apply below_alloc | apply pw_below_drewN | apply below_drew1) | exact HB.out)) hb); have hq := pw_cell_below hb HZ0.out; clear HZ0; have HZ0 := Aside0.mk hq; have hcz := hq; clear HB; have HB := n0_; clear n0_; clear hb))
    go_ret2
    exact ⟨_, rfl, Kd.R_nil _ _ _ _ _, by repeat (first | (with_reducible first | exact HB.out | apply below_alloc | apply pw_below_drewN | apply below_drew1) | exact HB.out)⟩


/-! ### laws_FnExactTakeGate: function 6 -/
def laws_FnExactTakeGate.f (k : Nat) (a0 : Int) (l1 : List Int) (a2 : Int) : Option (Bool) := if (l1.length : Int) > 1048576 then (some true) else ((laws_toIntS.f k l1).bind fun t130 => ((spec_TakeGate.f k a0 t130 a2).bind fun bt133 => ((laws_toIntS.f k l1).bind fun t137 => ((impl_TakeGate.f k a0 t137 a2).bind fun bt140 => ((laws_eqIntS.f k bt140.1 bt133.1).bind fun t144 => (if t144 = true then (if (bt140.2 != bt133.2) = true then (none) else ((laws_toIntS.f k l1).bind fun t145 => ((laws_eqIntS.f k t137 t145).bind fun t148 => (if t148 = true then ((laws_markIntS.f k t137 1).bind fun bt149 => (if bt149.1 < 0 then (none) else ((laws_eqIntS.f k bt140.1 bt133.1).bind fun t151 => (if t151 = true then ((laws_markIntS.f k bt140.1 1).bind fun bt152 => ((laws_heldIntS.f k bt152.2 1).bind fun t154 => (if t154 < 0 then (none) else (if t154 = bt152.1 then ((laws_toIntS.f k l1).bind fun t155 => ((impl_TakeGate.f k a0 t155 a2).bind fun bt158 => ((laws_eqIntS.f k bt158.1 bt133.1).bind fun t162 => (if t162 = true then (if (bt158.2 != bt133.2) = true then (none) else ((laws_heldIntS.f k bt152.2 1).bind fun t163 => (if t163 < 0 then (none) else (if t163 = bt152.1 then (some true) else (none))))) else (none))))) else (none))))) else (none))))) else (none))))) else (none)))))))
theorem laws_FnExactTakeGate.mono : ∀ a0 a1 a2 k, LeO (laws_FnExactTakeGate.f k a0 a1 a2) (laws_FnExactTakeGate.f (k + 1) a0 a1 a2) := by
  intro a0 a1 a2 k
  unfold laws_FnExactTakeGate.f
  repeat' first
      | (with_reducible exact impl_TakeGate.mono _ _ _ _)
      | (with_reducible exact laws_eqIntS.mono _ _ _)
      | (with_reducible exact laws_heldIntS.mono _ _ _)
      | (with_reducible exact laws_markIntS.mono _ _ _)
      | (with_reducible exact laws_toIntS.mono _ _)
      | (with_reducible exact spec_TakeGate.mono _ _ _ _)
      | (with_reducible exact LeO.refl _)
      | (with_reducible exact LeO.none _)
      | (with_reducible refine LeO.ite ?_ ?_)
      | (with_reducible refine LeO.bind ?_ (fun _ => ?_))
      | exact impl_TakeGate.mono _ _ _ _
      | exact laws_eqIntS.mono _ _ _
      | exact laws_heldIntS.mono _ _ _
      | exact laws_markIntS.mono _ _ _
      | exact laws_toIntS.mono _ _
      | exact spec_TakeGate.mono _ _ _ _
      | exact LeO.none _
      | refine LeO.ite ?_ ?_
      | refine LeO.bind ?_ (fun _ => ?_)
set_option maxHeartbeats 8000000 in
set_option maxRecDepth 100000 in
theorem laws_FnExactTakeGate.calls (k : Nat) (a0 : Int) (A1 : Option Addr) (c1 : Nat) (l1 : List Int) (a2 : Int) (r : Bool) (w : World) (hr1 : Kd.C (Kd.int .i64) w A1 l1.length l1) (hc1 : l1.length ≤ c1) (h : laws_FnExactTakeGate.f k a0 l1 a2 = some r) :
    Calls Try.prog 6 #[.int .i64 a0, .slice A1 l1.length c1, .int .i64 a2] w fun e w' => e = .returned (.bool r) ∧ Below w.heap.size w w' := by
  have HR1 := Aside0.mk hr1
  have HC1 := Aside0.mk hc1
  clear hr1 hc1
  have HB := Aside0.mk (Below.refl w.heap.size w)
  have H : (if (l1.length : Int) > 1048576 then (some true) else ((laws_toIntS.f k l1).bind fun t130 => ((spec_TakeGate.f k a0 t130 a2).bind fun bt133 => ((laws_toIntS.f k l1).bind fun t137 => ((impl_TakeGate.f k a0 t137 a2).bind fun bt140 => ((laws_eqIntS.f k bt140.1 bt133.1).bind fun t144 => (if t144 = true then (if (bt140.2 != bt133.2) = true then (none) else ((laws_toIntS.f k l1).bind fun t145 => ((laws_eqIntS.f k t137 t145).bind fun t148 => (if t148 = true then ((laws_markIntS.f k t137 1).bind fun bt149 => (if bt149.1 < 0 then (none) else ((laws_eqIntS.f k bt140.1 bt133.1).bind fun t151 => (if t151 = true then ((laws_markIntS.f k bt140.1 1).bind fun bt152 => ((laws_heldIntS.f k bt152.2 1).bind fun t154 => (if t154 < 0 then (none) else (if t154 = bt152.1 then ((laws_toIntS.f k l1).bind fun t155 => ((impl_TakeGate.f k a0 t155 a2).bind fun bt158 => ((laws_eqIntS.f k bt158.1 bt133.1).bind fun t162 => (if t162 = true then (if (bt158.2 != bt133.2) = true then (none) else ((laws_heldIntS.f k bt152.2 1).bind fun t163 => (if t163 < 0 then (none) else (if t163 = bt152.1 then (some true) else (none))))) else (none))))) else (none))))) else (none))))) else (none))))) else (none)))))))) = some r := h
  clear h
  by_cases c4 : (l1.length : Int) > 1048576
  · rw [if_pos c4] at H
    have c4b0 : decide (1048576 < (l1.length : Int)) = true := decide_eq_true c4
    have c4b1 : decide (1048576 < l1.length) = true := decide_eq_true (by omega)
    clear c4
    obtain rfl := Option.some.inj H
    go_enter Try.func6, Try.ntmps6
    go_wp2
    go_ret
    exact ⟨by first | rfl | (simp [errW_none, errW_some] <;> rfl) | (simp [*, errW_none, errW_some] <;> rfl), by repeat (first | (with_reducible first | exact HB.out | apply below_alloc | apply pw_below_drewN | apply below_drew1) | exact HB.out)⟩
  · rw [if_neg c4] at H
    have c4b0 : decide (1048576 < (l1.length : Int)) = false := decide_eq_false c4
    have c4b1 : decide (1048576 < l1.length) = false := decide_eq_false (by omega)
    clear c4
    replace H := Option.bind_eq_some_iff.mp H
    obtain ⟨t130, A50, H⟩ := H
    replace H : ((spec_TakeGate.f k a0 t130 a2).bind fun bt133 => ((laws_toIntS.f k l1).bind fun t137 => ((impl_TakeGate.f k a0 t137 a2).bind fun bt140 => ((laws_eqIntS.f k bt140.1 bt133.1).bind fun t144 => (if t144 = true then (if (bt140.2 != bt133.2) = true then (none) else ((laws_toIntS.f k l1).bind fun t145 => ((laws_eqIntS.f k t137 t145).bind fun t148 => (if t148 = true then ((laws_markIntS.f k t137 1).bind fun bt149 => (if bt149.1 < 0 then (none) else ((laws_eqIntS.f k bt140.1 bt133.1).bind fun t151 => (if t151 = true then ((laws_markIntS.f k bt140.1 1).bind fun bt152 => ((laws_heldIntS.f k bt152.2 1).bind fun t154 => (if t154 < 0 then (none) else (if t154 = bt152.1 then ((laws_toIntS.f k l1).bind fun t155 => ((impl_TakeGate.f k a0 t155 a2).bind fun bt158 => ((laws_eqIntS.f k bt158.1 bt133.1).bind fun t162 => (if t162 = true then (if (bt158.2 != bt133.2) = true then (none) else ((laws_heldIntS.f k bt152.2 1).bind fun t163 => (if t163 < 0 then (none) else (if t163 = bt152.1 then (some true) else (none))))) else (none))))) else (none))))) else (none))))) else (none))))) else (none)))))) = some r := H
    have A5 := Aside0.mk A50
    clear A50
    replace H := Option.bind_eq_some_iff.mp H
    obtain ⟨⟨t133, t134⟩, A60, H⟩ := H
    replace H : ((laws_toIntS.f k l1).bind fun t137 => ((impl_TakeGate.f k a0 t137 a2).bind fun bt140 => ((laws_eqIntS.f k bt140.1 t133).bind fun t144 => (if t144 = true then (if (bt140.2 != t134) = true then (none) else ((laws_toIntS.f k l1).bind fun t145 => ((laws_eqIntS.f k t137 t145).bind fun t148 => (if t148 = true then ((laws_markIntS.f k t137 1).bind fun bt149 => (if bt149.1 < 0 then (none) else ((laws_eqIntS.f k bt140.1 t133).bind fun t151 => (if t151 = true then ((laws_markIntS.f k bt140.1 1).bind fun bt152 => ((laws_heldIntS.f k bt152.2 1).bind fun t154 => (if t154 < 0 then (none) else (if t154 = bt152.1 then ((laws_toIntS.f k l1).bind fun t155 => ((impl_TakeGate.f k a0 t155 a2).bind fun bt158 => ((laws_eqIntS.f k bt158.1 t133).bind fun t162 => (if t162 = true then (if (bt158.2 != t134) = true then (none) else ((laws_heldIntS.f k bt152.2 1).bind fun t163 => (if t163 < 0 then (none) else (if t163 = bt152.1 then (some true) else (none))))) else (none))))) else (none))))) else (none))))) else (none))))) else (none))))) = some r := H
    have A6 := Aside0.mk A60
    clear A60
    replace H := Option.bind_eq_some_iff.mp H
    obtain ⟨t137, A70, H⟩ := H
    replace H : ((impl_TakeGate.f k a0 t137 a2).bind fun bt140 => ((laws_eqIntS.f k bt140.1 t133).bind fun t144 => (if t144 = true then (if (bt140.2 != t134) = true then (none) else ((laws_toIntS.f k l1).bind fun t145 => ((laws_eqIntS.f k t137 t145).bind fun t148 => (if t148 = true then ((laws_markIntS.f k t137 1).bind fun bt149 => (if bt149.1 < 0 then (none) else ((laws_eqIntS.f k bt140.1 t133).bind fun t151 => (if t151 = true then ((laws_markIntS.f k bt140.1 1).bind fun bt152 => ((laws_heldIntS.f k bt152.2 1).bind fun t154 => (if t154 < 0 then (none) else (if t154 = bt152.1 then ((laws_toIntS.f k l1).bind fun t155 => ((impl_TakeGate.f k a0 t155 a2).bind fun bt158 => ((laws_eqIntS.f k bt158.1 t133).bind fun t162 => (if t162 = true then (if (bt158.2 != t134) = true then (none) else ((laws_heldIntS.f k bt152.2 1).bind fun t163 => (if t163 < 0 then (none) else (if t163 = bt152.1 then (some true) else (none))))) else (none))))) else (none))))) else (none))))) else (none))))) else (none)))) = some r := H
    have A7 := Aside0.mk A70
    clear A70
    replace H := Option.bind_eq_some_iff.mp H
    obtain ⟨⟨t140, t141⟩, A80, H⟩ := H
    replace H : ((laws_eqIntS.f k t140 t133).bind fun t144 => (if t144 = true then (if (t141 != t134) = true then (none) else ((laws_toIntS.f k l1).bind fun t145 => ((laws_eqIntS.f k t137 t145).bind fun t148 => (if t148 = true then ((laws_markIntS.f k t137 1).bind fun bt149 => (if bt149.1 < 0 then (none) else ((laws_eqIntS.f k t140 t133).bind fun t151 => (if t151 = true then ((laws_markIntS.f k t140 1).bind fun bt152 => ((laws_heldIntS.f k bt152.2 1).bind fun t154 => (if t154 < 0 then (none) else (if t154 = bt152.1 then ((laws_toIntS.f k l1).bind fun t155 => ((impl_TakeGate.f k a0 t155 a2).bind fun bt158 => ((laws_eqIntS.f k bt158.1 t133).bind fun t162 => (if t162 = true then (if (bt158.2 != t134) = true then (none) else ((laws_heldIntS.f k bt152.2 1).bind fun t163 => (if t163 < 0 then (none) else (if t163 = bt152.1 then (some true) else (none))))) else (none))))) else (none))))) else (none))))) else (none))))) else (none))) = some r := H
    have A8 := Aside0.mk A80
    clear A80
    replace H := Option.bind_eq_some_iff.mp H
    obtain ⟨t144, A90, H⟩ := H
    replace H : (if t144 = true then (if (t141 != t134) = true then (none) else ((laws_toIntS.f k l1).bind fun t145 => ((laws_eqIntS.f k t137 t145).bind fun t148 => (if t148 = true then ((laws_markIntS.f k t137 1).bind fun bt149 => (if bt149.1 < 0 then (none) else ((laws_eqIntS.f k t140 t133).bind fun t151 => (if t151 = true then ((laws_markIntS.f k t140 1).bind fun bt152 => ((laws_heldIntS.f k bt152.2 1).bind fun t154 => (if t154 < 0 then (none) else (if t154 = bt152.1 then ((laws_toIntS.f k l1).bind fun t155 => ((impl_TakeGate.f k a0 t155 a2).bind fun bt158 => ((laws_eqIntS.f k bt158.1 t133).bind fun t162 => (if t162 = true then (if (bt158.2 != t134) = true then (none) else ((laws_heldIntS.f k bt152.2 1).bind fun t163 => (if t163 < 0 then (none) else (if t163 = bt152.1 then (some true) else (none))))) else (none))))) else (none))))) else (none))))) else (none))))) else (none)) = some r := H
    have A9 := Aside0.mk A90
    clear A90
    by_cases c10 : t144 = true
    · subst c10
      have H1 : (if (t141 != t134) = true then (none) else ((laws_toIntS.f k l1).bind fun t145 => ((laws_eqIntS.f k t137 t145).bind fun t148 => (if t148 = true then ((laws_markIntS.f k t137 1).bind fun bt149 => (if bt149.1 < 0 then (none) else ((laws_eqIntS.f k t140 t133).bind fun t151 => (if t151 = true then ((laws_markIntS.f k t140 1).bind fun bt152 => ((laws_heldIntS.f k bt152.2 1).bind fun t154 => (if t154 < 0 then (none) else (if t154 = bt152.1 then ((laws_toIntS.f k l1).bind fun t155 => ((impl_TakeGate.f k a0 t155 a2).bind fun bt158 => ((laws_eqIntS.f k bt158.1 t133).bind fun t162 => (if t162 = true then (if (bt158.2 != t134) = true then (none) else ((laws_heldIntS.f k bt152.2 1).bind fun t163 => (if t163 < 0 then (none) else (if t163 = bt152.1 then (some true) else (none))))) else (none))))) else (none))))) else (none))))) else (none))))) = some r := by rw [if_pos rfl] at H; exact H
      clear H
      have H := H1
      clear H1
      by_cases c11 : (t141 != t134) = true
      · rw [if_pos c11] at H
        exact absurd H (by simp)
      · rw [if_neg c11] at H
        have c11b0 : (t141 != t134) = false := by simpa using c11
        (try (have c11b1 : decide (t141 = t134) = true := by simpa using c11))
        (try (have c11b2 : (t141 == t134) = true := by simpa using c11))
        clear c11
        replace H := Option.bind_eq_some_iff.mp H
        obtain ⟨t145, A120, H⟩ := H
        replace H : ((laws_eqIntS.f k t137 t145).bind fun t148 => (if t148 = true then ((laws_markIntS.f k t137 1).bind fun bt149 => (if bt149.1 < 0 then (none) else ((laws_eqIntS.f k t140 t133).bind fun t151 => (if t151 = true then ((laws_markIntS.f k t140 1).bind fun bt152 => ((laws_heldIntS.f k bt152.2 1).bind fun t154 => (if t154 < 0 then (none) else (if t154 = bt152.1 then ((laws_toIntS.f k l1).bind fun t155 => ((impl_TakeGate.f k a0 t155 a2).bind fun bt158 => ((laws_eqIntS.f k bt158.1 t133).bind fun t162 => (if t162 = true then (if (bt158.2 != t134) = true then (none) else ((laws_heldIntS.f k bt152.2 1).bind fun t163 => (if t163 < 0 then (none) else (if t163 = bt152.1 then (some true) else (none))))) else (none))))) else (none))))) else (none))))) else (none))) = some r := H
        have A12 := Aside0.mk A120
        clear A120
        replace H := Option.bind_eq_some_iff.mp H
        obtain ⟨t148, A130, H⟩ := H
        replace H : (if t148 = true then ((laws_markIntS.f k t137 1).bind fun bt149 => (if bt149.1 < 0 then (none) else ((laws_eqIntS.f k t140 t133).bind fun t151 => (if t151 = true then ((laws_markIntS.f k t140 1).bind fun bt152 => ((laws_heldIntS.f k bt152.2 1).bind fun t154 => (if t154 < 0 then (none) else (if t154 = bt152.1 then ((laws_toIntS.f k l1).bind fun t155 => ((impl_TakeGate.f k a0 t155 a2).bind fun bt158 => ((laws_eqIntS.f k bt158.1 t133).bind fun t162 => (if t162 = true then (if (bt158.2 != t134) = true then (none) else ((laws_heldIntS.f k bt152.2 1).bind fun t163 => (if t163 < 0 then (none) else (if t163 = bt152.1 then (some true) else (none))))) else (none))))) else (none))))) else (none))))) else (none)) = some r := H
        have A13 := Aside0.mk A130
        clear A130
        by_cases c14 : t148 = true
        · subst c14
          have H1 : ((laws_markIntS.f k t137 1).bind fun bt149 => (if bt149.1 < 0 then (none) else ((laws_eqIntS.f k t140 t133).bind fun t151 => (if t151 = true then ((laws_markIntS.f k t140 1).bind fun bt152 => ((laws_heldIntS.f k bt152.2 1).bind fun t154 => (if t154 < 0 then (none) else (if t154 = bt152.1 then ((laws_toIntS.f k l1).bind fun t155 => ((impl_TakeGate.f k a0 t155 a2).bind fun bt158 => ((laws_eqIntS.f k bt158.1 t133).bind fun t162 => (if t162 = true then (if (bt158.2 != t134) = true then (none) else ((laws_heldIntS.f k bt152.2 1).bind fun t163 => (if t163 < 0 then (none) else (if t163 = bt152.1 then (some true) else (none))))) else (none))))) else (none))))) else (none))))) = some r := by rw [if_pos rfl] at H; exact H
          clear H
          have H := H1
          clear H1
          replace H := Option.bind_eq_some_iff.mp H
          obtain ⟨⟨t149, t150⟩, A150, H⟩ := H
          replace H : (if t149 < 0 then (none) else ((laws_eqIntS.f k t140 t133).bind fun t151 => (if t151 = true then ((laws_markIntS.f k t140 1).bind fun bt152 => ((laws_heldIntS.f k bt152.2 1).bind fun t154 => (if t154 < 0 then (none) else (if t154 = bt152.1 then ((laws_toIntS.f k l1).bind fun t155 => ((impl_TakeGate.f k a0 t155 a2).bind fun bt158 => ((laws_eqIntS.f k bt158.1 t133).bind fun t162 => (if t162 = true then (if (bt158.2 != t134) = true then (none) else ((laws_heldIntS.f k bt152.2 1).bind fun t163 => (if t163 < 0 then (none) else (if t163 = bt152.1 then (some true) else (none))))) else (none))))) else (none))))) else (none)))) = some r := H
          have A15 := Aside0.mk A150
          clear A150
          by_cases c16 : t149 < 0
          · rw [if_pos c16] at H
            exact absurd H (by simp)
          · rw [if_neg c16] at H
            have c16b0 : decide (t149 < 0) = false := decide_eq_false c16
            clear c16
            replace H := Option.bind_eq_some_iff.mp H
            obtain ⟨t151, A170, H⟩ := H
            replace H : (if t151 = true then ((laws_markIntS.f k t140 1).bind fun bt152 => ((laws_heldIntS.f k bt152.2 1).bind fun t154 => (if t154 < 0 then (none) else (if t154 = bt152.1 then ((laws_toIntS.f k l1).bind fun t155 => ((impl_TakeGate.f k a0 t155 a2).bind fun bt158 => ((laws_eqIntS.f k bt158.1 t133).bind fun t162 => (if t162 = true then (if (bt158.2 != t134) = true then (none) else ((laws_heldIntS.f k bt152.2 1).bind fun t163 => (if t163 < 0 then (none) else (if t163 = bt152.1 then (some true) else (none))))) else (none))))) else (none))))) else (none)) = some r := H
            have A17 := Aside0.mk A170
            clear A170
            by_cases c18 : t151 = true
            · subst c18
              have H1 : ((laws_markIntS.f k t140 1).bind fun bt152 => ((laws_heldIntS.f k bt152.2 1).bind fun t154 => (if t154 < 0 then (none) else (if t154 = bt152.1 then ((laws_toIntS.f k l1).bind fun t155 => ((impl_TakeGate.f k a0 t155 a2).bind fun bt158 => ((laws_eqIntS.f k bt158.1 t133).bind fun t162 => (if t162 = true then (if (bt158.2 != t134) = true then (none) else ((laws_heldIntS.f k bt152.2 1).bind fun t163 => (if t163 < 0 then (none) else (if t163 = bt152.1 then (some true) else (none))))) else (none))))) else (none))))) = some r := by rw [if_pos rfl] at H; exact H
              clear H
              have H := H1
              clear H1
              replace H := Option.bind_eq_some_iff.mp H
              obtain ⟨⟨t152, t153⟩, A190, H⟩ := H
              replace H : ((laws_heldIntS.f k t153 1).bind fun t154 => (if t154 < 0 then (none) else (if t154 = t152 then ((laws_toIntS.f k l1).bind fun t155 => ((impl_TakeGate.f k a0 t155 a2).bind fun bt158 => ((laws_eqIntS.f k bt158.1 t133).bind fun t162 => (if t162 = true then (if (bt158.2 != t134) = true then (none) else ((laws_heldIntS.f k t153 1).bind fun t163 => (if t163 < 0 then (none) else (if t163 = t152 then (some true) else (none))))) else (none))))) else (none)))) = some r := H
              have A19 := Aside0.mk A190
              clear A190
              replace H := Option.bind_eq_some_iff.mp H
              obtain ⟨t154, A200, H⟩ := H
              replace H : (if t154 < 0 then (none) else (if t154 = t152 then ((laws_toIntS.f k l1).bind fun t155 => ((impl_TakeGate.f k a0 t155 a2).bind fun bt158 => ((laws_eqIntS.f k bt158.1 t133).bind fun t162 => (if t162 = true then (if (bt158.2 != t134) = true then (none) else ((laws_heldIntS.f k t153 1).bind fun t163 => (if t163 < 0 then (none) else (if t163 = t152 then (some true) else (none))))) else (none))))) else (none))) = some r := H
              have A20 := Aside0.mk A200
              clear A200
              by_cases c21 : t154 < 0
              · rw [if_pos c21] at H
                exact absurd H (by simp)
              · rw [if_neg c21] at H
                have c21b0 : decide (t154 < 0) = false := decide_eq_false c21
                clear c21
                by_cases c22 : t154 = t152
                · rw [if_pos c22] at H
                  have c22b0 : (t154 == t152) = true := beq_iff_eq.mpr c22
                  have c22b1 : (t154 != t152) = false := bne_eq_false_iff_eq.mpr c22
                  clear c22
                  replace H := Option.bind_eq_some_iff.mp H
                  obtain ⟨t155, A230, H⟩ := H
                  replace H : ((impl_TakeGate.f k a0 t155 a2).bind fun bt158 => ((laws_eqIntS.f k bt158.1 t133).bind fun t162 => (if t162 = true then (if (bt158.2 != t134) = true then (none) else ((laws_heldIntS.f k t153 1).bind fun t163 => (if t163 < 0 then (none) else (if t163 = t152 then (some true) else (none))))) else (none)))) = some r := H
                  have A23 := Aside0.mk A230
                  clear A230
                  replace H := Option.bind_eq_some_iff.mp H
                  obtain ⟨⟨t158, t159⟩, A240, H⟩ := H
                  replace H : ((laws_eqIntS.f k t158 t133).bind fun t162 => (if t162 = true then (if (t159 != t134) = true then (none) else ((laws_heldIntS.f k t153 1).bind fun t163 => (if t163 < 0 then (none) else (if t163 = t152 then (some true) else (none))))) else (none))) = some r := H
                  have A24 := Aside0.mk A240
                  clear A240
                  replace H := Option.bind_eq_some_iff.mp H
                  obtain ⟨t162, A250, H⟩ := H
                  replace H : (if t162 = true then (if (t159 != t134) = true then (none) else ((laws_heldIntS.f k t153 1).bind fun t163 => (if t163 < 0 then (none) else (if t163 = t152 then (some true) else (none))))) else (none)) = some r := H
                  have A25 := Aside0.mk A250
                  clear A250
                  by_cases c26 : t162 = true
                  · subst c26
                    have H1 : (if (t159 != t134) = true then (none) else ((laws_heldIntS.f k t153 1).bind fun t163 => (if t163 < 0 then (none) else (if t163 = t152 then (some true) else (none))))) = some r := by rw [if_pos rfl] at H; exact H
                    clear H
                    have H := H1
                    clear H1
                    by_cases c27 : (t159 != t134) = true
                    · rw [if_pos c27] at H
                      exact absurd H (by simp)
                    · rw [if_neg c27] at H
                      have c27b0 : (t159 != t134) = false := by simpa using c27
                      (try (have c27b1 : decide (t159 = t134) = true := by simpa using c27))
                      (try (have c27b2 : (t159 == t134) = true := by simpa using c27))
                      clear c27
                      replace H := Option.bind_eq_some_iff.mp H
                      obtain ⟨t163, A280, H⟩ := H
                      replace H : (if t163 < 0 then (none) else (if t163 = t152 then (some true) else (none))) = some r := H
                      have A28 := Aside0.mk A280
                      clear A280
                      by_cases c29 : t163 < 0
                      · rw [if_pos c29] at H
                        exact absurd H (by simp)
                      · rw [if_neg c29] at H
                        have c29b0 : decide (t163 < 0) = false := decide_eq_false c29
                        clear c29
                        by_cases c30 : t163 = t152
                        · rw [if_pos c30] at H
                          have c30b0 : (t163 == t152) = true := beq_iff_eq.mpr c30
                          have c30b1 : (t163 != t152) = false := bne_eq_false_iff_eq.mpr c30
                          clear c30
                          obtain rfl := Option.some.inj H
                          go_enter Try.func6, Try.ntmps6
                          go_wp2_with (first | ((with_reducible refine gate_callee (f := 13) rfl ?_); refine goesL_ (some 23) rfl rfl Try.func13 (by kernel_rfl) rfl #[.slice A1 l1.length c1] rfl (by (try simp only [List.map_toArray, List.map_cons, List.map_nil]); first | done | rfl | (simp only [List.length_drop, List.length_take]; rfl)) ?_; (with_reducible refine (laws_toIntS.calls k _ _ l1 t130 _ ?side1 ?side2 A5.out).mono ?_); (case side1 => repeat (first | exact HR1.out | (with_reducible refine Kd.C_alloc ?_ _) | (with_reducible refine Kd.C_drewN ?_ _) | (with_reducible refine Kd.C_drew ?_))); (case side2 => exact HC1.out); rintro e w31 ⟨v131, rfl, ho0, hb⟩; refine ⟨_, rfl, ?_⟩; have n0_ := Aside0.mk (Kd.R_lower ho0 (below_size (by repeat (first | (with_reducible first | exact HB.out | apply below_alloc | apply pw_below_drewN | apply below_drew1) | exact HB.out)))); have n1_ := Aside0.mk (below_step (by repeat (first | (with_reducible first | exact HB.out | apply below_alloc | apply pw_below_drewN | apply below_drew1) | exact HB.out)) hb); clear HB; have HO132 := n0_; have HB := n1_; clear n0_ n1_; (try clear hb); (try clear hb2); (try clear hk); (try clear hi); (try clear ho0); obtain ⟨Ao32, co32, eo32⟩ := Kd.R_slice HO132.out; subst eo32) | ((with_reducible refine gate_callee (f := 20) rfl ?_); refine goesL_ (some 25) rfl rfl Try.func20 (by kernel_rfl) rfl #[.int .i64 a0, .slice Ao32 t130.length co32, .int .i64 a2] rfl (by (try simp only [List.map_toArray, List.map_cons, List.map_nil]); first | done | rfl | (simp only [List.length_drop, List.length_take]; rfl)) ?_; (with_reducible refine (spec_TakeGate.calls k a0 _ _ t130 a2 t133 t134 _ ?side1 ?side2 A6.out).mono ?_); (case side1 => repeat (first | exact (Kd.R_reads' HO132.out).2.2 | (with_reducible refine Kd.C_alloc ?_ _) | (with_reducible refine Kd.C_drewN ?_ _) | (with_reducible refine Kd.C_drew ?_))); (case side2 => exact (Kd.R_reads' HO132.out).2.1); rintro e w33 ⟨v135, rfl, ho0, hb⟩; refine ⟨_, rfl, ?_⟩; have n0_ := Aside0.mk (Kd.R_elder' (by (with_reducible repeat (first | apply Kd.R_alloc | apply Kd.R_drewN | apply Kd.R_drew)); exact HO132.out) (Kd.R_base ho0) hb); have n1_ := Aside0.mk (Kd.R_lower (Kd.R_new' ho0 (Kd.R_lt (by (with_reducible repeat (first | apply Kd.R_alloc | apply Kd.R_drewN | apply Kd.R_drew)); exact HO132.out))) (below_size (by repeat (first | (with_reducible first | exact HB.out | apply below_alloc | apply pw_below_drewN | apply below_drew1) | exact HB.out)))); have n2_ := Aside0.mk (below_step (by repeat (first | (with_reducible first | exact HB.out | apply below_alloc | apply pw_below_drewN | apply below_drew1) | exact HB.out)) hb); clear HO132; clear HB; have HO132 := n0_; have HO136 := n1_; have HB := n2_; clear n0_ n1_ n2_; (try clear hb); (try clear hb2); (try clear hk); (try clear hi); (try clear ho0)) | ((with_reducible refine gate_callee (f := 13) rfl ?_); refine goesL_ (some 29) rfl rfl Try.func13 (by kernel_rfl) rfl #[.slice A1 l1.length c1] rfl (by (try simp only [List.map_toArray, List.map_cons, List.map_nil]); first | done | rfl | (simp only [List.length_drop, List.length_take]; rfl)) ?_; (with_reducible refine (laws_toIntS.calls k _ _ l1 t137 _ ?side1 ?side2 A7.out).mono ?_); (case side1 => repeat (first | exact (Kd.C_below HR1.out HB.out) | (with_reducible refine Kd.C_alloc ?_ _) | (with_reducible refine Kd.C_drewN ?_ _) | (with_reducible refine Kd.C_drew ?_))); (case side2 => exact HC1.out); rintro e w34 ⟨v138, rfl, ho0, hb⟩; refine ⟨_, rfl, ?_⟩; have n0_ := Aside0.mk (Kd.R_elder' (by (with_reducible repeat (first | apply Kd.R_alloc | apply Kd.R_drewN | apply Kd.R_drew)); exact HO132.out) (Kd.R_base ho0) hb); have n1_ := Aside0.mk (Kd.R_elder' (by (with_reducible repeat (first | apply Kd.R_alloc | apply Kd.R_drewN | apply Kd.R_drew)); exact HO136.out) (Kd.R_base ho0) hb); have n2_ := Aside0.mk (Kd.R_lower (Kd.R_new' (Kd.R_new' ho0 (Kd.R_lt (by (with_reducible repeat (first | apply Kd.R_alloc | apply Kd.R_drewN | apply Kd.R_drew)); exact HO132.out))) (Kd.R_lt (by (with_reducible repeat (first | apply Kd.R_alloc | apply Kd.R_drewN | apply Kd.R_drew)); exact HO136.out))) (below_size (by repeat (first | (with_reducible first | exact HB.out | apply below_alloc | apply pw_below_drewN | apply below_drew1) | exact HB.out)))); have n3_ := Aside0.mk (below_step (by repeat (first | (with_reducible first | exact HB.out | apply below_alloc | apply pw_below_drewN | apply below_drew1) | exact HB.out)) hb); clear HO132; clear HO136; clear HB; have HO132 := n0_; have HO136 := n1_; have HO139 := n2_; have HB := n3_; clear n0_ n1_ n2_ n3_; (try clear hb); (try clear hb2); (try clear hk); (try clear hi); (try clear ho0); obtain ⟨Ao35, co35, eo35⟩ := Kd.R_slice HO139.out; subst eo35) | ((with_reducible refine gate_callee (f := 21) rfl ?_); refine goesL_ (some 34) rfl rfl Try.func21 (by kernel_rfl) rfl #[.int .i64 a0, .slice Ao35 t137.length co35, .int .i64 a2] rfl (by (try simp only [List.map_toArray, List.map_cons, List.map_nil]); first | done | rfl | (simp only [List.length_drop, List.length_take]; rfl)) ?_; (with_reducible refine (impl_TakeGate.calls k a0 _ _ t137 a2 t140 t141 _ ?side1 ?side2 A8.out).mono ?_); (case side1 => repeat (first | exact (Kd.R_reads' HO139.out).2.2 | (with_reducible refine Kd.C_alloc ?_ _) | (with_reducible refine Kd.C_drewN ?_ _) | (with_reducible refine Kd.C_drew ?_))); (case side2 => exact (Kd.R_reads' HO139.out).2.1); rintro e w36 ⟨v142, rfl, ho0, hb⟩; refine ⟨_, rfl, ?_⟩; have n0_ := Aside0.mk (Kd.R_elder' (by (with_reducible repeat (first | apply Kd.R_alloc | apply Kd.R_drewN | apply Kd.R_drew)); exact HO132.out) (Kd.R_base ho0) hb); have n1_ := Aside0.mk (Kd.R_elder' (by (with_reducible repeat (first | apply Kd.R_alloc | apply Kd.R_drewN | apply Kd.R_drew)); exact HO136.out) (Kd.R_base ho0) hb); have n2_ := Aside0.mk (Kd.R_elder' (by (with_reducible repeat (first | apply Kd.R_alloc | apply Kd.R_drewN | apply Kd.R_drew)); exact HO139.out) (Kd.R_base ho0) hb); have n3_ := Aside0.mk (Kd.R_lower (Kd.R_new' (Kd.R_new' (Kd.R_new' ho0 (Kd.R_lt (by (with_reducible repeat (first | apply Kd.R_alloc | apply Kd.R_drewN | apply Kd.R_drew)); exact HO132.out))) (Kd.R_lt (by (with_reducible repeat (first | apply Kd.R_alloc | apply Kd.R_drewN | apply Kd.R_drew)); exact HO136.out))) (Kd.R_lt (by (with_reducible repeat (first | apply Kd.R_alloc | apply Kd.R_drewN | apply Kd.R_drew)); exact HO139.out))) (below_size (by repeat (first | (with_reducible first | exact HB.out | apply below_alloc | apply pw_below_drewN | apply below_drew1) | exact HB.out)))); have n4_ := Aside0.mk (below_step (by repeat (first | (with_reducible first | exact HB.out | apply below_alloc | apply pw_below_drewN | apply below_drew1) | exact HB.out)) hb); clear HO132; clear HO136; clear HO139; clear HB; have HO132 := n0_; have HO136 := n1_; have HO139 := n2_; have HO143 := n3_; have HB := n4_; clear n0_ n1_ n2_ n3_ n4_; (try clear hb); (try clear hb2); (try clear hk); (try clear hi); (try clear ho0); obtain ⟨Ao37, co37, eo37⟩ := Kd.R_slice HO143.out; subst eo37; obtain ⟨Ao38, co38, eo38⟩ := Kd.R_slice HO136.out; subst eo38) | ((with_reducible refine gate_callee (f := 9) rfl ?_); refine goesL_ (some 39) rfl rfl Try.func9 (by kernel_rfl) rfl #[.slice Ao37 t140.length co37, .slice Ao38 t133.length co38] rfl (by (try simp only [List.map_toArray, List.map_cons, List.map_nil]); first | done | rfl | (simp only [List.length_drop, List.length_take]; rfl)) ?_; (with_reducible refine (laws_eqIntS.calls k _ _ t140 _ _ t133 true _ ?side1 ?side2 ?side3 ?side4 A9.out).mono ?_); (case side1 => repeat (first | exact (Kd.R_reads' HO143.out).2.2 | (with_reducible refine Kd.C_alloc ?_ _) | (with_reducible refine Kd.C_drewN ?_ _) | (with_reducible refine Kd.C_drew ?_))); (case side2 => exact (Kd.R_reads' HO143.out).2.1); (case side3 => repeat (first | exact (Kd.R_reads' HO136.out).2.2 | (with_reducible refine Kd.C_alloc ?_ _) | (with_reducible refine Kd.C_drewN ?_ _) | (with_reducible refine Kd.C_drew ?_))); (case side4 => exact (Kd.R_reads' HO136.out).2.1); rintro e w' ⟨rfl, ⟨nd, rfl⟩⟩; refine ⟨_, rfl, ?_⟩) | ((with_reducible refine gate_callee (f := 13) rfl ?_); refine goesL_ (some 48) rfl rfl Try.func13 (by kernel_rfl) rfl #[.slice A1 l1.length c1] rfl (by (try simp only [List.map_toArray, List.map_cons, List.map_nil]); first | done | rfl | (simp only [List.length_drop, List.length_take]; rfl)) ?_; (with_reducible refine (laws_toIntS.calls k _ _ l1 t145 _ ?side1 ?side2 A12.out).mono ?_); (case side1 => repeat (first | exact (Kd.C_below HR1.out (by repeat (first | (with_reducible first | exact HB.out | apply below_alloc | apply pw_below_drewN | apply below_drew1) | exact HB.out))) | (with_reducible refine Kd.C_alloc ?_ _) | (with_reducible refine Kd.C_drewN ?_ _) | (with_reducible refine Kd.C_drew ?_))); (case side2 => exact HC1.out); rintro e w39 ⟨v146, rfl, ho0, hb⟩; refine ⟨_, rfl, ?_⟩; have n0_ := Aside0.mk (Kd.R_elder' (by (with_reducible repeat (first | apply Kd.R_alloc | apply Kd.R_drewN | apply Kd.R_drew)); exact HO132.out) (Kd.R_base ho0) hb); have n1_ := Aside0.mk (Kd.R_elder' (by (with_reducible repeat (first | apply Kd.R_alloc | apply Kd.R_drewN | apply Kd.R_drew)); exact HO136.out) (Kd.R_base ho0) hb); have n2_ := Aside0.mk (Kd.R_elder' (by (with_reducible repeat (first | apply Kd.R_alloc | apply Kd.R_drewN | apply Kd.R_drew)); exact HO139.out) (Kd.R_base ho0) hb); have n3_ := Aside0.mk (Kd.R_elder' (by (with_reducible repeat (first | apply Kd.R_alloc | apply Kd.R_drewN | apply Kd.R_drew)); exact HO143.out) (Kd.R_base ho0) hb); have n4_ := Aside0.mk (Kd.R_lower (Kd.R_new' (Kd.R_new' (Kd.R_new' (Kd.R_new' ho0 (Kd.R_lt (by (with_reducible repeat (first | apply Kd.R_alloc | apply Kd.R_drewN | apply Kd.R_drew)); exact HO132.out))) (Kd.R_lt (by (with_reducible repeat (first | apply Kd.R_alloc | apply Kd.R_drewN | apply Kd.R_drew)); exact HO136.out))) (Kd.R_lt (by (with_reducible repeat (first | apply Kd.R_alloc | apply Kd.R_drewN | apply Kd.R_drew)); exact HO139.out))) (Kd.R_lt (by (with_reducible repeat (first | apply Kd.R_alloc | apply Kd.R_drewN | apply Kd.R_drew)); exact HO143.out))) (below_size (by repeat (first | (with_reducible first | exact HB.out | apply below_alloc | apply pw_below_drewN | apply below_drew1) | exact HB.out)))); have n5_ := Aside0.mk (below_step (by repeat (first | (with_reducible first | exact HB.out | apply below_alloc | apply pw_below_drewN | apply below_drew1) | exact HB.out)) hb); clear HO132; clear HO136; clear HO139; clear HO143; clear HB; have HO132 := n0_; have HO136 := n1_; have HO139 := n2_; have HO143 := n3_; have HO147 := n4_; have HB := n5_; clear n0_ n1_ n2_ n3_ n4_ n5_; (try clear hb); (try clear hb2); (try clear hk); (try clear hi); (try clear ho0); obtain ⟨Ao40, co40, eo40⟩ := Kd.R_slice HO147.out; subst eo40) | ((with_reducible refine gate_callee (f := 9) rfl ?_); refine goesL_ (some 49) rfl rfl Try.func9 (by kernel_rfl) rfl #[.slice Ao35 t137.length co35, .slice Ao40 t145.length co40] rfl (by (try simp only [List.map_toArray, List.map_cons, List.map_nil]); first | done | rfl | (simp only [List.length_drop, List.length_take]; rfl)) ?_; (with_reducible refine (laws_eqIntS.calls k _ _ t137 _ _ t145 true _ ?side1 ?side2 ?side3 ?side4 A13.out).mono ?_); (case side1 => repeat (first | exact (Kd.R_reads' HO139.out).2.2 | (with_reducible refine Kd.C_alloc ?_ _) | (with_reducible refine Kd.C_drewN ?_ _) | (with_reducible refine Kd.C_drew ?_))); (case side2 => exact (Kd.R_reads' HO139.out).2.1); (case side3 => repeat (first | exact (Kd.R_reads' HO147.out).2.2 | (with_reducible refine Kd.C_alloc ?_ _) | (with_reducible refine Kd.C_drewN ?_ _) | (with_reducible refine Kd.C_drew ?_))); (case side4 => exact (Kd.R_reads' HO147.out).2.1); rintro e w' ⟨rfl, ⟨nd, rfl⟩⟩; refine ⟨_, rfl, ?_⟩) | ((with_reducible refine gate_callee (f := 10) rfl ?_); refine goesL_ (some 53) rfl rfl Try.func10 (by kernel_rfl) rfl #[.slice Ao35 t137.length co35, .int .i64 1] rfl (by (try simp only [List.map_toArray, List.map_cons, List.map_nil]); first | done | rfl | (simp only [List.length_drop, List.length_take]; rfl)) ?_; (with_reducible refine (laws_markIntS.calls k (fun k_ => some k_ = (.slice Ao35 t137.length co35 : Value).ownBlock) (.slice Ao35 t137.length co35) t137 1 t149 t150 w _ ?side1 ?side2 A15.out).mono ?_); (case side1 => repeat (first | (with_reducible first | exact HB.out | apply below_alloc | apply pw_below_drewN | apply below_drew1) | exact HB.out)); (case side2 => exact Kd.R_tight rfl HO139.out); rintro e w41 ⟨rfl, hy0, hb, hkp⟩; refine ⟨_, rfl, ?_⟩; have n0_ := Aside0.mk (Kd.R_mono (ok' := fun k_ => some k_ ≠ (.slice Ao38 t133.length co38 : Value).ownBlock ∧ some k_ ≠ (.slice Ao35 t137.length co35 : Value).ownBlock ∧ some k_ ≠ (.slice Ao37 t140.length co37 : Value).ownBlock ∧ some k_ ≠ (.slice Ao40 t145.length co40 : Value).ownBlock) (Kd.R_keptB (HO132.out) hkp (fun k_ hk_ hs_ => (hk_.1.1.2) hs_)) (fun k_ hk_ => ⟨hk_.1.1.1.1.2, hk_.1.1.1.2, hk_.1.1.2, hk_.1.2⟩)); have n1_ := Aside0.mk (Kd.R_mono (ok' := fun k_ => some k_ ≠ (.slice Ao32 t130.length co32 : Value).ownBlock ∧ some k_ ≠ (.slice Ao35 t137.length co35 : Value).ownBlock ∧ some k_ ≠ (.slice Ao37 t140.length co37 : Value).ownBlock ∧ some k_ ≠ (.slice Ao40 t145.length co40 : Value).ownBlock) (Kd.R_keptB (HO136.out) hkp (fun k_ hk_ hs_ => (hk_.1.1.2) hs_)) (fun k_ hk_ => ⟨hk_.1.1.1.1.2, hk_.1.1.1.2, hk_.1.1.2, hk_.1.2⟩)); have n2_ := Aside0.mk (Kd.R_reok rfl hy0 (fun k_ e_ => HO139.out.1 k_ e_)); have n3_ := Aside0.mk (Kd.R_mono (ok' := fun k_ => some k_ ≠ (.slice Ao32 t130.length co32 : Value).ownBlock ∧ some k_ ≠ (.slice Ao38 t133.length co38 : Value).ownBlock ∧ some k_ ≠ (.slice Ao35 t137.length co35 : Value).ownBlock ∧ some k_ ≠ (.slice Ao40 t145.length co40 : Value).ownBlock) (Kd.R_keptB (HO143.out) hkp (fun k_ hk_ hs_ => (hk_.1.2) hs_)) (fun k_ hk_ => ⟨hk_.1.1.1.1.2, hk_.1.1.1.2, hk_.1.1.2, hk_.1.2⟩)); have n4_ := Aside0.mk (Kd.R_mono (ok' := fun k_ => some k_ ≠ (.slice Ao32 t130.length co32 : Value).ownBlock ∧ some k_ ≠ (.slice Ao38 t133.length co38 : Value).ownBlock ∧ some k_ ≠ (.slice Ao35 t137.length co35 : Value).ownBlock ∧ some k_ ≠ (.slice Ao37 t140.length co37 : Value).ownBlock) (Kd.R_keptB (HO147.out) hkp (fun k_ hk_ hs_ => (hk_.1.2) hs_)) (fun k_ hk_ => ⟨hk_.1.1.1.1.2, hk_.1.1.1.2, hk_.1.1.2, hk_.1.2⟩)); have n5_ := Aside0.mk (hb); clear HO132; clear HO136; clear HO139; clear HO143; clear HO147; clear HB; have HO132 := n0_; have HO136 := n1_; have HO139 := n2_; have HO143 := n3_; have HO147 := n4_; have HB := n5_; clear n0_ n1_ n2_ n3_ n4_ n5_; (try clear hb); (try clear hkp); (try clear hy0)) | (go_at_call 9; (with_reducible refine (laws_eqIntS.calls k _ _ t140 _ _ t133 true _ ?side1 ?side2 ?side3 ?side4 A17.out).mono ?_); (case side1 => repeat (first | exact (Kd.R_reads' HO143.out).2.2 | (with_reducible refine Kd.C_alloc ?_ _) | (with_reducible refine Kd.C_drewN ?_ _) | (with_reducible refine Kd.C_drew ?_))); (case side2 => exact (Kd.R_reads' HO143.out).2.1); (case side3 => repeat (first | exact (Kd.R_reads' HO136.out).2.2 | (with_reducible refine Kd.C_alloc ?_ _) | (with_reducible refine Kd.C_drewN ?_ _) | (with_reducible refine Kd.C_drew ?_))); (case side4 => exact (Kd.R_reads' HO136.out).2.1); rintro e w' ⟨rfl, ⟨nd, rfl⟩⟩) | ((with_reducible refine gate_callee (f := 10) rfl ?_); refine goesL_ (some 69) rfl rfl Try.func10 (by kernel_rfl) rfl #[.slice Ao37 t140.length co37, .int .i64 1] rfl (by (try simp only [List.map_toArray, List.map_cons, List.map_nil]); first | done | rfl | (simp only [List.length_drop, List.length_take]; rfl)) ?_; (with_reducible refine (laws_markIntS.calls k (fun k_ => some k_ = (.slice Ao37 t140.length co37 : Value).ownBlock) (.slice Ao37 t140.length co37) t140 1 t152 t153 w _ ?side1 ?side2 A19.out).mono ?_); (case side1 => repeat (first | (with_reducible first | exact HB.out | apply below_alloc | apply pw_below_drewN | apply below_drew1) | exact HB.out)); (case side2 => exact Kd.R_tight rfl HO143.out); rintro e w42 ⟨rfl, hy0, hb, hkp⟩; refine ⟨_, rfl, ?_⟩; have n0_ := Aside0.mk (Kd.R_mono (ok' := fun k_ => some k_ ≠ (.slice Ao38 t133.length co38 : Value).ownBlock ∧ some k_ ≠ (.slice Ao35 t137.length co35 : Value).ownBlock ∧ some k_ ≠ (.slice Ao37 t140.length co37 : Value).ownBlock ∧ some k_ ≠ (.slice Ao40 t145.length co40 : Value).ownBlock) (Kd.R_keptB (HO132.out) hkp (fun k_ hk_ hs_ => (hk_.2.2.1) hs_)) (fun k_ hk_ => ⟨hk_.1.1, hk_.1.2.1, hk_.1.2.2.1, hk_.1.2.2.2⟩)); have n1_ := Aside0.mk (Kd.R_mono (ok' := fun k_ => some k_ ≠ (.slice Ao32 t130.length co32 : Value).ownBlock ∧ some k_ ≠ (.slice Ao35 t137.length co35 : Value).ownBlock ∧ some k_ ≠ (.slice Ao37 t140.length co37 : Value).ownBlock ∧ some k_ ≠ (.slice Ao40 t145.length co40 : Value).ownBlock) (Kd.R_keptB (HO136.out) hkp (fun k_ hk_ hs_ => (hk_.2.2.1) hs_)) (fun k_ hk_ => ⟨hk_.1.1, hk_.1.2.1, hk_.1.2.2.1, hk_.1.2.2.2⟩)); have n2_ := Aside0.mk (Kd.R_mono (ok' := fun k_ => some k_ ≠ (.slice Ao32 t130.length co32 : Value).ownBlock ∧ some k_ ≠ (.slice Ao38 t133.length co38 : Value).ownBlock ∧ some k_ ≠ (.slice Ao37 t140.length co37 : Value).ownBlock ∧ some k_ ≠ (.slice Ao40 t145.length co40 : Value).ownBlock) (Kd.R_keptB (HO139.out) hkp (fun k_ hk_ hs_ => (hk_.1.2) hs_)) (fun k_ hk_ => ⟨hk_.1.1.1.1.2, hk_.1.1.1.2, hk_.1.1.2, hk_.1.2⟩)); have n3_ := Aside0.mk (Kd.R_reok rfl hy0 (fun k_ e_ => HO143.out.1 k_ e_)); have n4_ := Aside0.mk (Kd.R_mono (ok' := fun k_ => some k_ ≠ (.slice Ao32 t130.length co32 : Value).ownBlock ∧ some k_ ≠ (.slice Ao38 t133.length co38 : Value).ownBlock ∧ some k_ ≠ (.slice Ao35 t137.length co35 : Value).ownBlock ∧ some k_ ≠ (.slice Ao37 t140.length co37 : Value).ownBlock) (Kd.R_keptB (HO147.out) hkp (fun k_ hk_ hs_ => (hk_.2.2.2) hs_)) (fun k_ hk_ => ⟨hk_.1.1, hk_.1.2.1, hk_.1.2.2.1, hk_.1.2.2.2⟩)); have n5_ := Aside0.mk (hb); clear HO132; clear HO136; clear HO139; clear HO143; clear HO147; clear HB; have HO132 := n0_; have HO136 := n1_; have HO139 := n2_; have HO143 := n3_; have HO147 := n4_; have HB := n5_; clear n0_ n1_ n2_ n3_ n4_ n5_; (try clear hb); (try clear hkp); (try clear hy0)) | ((with_reducible refine gate_callee (f := 11) rfl ?_); refine goesL_ (some 72) rfl rfl Try.func11 (by kernel_rfl) rfl #[.slice Ao37 t153.length co37, .int .i64 1] rfl (by (try simp only [List.map_toArray, List.map_cons, List.map_nil]); first | done | (rw [show t153.length = t140.length from (Kd.R_reads' HO143.out).1.symm] <;> rfl) | rfl | (simp only [List.length_drop, List.length_take]; rfl)) ?_; (with_reducible refine (laws_heldIntS.calls k _ _ t153 1 t154 _ ?side1 ?side2 A20.out).mono ?_); (case side1 => repeat (first | exact (Kd.R_reads' HO143.out).2.2 | (with_reducible refine Kd.C_alloc ?_ _) | (with_reducible refine Kd.C_drewN ?_ _) | (with_reducible refine Kd.C_drew ?_))); (case side2 => rw [show t153.length = t140.length from (Kd.R_reads' HO143.out).1.symm]; exact (Kd.R_reads' HO143.out).2.1); rintro e w' ⟨rfl, ⟨nd, rfl⟩⟩; refine ⟨_, rfl, ?_⟩) | ((with_reducible refine gate_callee (f := 13) rfl ?_); refine goesL_ (some 81) rfl rfl Try.func13 (by kernel_rfl) rfl #[.slice A1 l1.length c1] rfl (by (try simp only [List.map_toArray, List.map_cons, List.map_nil]); first | done | rfl | (simp only [List.length_drop, List.length_take]; rfl)) ?_; (with_reducible refine (laws_toIntS.calls k _ _ l1 t155 _ ?side1 ?side2 A23.out).mono ?_); (case side1 => repeat (first | exact (Kd.C_below HR1.out (by repeat (first | (with_reducible first | exact HB.out | apply below_alloc | apply pw_below_drewN | apply below_drew1) | exact HB.out))) | (with_reducible refine Kd.C_alloc ?_ _) | (with_reducible refine Kd.C_drewN ?_ _) | (with_reducible refine Kd.C_drew ?_))); (case side2 => exact HC1.out); rintro e w43 ⟨v156, rfl, ho0, hb⟩; refine ⟨_, rfl, ?_⟩; have n0_ := Aside0.mk (Kd.R_elder' (by (with_reducible repeat (first | apply Kd.R_alloc | apply Kd.R_drewN | apply Kd.R_drew)); exact HO132.out) (Kd.R_base ho0) hb); have n1_ := Aside0.mk (Kd.R_elder' (by (with_reducible repeat (first | apply Kd.R_alloc | apply Kd.R_drewN | apply Kd.R_drew)); exact HO136.out) (Kd.R_base ho0) hb); have n2_ := Aside0.mk (Kd.R_elder' (by (with_reducible repeat (first | apply Kd.R_alloc | apply Kd.R_drewN | apply Kd.R_drew)); exact HO139.out) (Kd.R_base ho0) hb); have n3_ := Aside0.mk (Kd.R_elder' (by (with_reducible repeat (first | apply Kd.R_alloc | apply Kd.R_drewN | apply Kd.R_drew)); exact HO143.out) (Kd.R_base ho0) hb); have n4_ := Aside0.mk (Kd.R_elder' (by (with_reducible repeat (first | apply Kd.R_alloc | apply Kd.R_drewN | apply Kd.R_drew)); exact HO147.out) (Kd.R_base ho0) hb); have n5_ := Aside0.mk (Kd.R_lower (Kd.R_new' (Kd.R_new' (Kd.R_new' (Kd.R_new' (Kd.R_new' ho0 (Kd.R_lt (by (with_reducible repeat (first | apply Kd.R_alloc | apply Kd.R_drewN | apply Kd.R_drew)); exact HO132.out))) (Kd.R_lt (by (with_reducible repeat (first | apply Kd.R_alloc | apply Kd.R_drewN | apply Kd.R_drew)); exact HO136.out))) (Kd.R_lt (by (with_reducible repeat (first | apply Kd.R_alloc | apply Kd.R_drewN | apply Kd.R_drew)); exact HO139.out))) (Kd.R_lt (by (with_reducible repeat (first | apply Kd.R_alloc | apply Kd.R_drewN | apply Kd.R_drew)); exact HO143.out))) (Kd.R_lt (by (with_reducible repeat (first | apply Kd.R_alloc | apply Kd.R_drewN | apply Kd.R_drew)); exact HO147.out))) (below_size (by repeat (first | (with_reducible first | exact HB.out | apply below_alloc | apply pw_below_drewN | apply below_drew1) | exact HB.out)))); have n6_ := Aside0.mk (below_step (by repeat (first | (with_reducible first | exact HB.out | apply below_alloc | apply pw_below_drewN | apply below_drew1) | exact HB.out)) hb); clear HO132; clear HO136; clear HO139; clear HO143; clear HO147; clear HB; have HO132 := n0_; have HO136 := n1_; have HO139 := n2_; have HO143 := n3_; have HO147 := n4_; have HO157 := n5_; have HB := n6_; clear n0_ n1_ n2_ n3_ n4_ n5_ n6_; (try clear hb); (try clear hb2); (try clear hk); (try clear hi); (try clear ho0); obtain ⟨Ao44, co44, eo44⟩ := Kd.R_slice HO157.out; subst eo44) | ((with_reducible refine gate_callee (f := 21) rfl ?_); refine goesL_ (some 83) rfl rfl Try.func21 (by kernel_rfl) rfl #[.int .i64 a0, .slice Ao44 t155.length co44, .int .i64 a2] rfl (by (try simp only [List.map_toArray, List.map_cons, List.map_nil]); first | done | rfl | (simp only [List.length_drop, List.length_take]; rfl)) ?_; (with_reducible refine (impl_TakeGate.calls k a0 _ _ t155 a2 t158 t159 _ ?side1 ?side2 A24.out).mono ?_); (case side1 => repeat (first | exact (Kd.R_reads' HO157.out).2.2 | (with_reducible refine Kd.C_alloc ?_ _) | (with_reducible refine Kd.C_drewN ?_ _) | (with_reducible refine Kd.C_drew ?_))); (case side2 => exact (Kd.R_reads' HO157.out).2.1); rintro e w45 ⟨v160, rfl, ho0, hb⟩; refine ⟨_, rfl, ?_⟩; have n0_ := Aside0.mk (Kd.R_elder' (by (with_reducible repeat (first | apply Kd.R_alloc | apply Kd.R_drewN | apply Kd.R_drew)); exact HO132.out) (Kd.R_base ho0) hb); have n1_ := Aside0.mk (Kd.R_elder' (by (with_reducible repeat (first | apply Kd.R_alloc | apply Kd.R_drewN | apply Kd.R_drew)); exact HO136.out) (Kd.R_base ho0) hb); have n2_ := Aside0.mk (Kd.R_elder' (by (with_reducible repeat (first | apply Kd.R_alloc | apply Kd.R_drewN | apply Kd.R_drew)); exact HO139.out) (Kd.R_base ho0) hb); have n3_ := Aside0.mk (Kd.R_elder' (by (with_reducible repeat (first | apply Kd.R_alloc | apply Kd.R_drewN | apply Kd.R_drew)); exact HO143.out) (Kd.R_base ho0) hb); have n4_ := Aside0.mk (Kd.R_elder' (by (with_reducible repeat (first | apply Kd.R_alloc | apply Kd.R_drewN | apply Kd.R_drew)); exact HO147.out) (Kd.R_base ho0) hb); have n5_ := Aside0.mk (Kd.R_elder' (by (with_reducible repeat (first | apply Kd.R_alloc | apply Kd.R_drewN | apply Kd.R_drew)); exact HO157.out) (Kd.R_base ho0) hb); have n6_ := Aside0.mk (Kd.R_lower (Kd.R_new' (Kd.R_new' (Kd.R_new' (Kd.R_new' (Kd.R_new' (Kd.R_new' ho0 (Kd.R_lt (by (with_reducible repeat (first | apply Kd.R_alloc | apply Kd.R_drewN | apply Kd.R_drew)); exact HO132.out))) (Kd.R_lt (by (with_reducible repeat (first | apply Kd.R_alloc | apply Kd.R_drewN | apply Kd.R_drew)); exact HO136.out))) (Kd.R_lt (by (with_reducible repeat (first | apply Kd.R_alloc | apply Kd.R_drewN | apply Kd.R_drew)); exact HO139.out))) (Kd.R_lt (by (with_reducible repeat (first | apply Kd.R_alloc | apply Kd.R_drewN | apply Kd.R_drew)); exact HO143.out))) (Kd.R_lt (by (with_reducible repeat (first | apply Kd.R_alloc | apply Kd.R_drewN | apply Kd.R_drew)); exact HO147.out))) (Kd.R_lt (by (with_reducible repeat (first | apply Kd.R_alloc | apply Kd.R_drewN | apply Kd.R_drew)); exact HO157.out))) (below_size (by repeat (first | (with_reducible first | exact HB.out | apply below_alloc | apply pw_below_drewN | apply below_drew1) | exact HB.out)))); have n7_ := Aside0.mk (below_step (by repeat (first | (with_reducible first | exact HB.out | apply below_alloc | apply pw_below_drewN | apply below_drew1) | exact HB.out)) hb); clear HO132; clear HO136; clear HO139; clear HO143; clear HO147; clear HO157; clear HB; have HO132 := n0_; have HO136 := n1_; have HO139 := n2_; have HO143 := n3_; have HO147 := n4_; have HO157 := n5_; have HO161 := n6_; have HB := n7_; clear n0_ n1_ n2_ n3_ n4_ n5_ n6_ n7_; (try clear hb); (try clear hb2); (try clear hk); (try clear hi); (try clear ho0); obtain ⟨Ao46, co46, eo46⟩ := Kd.R_slice HO161.out; subst eo46) | ((with_reducible refine gate_callee (f := 9) rfl ?_); refine goesL_ (some 88) rfl rfl Try.func9 (by kernel_rfl) rfl #[.slice Ao46 t158.length co46, .slice Ao38 t133.length co38] rfl (by (try simp only [List.map_toArray, List.map_cons, List.map_nil]); first | done | rfl | (simp only [List.length_drop, List.length_take]; rfl)) ?_; (with_reducible refine (laws_eqIntS.calls k _ _ t158 _ _ t133 true _ ?side1 ?side2 ?side3 ?side4 A25.out).mono ?_); (case side1 => repeat (first | exact (Kd.R_reads' HO161.out).2.2 | (with_reducible refine Kd.C_alloc ?_ _) | (with_reducible refine Kd.C_drewN ?_ _) | (with_reducible refine Kd.C_drew ?_))); (case side2 => exact (Kd.R_reads' HO161.out).2.1); (case side3 => repeat (first | exact (Kd.R_reads' HO136.out).2.2 | (with_reducible refine Kd.C_alloc ?_ _) | (with_reducible refine Kd.C_drewN ?_ _) | (with_reducible refine Kd.C_drew ?_))); (case side4 => exact (Kd.R_reads' HO136.out).2.1); rintro e w' ⟨rfl, ⟨nd, rfl⟩⟩; refine ⟨_, rfl, ?_⟩) | ((with_reducible refine gate_callee (f := 11) rfl ?_); refine goesL_ (some 97) rfl rfl Try.func11 (by kernel_rfl) rfl #[.slice Ao37 t153.length co37, .int .i64 1] rfl (by (try simp only [List.map_toArray, List.map_cons, List.map_nil]); first | done | (rw [show t153.length = t140.length from (Kd.R_reads' HO143.out).1.symm] <;> rfl) | rfl | (simp only [List.length_drop, List.length_take]; rfl)) ?_; (with_reducible refine (laws_heldIntS.calls k _ _ t153 1 t163 _ ?side1 ?side2 A28.out).mono ?_); (case side1 => repeat (first | exact (Kd.R_reads' HO143.out).2.2 | (with_reducible refine Kd.C_alloc ?_ _) | (with_reducible refine Kd.C_drewN ?_ _) | (with_reducible refine Kd.C_drew ?_))); (case side2 => rw [show t153.length = t140.length from (Kd.R_reads' HO143.out).1.symm]; exact (Kd.R_reads' HO143.out).2.1); rintro e w' ⟨rfl, ⟨nd, rfl⟩⟩; refine ⟨_, rfl, ?_⟩))
                          go_ret
                          exact ⟨by first | rfl | (simp [errW_none, errW_some] <;> rfl) | (simp [*, errW_none, errW_some] <;> rfl), by repeat (first | (with_reducible first | exact HB.out | apply below_alloc | apply pw_below_drewN | apply below_drew1) | exact HB.out)⟩
                        · rw [if_neg c30] at H
                          exact absurd H (by simp)
                  · replace c26 := Bool.eq_false_iff.mpr c26
                    subst c26
                    have H1 : (none) = some r := by rw [if_neg (show ¬ (false = true) by decide)] at H; exact H
                    clear H
                    have H := H1
                    clear H1
                    exact absurd H (by simp)
                · rw [if_neg c22] at H
                  exact absurd H (by simp)
            · replace c18 := Bool.eq_false_iff.mpr c18
              subst c18
              have H1 : (none) = some r := by rw [if_neg (show ¬ (false = true) by decide)] at H; exact H
              clear H
              have H := H1
              clear H1
              exact absurd H (by simp)
        · replace c14 := Bool.eq_false_iff.mpr c14
          subst c14
          have H1 : (none) = some r := by rw [if_neg (show ¬ (false = true) by decide)] at H; exact H
          clear H
          have H := H1
          clear H1
          exact absurd H (by simp)
    · replace c10 := Bool.eq_false_iff.mpr c10
      subst c10
      have H1 : (none) = some r := by rw [if_neg (show ¬ (false = true) by decide)] at H; exact H
      clear H
      have H := H1
      clear H1
      exact absurd H (by simp)

/-- THE ONE PURE STATEMENT of laws_FnExactTakeGate: yours. -/
def laws_FnExactTakeGate.Pure : Prop := ∀ (a0 : Int) (l1 : List Int) (a2 : Int), (Lit.int .i64 a0).wf = true → l1.length ≤ maxLen → l1.length * 8 ≤ 140737488351232 → (∀ x ∈ l1, (Lit.int .i64 x).wf = true) → (Lit.int .i64 a2).wf = true → ∃ k, laws_FnExactTakeGate.f k a0 l1 a2 = some true
theorem laws_FnExactTakeGate.walk (P : laws_FnExactTakeGate.Pure) (a0 : Int) (a1 : Option Addr) (len1 cap1 : Nat) (z1 : List Int) (a2 : Int) (w : World) (w0 : (Lit.int .i64 a0).wf = true) (w1 : (a1 = none ∧ len1 = 0 ∧ cap1 = 0 ∧ z1 = []) ∨ ∃ x, a1 = some x ∧ len1 ≤ cap1 ∧ cap1 ≤ maxLen ∧ z1.length = cap1 ∧ (∀ i, i < z1.length → w.cell? (x.add i) = some (.int .i64 (z1.getD i 0))) ∧ ∀ n ∈ z1, (Lit.int .i64 n).wf = true) (y1 : len1 * 8 ≤ 140737488351232) (w2 : (Lit.int .i64 a2).wf = true) :
    Calls Try.prog 6 #[.int .i64 a0, .slice a1 len1 cap1, .int .i64 a2] w fun e w' => e = .returned (.bool true) ∧ Below w.heap.size w w' := by
  obtain ⟨l1, rfl, hr1, hm1, hw1, hc1⟩ := ReadsInt.ofRowC w1
  obtain ⟨k, h⟩ := P a0 l1 a2 w0 hm1 y1 hw1 w2
  refine (laws_FnExactTakeGate.calls k a0 _ _ l1 a2 true w (Kd.C_of_reads (d := (0 : Int)) (h1 := fun _ => rfl) hr1) hc1 h).mono ?_
  rintro e w' ⟨rfl, hd⟩
  exact ⟨rfl, hd⟩

end Go.Proofs.Ytelfljoapaoeoaa.V
