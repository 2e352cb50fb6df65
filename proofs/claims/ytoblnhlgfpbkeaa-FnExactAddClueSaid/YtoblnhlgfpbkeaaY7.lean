/- Laid by xp.py, a program of this session, over the kit's print: plain Lean functions with the answers of the Go functions, and proofs that the Go calls come to these answers; no condition beside those that each theorem names. -/
import Derived.Test.YtoblnhlgfpbkeaaY0
import Derived.Test.YtoblnhlgfpbkeaaY1
import Derived.Test.YtoblnhlgfpbkeaaY2
import Derived.Test.YtoblnhlgfpbkeaaY3
import Derived.Test.YtoblnhlgfpbkeaaY5
import Derived.Test.YtoblnhlgfpbkeaaY6
namespace Go.Proofs.Ytoblnhlgfpbkeaa.Y
open Go.RowKit Go.Proofs.YtoblnhlgfpbkeaaW.PrintWords Go.Proofs.YtoblnhlgfpbkeaaW.PrintLast Go.Proofs.YtoblnhlgfpbkeaaW.PrintMore
attribute [local go_sem] max2_int min2_int max_two min_two max_three min_three max_four min_four   -- for this text's walks alone
set_option linter.unusedVariables false
set_option linter.unusedSimpArgs false

/-! ### laws_FnExactAddClue: function 4 -/
def laws_FnExactAddClue.f (k : Nat) (a0_0 : Int) (l0_1 : List (S34)) (a1_0 : Int) (a1_1 : Int) (a1_2 : Int) : Option (Bool) := (laws_szPuzzle.f a0_0 l0_1 1048576).bind fun t192 => (if t192 < 0 then (some true) else ((laws_toPuzzle.f k a0_0 l0_1).bind fun bt193 => ((laws_toClue.f a1_0 a1_1 a1_2).bind fun bt197 => ((spec_AddClue.f k bt193.1 bt193.2 bt197.1 bt197.2.1 bt197.2.2).bind fun bt200 => ((laws_toPuzzle.f k a0_0 l0_1).bind fun bt206 => ((laws_toClue.f a1_0 a1_1 a1_2).bind fun bt211 => ((impl_AddClue.f k bt206.1 bt206.2 bt211.1 bt211.2.1 bt211.2.2).bind fun bt214 => ((laws_eqPuzzle.f k bt214.1 bt214.2.1 bt200.1 bt200.2.1).bind fun t220 => (if t220 = true then (if (bt214.2.2 != bt200.2.2) = true then (none) else ((laws_toPuzzle.f k a0_0 l0_1).bind fun bt221 => ((laws_eqPuzzle.f k bt206.1 bt206.2 bt221.1 bt221.2).bind fun t225 => (if t225 = true then ((laws_markPuzzle.f k bt206.1 bt206.2 1).bind fun bt226 => (if bt226.1 < 0 then (none) else ((laws_eqPuzzle.f k bt214.1 bt214.2.1 bt200.1 bt200.2.1).bind fun t228 => (if t228 = true then ((laws_markPuzzle.f k bt214.1 bt214.2.1 1).bind fun bt229 => ((laws_heldPuzzle.f k bt214.1 bt229.2 1).bind fun t231 => (if t231 < 0 then (none) else (if t231 = bt229.1 then ((laws_toPuzzle.f k a0_0 l0_1).bind fun bt232 => ((laws_toClue.f a1_0 a1_1 a1_2).bind fun bt236 => ((impl_AddClue.f k bt232.1 bt232.2 bt236.1 bt236.2.1 bt236.2.2).bind fun bt239 => ((laws_eqPuzzle.f k bt239.1 bt239.2.1 bt200.1 bt200.2.1).bind fun t245 => (if t245 = true then (if (bt239.2.2 != bt200.2.2) = true then (none) else ((laws_heldPuzzle.f k bt214.1 bt229.2 1).bind fun t246 => (if t246 < 0 then (none) else (if t246 = bt229.1 then (some true) else (none))))) else (none)))))) else (none))))) else (none))))) else (none))))) else (none))))))))))
theorem laws_FnExactAddClue.mono : ∀ a0 a1 a2 a3 a4 k, LeO (laws_FnExactAddClue.f k a0 a1 a2 a3 a4) (laws_FnExactAddClue.f (k + 1) a0 a1 a2 a3 a4) := by
  intro a0 a1 a2 a3 a4 k
  unfold laws_FnExactAddClue.f
  repeat' first
      | (with_reducible exact impl_AddClue.mono _ _ _ _ _ _)
      | (with_reducible exact laws_eqPuzzle.mono _ _ _ _ _)
      | (with_reducible exact laws_heldPuzzle.mono _ _ _ _)
      | (with_reducible exact laws_markPuzzle.mono _ _ _ _)
      | (with_reducible exact laws_toPuzzle.mono _ _ _)
      | (with_reducible exact spec_AddClue.mono _ _ _ _ _ _)
      | (with_reducible exact LeO.refl _)
      | (with_reducible exact LeO.none _)
      | (with_reducible refine LeO.ite ?_ ?_)
      | (with_reducible refine LeO.bind ?_ (fun _ => ?_))
      | exact impl_AddClue.mono _ _ _ _ _ _
      | exact laws_eqPuzzle.mono _ _ _ _ _
      | exact laws_heldPuzzle.mono _ _ _ _
      | exact laws_markPuzzle.mono _ _ _ _
      | exact laws_toPuzzle.mono _ _ _
      | exact spec_AddClue.mono _ _ _ _ _ _
      | exact LeO.none _
      | refine LeO.ite ?_ ?_
      | refine LeO.bind ?_ (fun _ => ?_)
def laws_FnExactAddClue.T5 : Bool × List (List Nat × List Nat) := (true, [([], []), ([0], [0]), ([], []), ([2, 1], [2]), ([1, 3, 3], [1, 3]), ([4], [4]), ([5], [5]), ([5], [5]), ([], []), ([8, 6, 4, 0, 1, 2, 3, 4, 5, 6, 8], [6, 8]), ([7, 9, 0, 1, 2, 3, 4, 5, 6, 7, 8, 9], [7])])
def laws_FnExactAddClue.B5 : List Nat := [0, 1, 0, 7, 15, 31, 63, 63, 0, 383, 1023]
theorem laws_FnExactAddClue.tab5 : rtab .any (opsOf Try.f4 5) = laws_FnExactAddClue.T5 := by kernel_rfl
theorem laws_FnExactAddClue.bits5 : waitsOk laws_FnExactAddClue.T5.2 laws_FnExactAddClue.B5 = true := by kernel_rfl
def laws_FnExactAddClue.T7 : Bool × List (List Nat × List Nat) := (true, [([], []), ([], []), ([1], [1]), ([0, 2, 2], [0, 2]), ([3], [3]), ([4], [4]), ([4], [4]), ([], []), ([7, 5, 3, 0, 1, 2, 3, 4, 5, 7], [5, 7]), ([6, 8, 0, 1, 2, 3, 4, 5, 6, 7, 8], [6])])
def laws_FnExactAddClue.B7 : List Nat := [0, 0, 2, 7, 15, 31, 31, 0, 191, 511]
theorem laws_FnExactAddClue.tab7 : rtab .any (opsOf Try.f4 7) = laws_FnExactAddClue.T7 := by kernel_rfl
theorem laws_FnExactAddClue.bits7 : waitsOk laws_FnExactAddClue.T7.2 laws_FnExactAddClue.B7 = true := by kernel_rfl
def laws_FnExactAddClue.T24 : Bool × List (List Nat × List Nat) := (true, [([], []), ([0], [0]), ([], []), ([2, 1], [2]), ([1, 3, 3], [1, 3]), ([4], [4]), ([5], [5]), ([5], [5]), ([], []), ([8, 6, 4, 0, 1, 2, 3, 4, 5, 6, 8], [6, 8]), ([7, 9, 0, 1, 2, 3, 4, 5, 6, 7, 8, 9], [7])])
def laws_FnExactAddClue.B24 : List Nat := [0, 1, 0, 7, 15, 31, 63, 63, 0, 383, 1023]
theorem laws_FnExactAddClue.tab24 : rtab .any (opsOf Try.f4 24) = laws_FnExactAddClue.T24 := by kernel_rfl
theorem laws_FnExactAddClue.bits24 : waitsOk laws_FnExactAddClue.T24.2 laws_FnExactAddClue.B24 = true := by kernel_rfl
theorem zFEAC_mvB {Q P : Prop} (q : Aside0 Q) (h : Q → P := by intro hq_; (with_reducible repeat (first | refine blk_drewN ?_ _ | refine blk_drew ?_ | refine blk_alloc ?_ _)); exact hq_) : P := h q.out
theorem zFEAC_mvE {P : Prop} (h : P := by (try simp only [List.map_toArray, List.map_cons, List.map_nil]); first | done | rfl | (simp only [List.length_drop, List.length_take]; rfl)) : P := h
theorem zFEAC_mvH0 {Q P : Prop} (q : Aside0 Q) (h : Q → P := by intro hb_; repeat (first | (with_reducible first | exact hb_ | apply below_alloc | apply pw_below_drewN | apply below_drew1) | exact hb_)) : P := h q.out
theorem zFEAC_mvH1 {Q P G0 : Prop} (q : Aside0 Q) (h0 : Aside0 G0) (h : Q → G0 → P := by intro hb_ g0_; repeat (first | (with_reducible first | exact hb_ | apply below_alloc | apply pw_below_drewN | apply below_drew1 | refine below_set ?_ g0_) | exact hb_)) : P := h q.out h0.out
theorem zFEAC_mvH2 {Q P G0 G1 : Prop} (q : Aside0 Q) (h0 : Aside0 G0) (h1 : Aside0 G1) (h : Q → G0 → G1 → P := by intro hb_ g0_ g1_; repeat (first | (with_reducible first | exact hb_ | apply below_alloc | apply pw_below_drewN | apply below_drew1 | refine below_set ?_ g0_ | refine below_set ?_ g1_) | exact hb_)) : P := h q.out h0.out h1.out
theorem zFEAC_mvH3 {Q P G0 G1 G2 : Prop} (q : Aside0 Q) (h0 : Aside0 G0) (h1 : Aside0 G1) (h2 : Aside0 G2) (h : Q → G0 → G1 → G2 → P := by intro hb_ g0_ g1_ g2_; repeat (first | (with_reducible first | exact hb_ | apply below_alloc | apply pw_below_drewN | apply below_drew1 | refine below_set ?_ g0_ | refine below_set ?_ g1_ | refine below_set ?_ g2_) | exact hb_)) : P := h q.out h0.out h1.out h2.out
theorem zFEAC_mvH4 {Q P G0 G1 G2 G3 : Prop} (q : Aside0 Q) (h0 : Aside0 G0) (h1 : Aside0 G1) (h2 : Aside0 G2) (h3 : Aside0 G3) (h : Q → G0 → G1 → G2 → G3 → P := by intro hb_ g0_ g1_ g2_ g3_; repeat (first | (with_reducible first | exact hb_ | apply below_alloc | apply pw_below_drewN | apply below_drew1 | refine below_set ?_ g0_ | refine below_set ?_ g1_ | refine below_set ?_ g2_ | refine below_set ?_ g3_) | exact hb_)) : P := h q.out h0.out h1.out h2.out h3.out
theorem zFEAC_mvH5 {Q P G0 G1 G2 G3 G4 : Prop} (q : Aside0 Q) (h0 : Aside0 G0) (h1 : Aside0 G1) (h2 : Aside0 G2) (h3 : Aside0 G3) (h4 : Aside0 G4) (h : Q → G0 → G1 → G2 → G3 → G4 → P := by intro hb_ g0_ g1_ g2_ g3_ g4_; repeat (first | (with_reducible first | exact hb_ | apply below_alloc | apply pw_below_drewN | apply below_drew1 | refine below_set ?_ g0_ | refine below_set ?_ g1_ | refine below_set ?_ g2_ | refine below_set ?_ g3_ | refine below_set ?_ g4_) | exact hb_)) : P := h q.out h0.out h1.out h2.out h3.out h4.out
theorem zFEAC_mvH6 {Q P G0 G1 G2 G3 G4 G5 : Prop} (q : Aside0 Q) (h0 : Aside0 G0) (h1 : Aside0 G1) (h2 : Aside0 G2) (h3 : Aside0 G3) (h4 : Aside0 G4) (h5 : Aside0 G5) (h : Q → G0 → G1 → G2 → G3 → G4 → G5 → P := by intro hb_ g0_ g1_ g2_ g3_ g4_ g5_; repeat (first | (with_reducible first | exact hb_ | apply below_alloc | apply pw_below_drewN | apply below_drew1 | refine below_set ?_ g0_ | refine below_set ?_ g1_ | refine below_set ?_ g2_ | refine below_set ?_ g3_ | refine below_set ?_ g4_ | refine below_set ?_ g5_) | exact hb_)) : P := h q.out h0.out h1.out h2.out h3.out h4.out h5.out
theorem zFEAC_mvR {Q P : Prop} (q : Aside0 Q) (h : Q → P := by intro hq_; (with_reducible repeat (first | apply Kd.R_alloc | apply Kd.R_drewN | apply Kd.R_drew)); exact hq_) : P := h q.out
set_option maxHeartbeats 8000000 in
set_option maxRecDepth 100000 in
theorem laws_FnExactAddClue.calls (k : Nat) (a0_0 : Int) (A0_1 : Option Addr) (c0_1 : Nat) (l0_1 : List (S34)) (a1_0 : Int) (a1_1 : Int) (a1_2 : Int) (r : Bool) (w : World) (hr0_1 : Kd.C k34 w A0_1 l0_1.length l0_1) (hc0_1 : l0_1.length ≤ c0_1) (h : laws_FnExactAddClue.f k a0_0 l0_1 a1_0 a1_1 a1_2 = some r) :
  Calls Try.prog 4 #[.agg #[.int .i64 a0_0, .slice A0_1 l0_1.length c0_1], .agg #[.int .i64 a1_0, .int .i64 a1_1, .int .i64 a1_2]] w fun e w' => e = .returned (.bool r) ∧ Below w.heap.size w w' := by
 have hu24 := Try.underlying24
 have hu34 := Try.underlying34
 have hu29 := Try.underlying29
 have HR0_1 := Aside0.mk hr0_1
 have HC0_1 := Aside0.mk hc0_1
 clear hr0_1 hc0_1
 have HB := Aside0.mk (Below.refl w.heap.size w)
 have H : ((laws_szPuzzle.f a0_0 l0_1 1048576).bind fun t192 => (if t192 < 0 then (some true) else ((laws_toPuzzle.f k a0_0 l0_1).bind fun bt193 => ((laws_toClue.f a1_0 a1_1 a1_2).bind fun bt197 => ((spec_AddClue.f k bt193.1 bt193.2 bt197.1 bt197.2.1 bt197.2.2).bind fun bt200 => ((laws_toPuzzle.f k a0_0 l0_1).bind fun bt206 => ((laws_toClue.f a1_0 a1_1 a1_2).bind fun bt211 => ((impl_AddClue.f k bt206.1 bt206.2 bt211.1 bt211.2.1 bt211.2.2).bind fun bt214 => ((laws_eqPuzzle.f k bt214.1 bt214.2.1 bt200.1 bt200.2.1).bind fun t220 => (if t220 = true then (if (bt214.2.2 != bt200.2.2) = true then (none) else ((laws_toPuzzle.f k a0_0 l0_1).bind fun bt221 => ((laws_eqPuzzle.f k bt206.1 bt206.2 bt221.1 bt221.2).bind fun t225 => (if t225 = true then ((laws_markPuzzle.f k bt206.1 bt206.2 1).bind fun bt226 => (if bt226.1 < 0 then (none) else ((laws_eqPuzzle.f k bt214.1 bt214.2.1 bt200.1 bt200.2.1).bind fun t228 => (if t228 = true then ((laws_markPuzzle.f k bt214.1 bt214.2.1 1).bind fun bt229 => ((laws_heldPuzzle.f k bt214.1 bt229.2 1).bind fun t231 => (if t231 < 0 then (none) else (if t231 = bt229.1 then ((laws_toPuzzle.f k a0_0 l0_1).bind fun bt232 => ((laws_toClue.f a1_0 a1_1 a1_2).bind fun bt236 => ((impl_AddClue.f k bt232.1 bt232.2 bt236.1 bt236.2.1 bt236.2.2).bind fun bt239 => ((laws_eqPuzzle.f k bt239.1 bt239.2.1 bt200.1 bt200.2.1).bind fun t245 => (if t245 = true then (if (bt239.2.2 != bt200.2.2) = true then (none) else ((laws_heldPuzzle.f k bt214.1 bt229.2 1).bind fun t246 => (if t246 < 0 then (none) else (if t246 = bt229.1 then (some true) else (none))))) else (none)))))) else (none))))) else (none))))) else (none))))) else (none))))))))))) = some r := h
 clear h
 replace H := Option.bind_eq_some_iff.mp H
 obtain ⟨t192, A30, H⟩ := H
 replace H : (if t192 < 0 then (some true) else ((laws_toPuzzle.f k a0_0 l0_1).bind fun bt193 => ((laws_toClue.f a1_0 a1_1 a1_2).bind fun bt197 => ((spec_AddClue.f k bt193.1 bt193.2 bt197.1 bt197.2.1 bt197.2.2).bind fun bt200 => ((laws_toPuzzle.f k a0_0 l0_1).bind fun bt206 => ((laws_toClue.f a1_0 a1_1 a1_2).bind fun bt211 => ((impl_AddClue.f k bt206.1 bt206.2 bt211.1 bt211.2.1 bt211.2.2).bind fun bt214 => ((laws_eqPuzzle.f k bt214.1 bt214.2.1 bt200.1 bt200.2.1).bind fun t220 => (if t220 = true then (if (bt214.2.2 != bt200.2.2) = true then (none) else ((laws_toPuzzle.f k a0_0 l0_1).bind fun bt221 => ((laws_eqPuzzle.f k bt206.1 bt206.2 bt221.1 bt221.2).bind fun t225 => (if t225 = true then ((laws_markPuzzle.f k bt206.1 bt206.2 1).bind fun bt226 => (if bt226.1 < 0 then (none) else ((laws_eqPuzzle.f k bt214.1 bt214.2.1 bt200.1 bt200.2.1).bind fun t228 => (if t228 = true then ((laws_markPuzzle.f k bt214.1 bt214.2.1 1).bind fun bt229 => ((laws_heldPuzzle.f k bt214.1 bt229.2 1).bind fun t231 => (if t231 < 0 then (none) else (if t231 = bt229.1 then ((laws_toPuzzle.f k a0_0 l0_1).bind fun bt232 => ((laws_toClue.f a1_0 a1_1 a1_2).bind fun bt236 => ((impl_AddClue.f k bt232.1 bt232.2 bt236.1 bt236.2.1 bt236.2.2).bind fun bt239 => ((laws_eqPuzzle.f k bt239.1 bt239.2.1 bt200.1 bt200.2.1).bind fun t245 => (if t245 = true then (if (bt239.2.2 != bt200.2.2) = true then (none) else ((laws_heldPuzzle.f k bt214.1 bt229.2 1).bind fun t246 => (if t246 < 0 then (none) else (if t246 = bt229.1 then (some true) else (none))))) else (none)))))) else (none))))) else (none))))) else (none))))) else (none)))))))))) = some r := H
 have A3 := Aside0.mk A30
 clear A30
 by_cases c4 : t192 < 0
 ·rw [if_pos c4] at H
  have c4b0 : decide (t192 < 0) = true := decide_eq_true c4
  clear c4
  obtain rfl := Option.some.inj H
  go_enter Try.func4, Try.ntmps4
  go_wp2_with (first | ((with_reducible refine gate_dst (N := 2) rfl ?_); refine box_event ?hg (N := 2) ?hd (cs := #[.int .i64 a0_0, .slice A0_1 l0_1.length c0_1]) (t := 24) ?hr ?_; (case hd => rfl); (case hg => rfl); (case hr => first | (go_simp; done) | (go_simp; rfl)); intro gb190 hg w5 hbox hb; have n0_ := Aside0.mk (below_step (zFEAC_mvH0 HB) hb); have n1_ := Aside0.mk (hbox); have n2_ := Aside0.mk ((by rw [hg]; exact (below_size (zFEAC_mvH0 HB)) : w.heap.size ≤ gb190)); have n3_ := Aside0.mk ((by rw [hg]; exact (below_size (zFEAC_mvH0 HB)) : w.heap.size ≤ gb190)); clear HB; have HB := n0_; have BK190 := n1_; have GW190 := n2_; have GE190 := n3_; clear n0_ n1_ n2_ n3_; clear hb hbox hg) | ((with_reducible refine gate_dst (N := 3) rfl ?_); refine box_event ?hg (N := 3) ?hd (cs := #[.int .i64 a1_0, .int .i64 a1_1, .int .i64 a1_2]) (t := 34) ?hr ?_; (case hd => rfl); (case hg => rfl); (case hr => first | (go_simp; done) | (go_simp; rfl)); intro gb191 hg w6 hbox hb; have n0_ := Aside0.mk (blk_below (g := gb190) (o := .cells #[.int .i64 a0_0, .slice A0_1 l0_1.length c0_1] 24 (0, 0)) (zFEAC_mvB BK190) hb); have n1_ := Aside0.mk (below_step (zFEAC_mvH1 HB GE190) hb); have n2_ := Aside0.mk (hbox); have n3_ := Aside0.mk ((by rw [hg]; exact (below_size (zFEAC_mvH1 HB GE190)) : w.heap.size ≤ gb191)); have n4_ := Aside0.mk ((by rw [hg]; exact (below_size (zFEAC_mvH1 HB GE190)) : w.heap.size ≤ gb191)); have n5_ := Aside0.mk ((by rw [hg]; exact Nat.ne_of_lt (blk_lt (g := gb190) (o := .cells #[.int .i64 a0_0, .slice A0_1 l0_1.length c0_1] 24 (0, 0)) (zFEAC_mvB BK190)) : gb190 ≠ gb191)); have n6_ := Aside0.mk ((by rw [hg]; exact Nat.ne_of_gt (blk_lt (g := gb190) (o := .cells #[.int .i64 a0_0, .slice A0_1 l0_1.length c0_1] 24 (0, 0)) (zFEAC_mvB BK190)) : gb191 ≠ gb190)); clear BK190; clear HB; have BK190 := n0_; have HB := n1_; have BK191 := n2_; have GW191 := n3_; have GE191 := n4_; have NB190_191 := n5_; have NB191_190 := n6_; clear n0_ n1_ n2_ n3_ n4_ n5_ n6_; clear hb hbox hg; have hnb7 := NB190_191.out; have hnc7 := NB191_190.out; have hcz8_0 : w6.cell? ⟨gb190, 0, none⟩ = some (.int .i64 a0_0) := (blk_cell BK190.out 0).trans rfl; have hcz8_1 : w6.cell? ⟨gb190, 1, none⟩ = some (.slice A0_1 l0_1.length c0_1) := (blk_cell BK190.out 1).trans rfl; have hfz8_0 := blk_frozen BK190.out 0; have hfz8_1 := blk_frozen BK190.out 1) | ((with_reducible refine gate_callee (f := 6) rfl ?_); refine goesL_ (some 18) rfl rfl Try.func6 (by kernel_rfl) rfl #[.agg #[.int .i64 a0_0, .slice A0_1 l0_1.length c0_1], .int .i64 1048576] rfl zFEAC_mvE ?_; (with_reducible refine (laws_szPuzzle.calls a0_0 _ _ l0_1 1048576 t192 _ ?side1 ?side2 A3.out).mono ?_); (case side1 => repeat (first | exact (Kd.C_below HR0_1.out HB.out) | (with_reducible refine Kd.C_alloc ?_ _) | (with_reducible refine Kd.C_drewN ?_ _) | (with_reducible refine Kd.C_drew ?_))); (case side2 => exact HC0_1.out); rintro e w9 ⟨rfl, hb⟩; refine ⟨_, rfl, ?_⟩; have n0_ := Aside0.mk (blk_below (g := gb190) (o := .cells #[.int .i64 a0_0, .slice A0_1 l0_1.length c0_1] 24 (0, 0)) (zFEAC_mvB BK190) hb); have n1_ := Aside0.mk (blk_below (g := gb191) (o := .cells #[.int .i64 a1_0, .int .i64 a1_1, .int .i64 a1_2] 34 (0, 0)) (zFEAC_mvB BK191) hb); have n2_ := Aside0.mk (below_step (zFEAC_mvH2 HB GE190 GE191) hb); clear BK190; clear BK191; clear HB; have BK190 := n0_; have BK191 := n1_; have HB := n2_; clear n0_ n1_ n2_; (try clear hb); (try clear hb2); (try clear hk); (try clear hi)))
  go_ret
  exact ⟨by first | rfl | (simp [errW_none, errW_some] <;> rfl) | (simp [*, errW_none, errW_some] <;> rfl), by repeat (first | (with_reducible first | exact HB.out | apply below_alloc | apply pw_below_drewN | apply below_drew1 | refine below_set ?_ GE190.out | refine below_set ?_ GE191.out) | exact HB.out)⟩
 ·rw [if_neg c4] at H
  have c4b0 : decide (t192 < 0) = false := decide_eq_false c4
  clear c4
  replace H := Option.bind_eq_some_iff.mp H
  obtain ⟨⟨t193, t194⟩, A100, H⟩ := H
  replace H : ((laws_toClue.f a1_0 a1_1 a1_2).bind fun bt197 => ((spec_AddClue.f k t193 t194 bt197.1 bt197.2.1 bt197.2.2).bind fun bt200 => ((laws_toPuzzle.f k a0_0 l0_1).bind fun bt206 => ((laws_toClue.f a1_0 a1_1 a1_2).bind fun bt211 => ((impl_AddClue.f k bt206.1 bt206.2 bt211.1 bt211.2.1 bt211.2.2).bind fun bt214 => ((laws_eqPuzzle.f k bt214.1 bt214.2.1 bt200.1 bt200.2.1).bind fun t220 => (if t220 = true then (if (bt214.2.2 != bt200.2.2) = true then (none) else ((laws_toPuzzle.f k a0_0 l0_1).bind fun bt221 => ((laws_eqPuzzle.f k bt206.1 bt206.2 bt221.1 bt221.2).bind fun t225 => (if t225 = true then ((laws_markPuzzle.f k bt206.1 bt206.2 1).bind fun bt226 => (if bt226.1 < 0 then (none) else ((laws_eqPuzzle.f k bt214.1 bt214.2.1 bt200.1 bt200.2.1).bind fun t228 => (if t228 = true then ((laws_markPuzzle.f k bt214.1 bt214.2.1 1).bind fun bt229 => ((laws_heldPuzzle.f k bt214.1 bt229.2 1).bind fun t231 => (if t231 < 0 then (none) else (if t231 = bt229.1 then ((laws_toPuzzle.f k a0_0 l0_1).bind fun bt232 => ((laws_toClue.f a1_0 a1_1 a1_2).bind fun bt236 => ((impl_AddClue.f k bt232.1 bt232.2 bt236.1 bt236.2.1 bt236.2.2).bind fun bt239 => ((laws_eqPuzzle.f k bt239.1 bt239.2.1 bt200.1 bt200.2.1).bind fun t245 => (if t245 = true then (if (bt239.2.2 != bt200.2.2) = true then (none) else ((laws_heldPuzzle.f k bt214.1 bt229.2 1).bind fun t246 => (if t246 < 0 then (none) else (if t246 = bt229.1 then (some true) else (none))))) else (none)))))) else (none))))) else (none))))) else (none))))) else (none)))))))) = some r := H
  have A10 := Aside0.mk A100
  clear A100
  replace H := Option.bind_eq_some_iff.mp H
  obtain ⟨⟨t197, t198, t199⟩, A110, H⟩ := H
  replace H : ((spec_AddClue.f k t193 t194 t197 t198 t199).bind fun bt200 => ((laws_toPuzzle.f k a0_0 l0_1).bind fun bt206 => ((laws_toClue.f a1_0 a1_1 a1_2).bind fun bt211 => ((impl_AddClue.f k bt206.1 bt206.2 bt211.1 bt211.2.1 bt211.2.2).bind fun bt214 => ((laws_eqPuzzle.f k bt214.1 bt214.2.1 bt200.1 bt200.2.1).bind fun t220 => (if t220 = true then (if (bt214.2.2 != bt200.2.2) = true then (none) else ((laws_toPuzzle.f k a0_0 l0_1).bind fun bt221 => ((laws_eqPuzzle.f k bt206.1 bt206.2 bt221.1 bt221.2).bind fun t225 => (if t225 = true then ((laws_markPuzzle.f k bt206.1 bt206.2 1).bind fun bt226 => (if bt226.1 < 0 then (none) else ((laws_eqPuzzle.f k bt214.1 bt214.2.1 bt200.1 bt200.2.1).bind fun t228 => (if t228 = true then ((laws_markPuzzle.f k bt214.1 bt214.2.1 1).bind fun bt229 => ((laws_heldPuzzle.f k bt214.1 bt229.2 1).bind fun t231 => (if t231 < 0 then (none) else (if t231 = bt229.1 then ((laws_toPuzzle.f k a0_0 l0_1).bind fun bt232 => ((laws_toClue.f a1_0 a1_1 a1_2).bind fun bt236 => ((impl_AddClue.f k bt232.1 bt232.2 bt236.1 bt236.2.1 bt236.2.2).bind fun bt239 => ((laws_eqPuzzle.f k bt239.1 bt239.2.1 bt200.1 bt200.2.1).bind fun t245 => (if t245 = true then (if (bt239.2.2 != bt200.2.2) = true then (none) else ((laws_heldPuzzle.f k bt214.1 bt229.2 1).bind fun t246 => (if t246 < 0 then (none) else (if t246 = bt229.1 then (some true) else (none))))) else (none)))))) else (none))))) else (none))))) else (none))))) else (none))))))) = some r := H
  have A11 := Aside0.mk A110
  clear A110
  replace H := Option.bind_eq_some_iff.mp H
  obtain ⟨⟨t200, t201, t204⟩, A120, H⟩ := H
  replace H : ((laws_toPuzzle.f k a0_0 l0_1).bind fun bt206 => ((laws_toClue.f a1_0 a1_1 a1_2).bind fun bt211 => ((impl_AddClue.f k bt206.1 bt206.2 bt211.1 bt211.2.1 bt211.2.2).bind fun bt214 => ((laws_eqPuzzle.f k bt214.1 bt214.2.1 t200 t201).bind fun t220 => (if t220 = true then (if (bt214.2.2 != t204) = true then (none) else ((laws_toPuzzle.f k a0_0 l0_1).bind fun bt221 => ((laws_eqPuzzle.f k bt206.1 bt206.2 bt221.1 bt221.2).bind fun t225 => (if t225 = true then ((laws_markPuzzle.f k bt206.1 bt206.2 1).bind fun bt226 => (if bt226.1 < 0 then (none) else ((laws_eqPuzzle.f k bt214.1 bt214.2.1 t200 t201).bind fun t228 => (if t228 = true then ((laws_markPuzzle.f k bt214.1 bt214.2.1 1).bind fun bt229 => ((laws_heldPuzzle.f k bt214.1 bt229.2 1).bind fun t231 => (if t231 < 0 then (none) else (if t231 = bt229.1 then ((laws_toPuzzle.f k a0_0 l0_1).bind fun bt232 => ((laws_toClue.f a1_0 a1_1 a1_2).bind fun bt236 => ((impl_AddClue.f k bt232.1 bt232.2 bt236.1 bt236.2.1 bt236.2.2).bind fun bt239 => ((laws_eqPuzzle.f k bt239.1 bt239.2.1 t200 t201).bind fun t245 => (if t245 = true then (if (bt239.2.2 != t204) = true then (none) else ((laws_heldPuzzle.f k bt214.1 bt229.2 1).bind fun t246 => (if t246 < 0 then (none) else (if t246 = bt229.1 then (some true) else (none))))) else (none)))))) else (none))))) else (none))))) else (none))))) else (none)))))) = some r := H
  have A12 := Aside0.mk A120
  clear A120
  replace H := Option.bind_eq_some_iff.mp H
  obtain ⟨⟨t206, t207⟩, A130, H⟩ := H
  replace H : ((laws_toClue.f a1_0 a1_1 a1_2).bind fun bt211 => ((impl_AddClue.f k t206 t207 bt211.1 bt211.2.1 bt211.2.2).bind fun bt214 => ((laws_eqPuzzle.f k bt214.1 bt214.2.1 t200 t201).bind fun t220 => (if t220 = true then (if (bt214.2.2 != t204) = true then (none) else ((laws_toPuzzle.f k a0_0 l0_1).bind fun bt221 => ((laws_eqPuzzle.f k t206 t207 bt221.1 bt221.2).bind fun t225 => (if t225 = true then ((laws_markPuzzle.f k t206 t207 1).bind fun bt226 => (if bt226.1 < 0 then (none) else ((laws_eqPuzzle.f k bt214.1 bt214.2.1 t200 t201).bind fun t228 => (if t228 = true then ((laws_markPuzzle.f k bt214.1 bt214.2.1 1).bind fun bt229 => ((laws_heldPuzzle.f k bt214.1 bt229.2 1).bind fun t231 => (if t231 < 0 then (none) else (if t231 = bt229.1 then ((laws_toPuzzle.f k a0_0 l0_1).bind fun bt232 => ((laws_toClue.f a1_0 a1_1 a1_2).bind fun bt236 => ((impl_AddClue.f k bt232.1 bt232.2 bt236.1 bt236.2.1 bt236.2.2).bind fun bt239 => ((laws_eqPuzzle.f k bt239.1 bt239.2.1 t200 t201).bind fun t245 => (if t245 = true then (if (bt239.2.2 != t204) = true then (none) else ((laws_heldPuzzle.f k bt214.1 bt229.2 1).bind fun t246 => (if t246 < 0 then (none) else (if t246 = bt229.1 then (some true) else (none))))) else (none)))))) else (none))))) else (none))))) else (none))))) else (none))))) = some r := H
  have A13 := Aside0.mk A130
  clear A130
  replace H := Option.bind_eq_some_iff.mp H
  obtain ⟨⟨t211, t212, t213⟩, A140, H⟩ := H
  replace H : ((impl_AddClue.f k t206 t207 t211 t212 t213).bind fun bt214 => ((laws_eqPuzzle.f k bt214.1 bt214.2.1 t200 t201).bind fun t220 => (if t220 = true then (if (bt214.2.2 != t204) = true then (none) else ((laws_toPuzzle.f k a0_0 l0_1).bind fun bt221 => ((laws_eqPuzzle.f k t206 t207 bt221.1 bt221.2).bind fun t225 => (if t225 = true then ((laws_markPuzzle.f k t206 t207 1).bind fun bt226 => (if bt226.1 < 0 then (none) else ((laws_eqPuzzle.f k bt214.1 bt214.2.1 t200 t201).bind fun t228 => (if t228 = true then ((laws_markPuzzle.f k bt214.1 bt214.2.1 1).bind fun bt229 => ((laws_heldPuzzle.f k bt214.1 bt229.2 1).bind fun t231 => (if t231 < 0 then (none) else (if t231 = bt229.1 then ((laws_toPuzzle.f k a0_0 l0_1).bind fun bt232 => ((laws_toClue.f a1_0 a1_1 a1_2).bind fun bt236 => ((impl_AddClue.f k bt232.1 bt232.2 bt236.1 bt236.2.1 bt236.2.2).bind fun bt239 => ((laws_eqPuzzle.f k bt239.1 bt239.2.1 t200 t201).bind fun t245 => (if t245 = true then (if (bt239.2.2 != t204) = true then (none) else ((laws_heldPuzzle.f k bt214.1 bt229.2 1).bind fun t246 => (if t246 < 0 then (none) else (if t246 = bt229.1 then (some true) else (none))))) else (none)))))) else (none))))) else (none))))) else (none))))) else (none)))) = some r := H
  have A14 := Aside0.mk A140
  clear A140
  replace H := Option.bind_eq_some_iff.mp H
  obtain ⟨⟨t214, t215, t218⟩, A150, H⟩ := H
  replace H : ((laws_eqPuzzle.f k t214 t215 t200 t201).bind fun t220 => (if t220 = true then (if (t218 != t204) = true then (none) else ((laws_toPuzzle.f k a0_0 l0_1).bind fun bt221 => ((laws_eqPuzzle.f k t206 t207 bt221.1 bt221.2).bind fun t225 => (if t225 = true then ((laws_markPuzzle.f k t206 t207 1).bind fun bt226 => (if bt226.1 < 0 then (none) else ((laws_eqPuzzle.f k t214 t215 t200 t201).bind fun t228 => (if t228 = true then ((laws_markPuzzle.f k t214 t215 1).bind fun bt229 => ((laws_heldPuzzle.f k t214 bt229.2 1).bind fun t231 => (if t231 < 0 then (none) else (if t231 = bt229.1 then ((laws_toPuzzle.f k a0_0 l0_1).bind fun bt232 => ((laws_toClue.f a1_0 a1_1 a1_2).bind fun bt236 => ((impl_AddClue.f k bt232.1 bt232.2 bt236.1 bt236.2.1 bt236.2.2).bind fun bt239 => ((laws_eqPuzzle.f k bt239.1 bt239.2.1 t200 t201).bind fun t245 => (if t245 = true then (if (bt239.2.2 != t204) = true then (none) else ((laws_heldPuzzle.f k t214 bt229.2 1).bind fun t246 => (if t246 < 0 then (none) else (if t246 = bt229.1 then (some true) else (none))))) else (none)))))) else (none))))) else (none))))) else (none))))) else (none))) = some r := H
  have A15 := Aside0.mk A150
  clear A150
  replace H := Option.bind_eq_some_iff.mp H
  obtain ⟨t220, A160, H⟩ := H
  replace H : (if t220 = true then (if (t218 != t204) = true then (none) else ((laws_toPuzzle.f k a0_0 l0_1).bind fun bt221 => ((laws_eqPuzzle.f k t206 t207 bt221.1 bt221.2).bind fun t225 => (if t225 = true then ((laws_markPuzzle.f k t206 t207 1).bind fun bt226 => (if bt226.1 < 0 then (none) else ((laws_eqPuzzle.f k t214 t215 t200 t201).bind fun t228 => (if t228 = true then ((laws_markPuzzle.f k t214 t215 1).bind fun bt229 => ((laws_heldPuzzle.f k t214 bt229.2 1).bind fun t231 => (if t231 < 0 then (none) else (if t231 = bt229.1 then ((laws_toPuzzle.f k a0_0 l0_1).bind fun bt232 => ((laws_toClue.f a1_0 a1_1 a1_2).bind fun bt236 => ((impl_AddClue.f k bt232.1 bt232.2 bt236.1 bt236.2.1 bt236.2.2).bind fun bt239 => ((laws_eqPuzzle.f k bt239.1 bt239.2.1 t200 t201).bind fun t245 => (if t245 = true then (if (bt239.2.2 != t204) = true then (none) else ((laws_heldPuzzle.f k t214 bt229.2 1).bind fun t246 => (if t246 < 0 then (none) else (if t246 = bt229.1 then (some true) else (none))))) else (none)))))) else (none))))) else (none))))) else (none))))) else (none)) = some r := H
  have A16 := Aside0.mk A160
  clear A160
  by_cases c17 : t220 = true
  ·subst c17
   have H1 : (if (t218 != t204) = true then (none) else ((laws_toPuzzle.f k a0_0 l0_1).bind fun bt221 => ((laws_eqPuzzle.f k t206 t207 bt221.1 bt221.2).bind fun t225 => (if t225 = true then ((laws_markPuzzle.f k t206 t207 1).bind fun bt226 => (if bt226.1 < 0 then (none) else ((laws_eqPuzzle.f k t214 t215 t200 t201).bind fun t228 => (if t228 = true then ((laws_markPuzzle.f k t214 t215 1).bind fun bt229 => ((laws_heldPuzzle.f k t214 bt229.2 1).bind fun t231 => (if t231 < 0 then (none) else (if t231 = bt229.1 then ((laws_toPuzzle.f k a0_0 l0_1).bind fun bt232 => ((laws_toClue.f a1_0 a1_1 a1_2).bind fun bt236 => ((impl_AddClue.f k bt232.1 bt232.2 bt236.1 bt236.2.1 bt236.2.2).bind fun bt239 => ((laws_eqPuzzle.f k bt239.1 bt239.2.1 t200 t201).bind fun t245 => (if t245 = true then (if (bt239.2.2 != t204) = true then (none) else ((laws_heldPuzzle.f k t214 bt229.2 1).bind fun t246 => (if t246 < 0 then (none) else (if t246 = bt229.1 then (some true) else (none))))) else (none)))))) else (none))))) else (none))))) else (none))))) = some r := by rw [if_pos rfl] at H; exact H
   clear H
   have H := H1
   clear H1
   by_cases c18 : (t218 != t204) = true
   ·rw [if_pos c18] at H
    exact absurd H (by simp)
   ·rw [if_neg c18] at H
    have c18b0 : (t218 != t204) = false := by simpa using c18
    (try (have c18b1 : decide (t218 = t204) = true := by simpa using c18))
    (try (have c18b2 : (t218 == t204) = true := by simpa using c18))
    clear c18
    replace H := Option.bind_eq_some_iff.mp H
    obtain ⟨⟨t221, t222⟩, A190, H⟩ := H
    replace H : ((laws_eqPuzzle.f k t206 t207 t221 t222).bind fun t225 => (if t225 = true then ((laws_markPuzzle.f k t206 t207 1).bind fun bt226 => (if bt226.1 < 0 then (none) else ((laws_eqPuzzle.f k t214 t215 t200 t201).bind fun t228 => (if t228 = true then ((laws_markPuzzle.f k t214 t215 1).bind fun bt229 => ((laws_heldPuzzle.f k t214 bt229.2 1).bind fun t231 => (if t231 < 0 then (none) else (if t231 = bt229.1 then ((laws_toPuzzle.f k a0_0 l0_1).bind fun bt232 => ((laws_toClue.f a1_0 a1_1 a1_2).bind fun bt236 => ((impl_AddClue.f k bt232.1 bt232.2 bt236.1 bt236.2.1 bt236.2.2).bind fun bt239 => ((laws_eqPuzzle.f k bt239.1 bt239.2.1 t200 t201).bind fun t245 => (if t245 = true then (if (bt239.2.2 != t204) = true then (none) else ((laws_heldPuzzle.f k t214 bt229.2 1).bind fun t246 => (if t246 < 0 then (none) else (if t246 = bt229.1 then (some true) else (none))))) else (none)))))) else (none))))) else (none))))) else (none))) = some r := H
    have A19 := Aside0.mk A190
    clear A190
    replace H := Option.bind_eq_some_iff.mp H
    obtain ⟨t225, A200, H⟩ := H
    replace H : (if t225 = true then ((laws_markPuzzle.f k t206 t207 1).bind fun bt226 => (if bt226.1 < 0 then (none) else ((laws_eqPuzzle.f k t214 t215 t200 t201).bind fun t228 => (if t228 = true then ((laws_markPuzzle.f k t214 t215 1).bind fun bt229 => ((laws_heldPuzzle.f k t214 bt229.2 1).bind fun t231 => (if t231 < 0 then (none) else (if t231 = bt229.1 then ((laws_toPuzzle.f k a0_0 l0_1).bind fun bt232 => ((laws_toClue.f a1_0 a1_1 a1_2).bind fun bt236 => ((impl_AddClue.f k bt232.1 bt232.2 bt236.1 bt236.2.1 bt236.2.2).bind fun bt239 => ((laws_eqPuzzle.f k bt239.1 bt239.2.1 t200 t201).bind fun t245 => (if t245 = true then (if (bt239.2.2 != t204) = true then (none) else ((laws_heldPuzzle.f k t214 bt229.2 1).bind fun t246 => (if t246 < 0 then (none) else (if t246 = bt229.1 then (some true) else (none))))) else (none)))))) else (none))))) else (none))))) else (none)) = some r := H
    have A20 := Aside0.mk A200
    clear A200
    by_cases c21 : t225 = true
    ·subst c21
     have H1 : ((laws_markPuzzle.f k t206 t207 1).bind fun bt226 => (if bt226.1 < 0 then (none) else ((laws_eqPuzzle.f k t214 t215 t200 t201).bind fun t228 => (if t228 = true then ((laws_markPuzzle.f k t214 t215 1).bind fun bt229 => ((laws_heldPuzzle.f k t214 bt229.2 1).bind fun t231 => (if t231 < 0 then (none) else (if t231 = bt229.1 then ((laws_toPuzzle.f k a0_0 l0_1).bind fun bt232 => ((laws_toClue.f a1_0 a1_1 a1_2).bind fun bt236 => ((impl_AddClue.f k bt232.1 bt232.2 bt236.1 bt236.2.1 bt236.2.2).bind fun bt239 => ((laws_eqPuzzle.f k bt239.1 bt239.2.1 t200 t201).bind fun t245 => (if t245 = true then (if (bt239.2.2 != t204) = true then (none) else ((laws_heldPuzzle.f k t214 bt229.2 1).bind fun t246 => (if t246 < 0 then (none) else (if t246 = bt229.1 then (some true) else (none))))) else (none)))))) else (none))))) else (none))))) = some r := by rw [if_pos rfl] at H; exact H
     clear H
     have H := H1
     clear H1
     replace H := Option.bind_eq_some_iff.mp H
     obtain ⟨⟨t226, t227⟩, A220, H⟩ := H
     replace H : (if t226 < 0 then (none) else ((laws_eqPuzzle.f k t214 t215 t200 t201).bind fun t228 => (if t228 = true then ((laws_markPuzzle.f k t214 t215 1).bind fun bt229 => ((laws_heldPuzzle.f k t214 bt229.2 1).bind fun t231 => (if t231 < 0 then (none) else (if t231 = bt229.1 then ((laws_toPuzzle.f k a0_0 l0_1).bind fun bt232 => ((laws_toClue.f a1_0 a1_1 a1_2).bind fun bt236 => ((impl_AddClue.f k bt232.1 bt232.2 bt236.1 bt236.2.1 bt236.2.2).bind fun bt239 => ((laws_eqPuzzle.f k bt239.1 bt239.2.1 t200 t201).bind fun t245 => (if t245 = true then (if (bt239.2.2 != t204) = true then (none) else ((laws_heldPuzzle.f k t214 bt229.2 1).bind fun t246 => (if t246 < 0 then (none) else (if t246 = bt229.1 then (some true) else (none))))) else (none)))))) else (none))))) else (none)))) = some r := H
     have A22 := Aside0.mk A220
     clear A220
     by_cases c23 : t226 < 0
     ·rw [if_pos c23] at H
      exact absurd H (by simp)
     ·rw [if_neg c23] at H
      have c23b0 : decide (t226 < 0) = false := decide_eq_false c23
      clear c23
      replace H := Option.bind_eq_some_iff.mp H
      obtain ⟨t228, A240, H⟩ := H
      replace H : (if t228 = true then ((laws_markPuzzle.f k t214 t215 1).bind fun bt229 => ((laws_heldPuzzle.f k t214 bt229.2 1).bind fun t231 => (if t231 < 0 then (none) else (if t231 = bt229.1 then ((laws_toPuzzle.f k a0_0 l0_1).bind fun bt232 => ((laws_toClue.f a1_0 a1_1 a1_2).bind fun bt236 => ((impl_AddClue.f k bt232.1 bt232.2 bt236.1 bt236.2.1 bt236.2.2).bind fun bt239 => ((laws_eqPuzzle.f k bt239.1 bt239.2.1 t200 t201).bind fun t245 => (if t245 = true then (if (bt239.2.2 != t204) = true then (none) else ((laws_heldPuzzle.f k t214 bt229.2 1).bind fun t246 => (if t246 < 0 then (none) else (if t246 = bt229.1 then (some true) else (none))))) else (none)))))) else (none))))) else (none)) = some r := H
      have A24 := Aside0.mk A240
      clear A240
      by_cases c25 : t228 = true
      ·subst c25
       have H1 : ((laws_markPuzzle.f k t214 t215 1).bind fun bt229 => ((laws_heldPuzzle.f k t214 bt229.2 1).bind fun t231 => (if t231 < 0 then (none) else (if t231 = bt229.1 then ((laws_toPuzzle.f k a0_0 l0_1).bind fun bt232 => ((laws_toClue.f a1_0 a1_1 a1_2).bind fun bt236 => ((impl_AddClue.f k bt232.1 bt232.2 bt236.1 bt236.2.1 bt236.2.2).bind fun bt239 => ((laws_eqPuzzle.f k bt239.1 bt239.2.1 t200 t201).bind fun t245 => (if t245 = true then (if (bt239.2.2 != t204) = true then (none) else ((laws_heldPuzzle.f k t214 bt229.2 1).bind fun t246 => (if t246 < 0 then (none) else (if t246 = bt229.1 then (some true) else (none))))) else (none)))))) else (none))))) = some r := by rw [if_pos rfl] at H; exact H
       clear H
       have H := H1
       clear H1
       replace H := Option.bind_eq_some_iff.mp H
       obtain ⟨⟨t229, t230⟩, A260, H⟩ := H
       replace H : ((laws_heldPuzzle.f k t214 t230 1).bind fun t231 => (if t231 < 0 then (none) else (if t231 = t229 then ((laws_toPuzzle.f k a0_0 l0_1).bind fun bt232 => ((laws_toClue.f a1_0 a1_1 a1_2).bind fun bt236 => ((impl_AddClue.f k bt232.1 bt232.2 bt236.1 bt236.2.1 bt236.2.2).bind fun bt239 => ((laws_eqPuzzle.f k bt239.1 bt239.2.1 t200 t201).bind fun t245 => (if t245 = true then (if (bt239.2.2 != t204) = true then (none) else ((laws_heldPuzzle.f k t214 t230 1).bind fun t246 => (if t246 < 0 then (none) else (if t246 = t229 then (some true) else (none))))) else (none)))))) else (none)))) = some r := H
       have A26 := Aside0.mk A260
       clear A260
       replace H := Option.bind_eq_some_iff.mp H
       obtain ⟨t231, A270, H⟩ := H
       replace H : (if t231 < 0 then (none) else (if t231 = t229 then ((laws_toPuzzle.f k a0_0 l0_1).bind fun bt232 => ((laws_toClue.f a1_0 a1_1 a1_2).bind fun bt236 => ((impl_AddClue.f k bt232.1 bt232.2 bt236.1 bt236.2.1 bt236.2.2).bind fun bt239 => ((laws_eqPuzzle.f k bt239.1 bt239.2.1 t200 t201).bind fun t245 => (if t245 = true then (if (bt239.2.2 != t204) = true then (none) else ((laws_heldPuzzle.f k t214 t230 1).bind fun t246 => (if t246 < 0 then (none) else (if t246 = t229 then (some true) else (none))))) else (none)))))) else (none))) = some r := H
       have A27 := Aside0.mk A270
       clear A270
       by_cases c28 : t231 < 0
       ·rw [if_pos c28] at H
        exact absurd H (by simp)
       ·rw [if_neg c28] at H
        have c28b0 : decide (t231 < 0) = false := decide_eq_false c28
        clear c28
        by_cases c29 : t231 = t229
        ·rw [if_pos c29] at H
         have c29b0 : (t231 == t229) = true := beq_iff_eq.mpr c29
         have c29b1 : (t231 != t229) = false := bne_eq_false_iff_eq.mpr c29
         clear c29
         replace H := Option.bind_eq_some_iff.mp H
         obtain ⟨⟨t232, t233⟩, A300, H⟩ := H
         replace H : ((laws_toClue.f a1_0 a1_1 a1_2).bind fun bt236 => ((impl_AddClue.f k t232 t233 bt236.1 bt236.2.1 bt236.2.2).bind fun bt239 => ((laws_eqPuzzle.f k bt239.1 bt239.2.1 t200 t201).bind fun t245 => (if t245 = true then (if (bt239.2.2 != t204) = true then (none) else ((laws_heldPuzzle.f k t214 t230 1).bind fun t246 => (if t246 < 0 then (none) else (if t246 = t229 then (some true) else (none))))) else (none))))) = some r := H
         have A30 := Aside0.mk A300
         clear A300
         replace H := Option.bind_eq_some_iff.mp H
         obtain ⟨⟨t236, t237, t238⟩, A310, H⟩ := H
         replace H : ((impl_AddClue.f k t232 t233 t236 t237 t238).bind fun bt239 => ((laws_eqPuzzle.f k bt239.1 bt239.2.1 t200 t201).bind fun t245 => (if t245 = true then (if (bt239.2.2 != t204) = true then (none) else ((laws_heldPuzzle.f k t214 t230 1).bind fun t246 => (if t246 < 0 then (none) else (if t246 = t229 then (some true) else (none))))) else (none)))) = some r := H
         have A31 := Aside0.mk A310
         clear A310
         replace H := Option.bind_eq_some_iff.mp H
         obtain ⟨⟨t239, t240, t243⟩, A320, H⟩ := H
         replace H : ((laws_eqPuzzle.f k t239 t240 t200 t201).bind fun t245 => (if t245 = true then (if (t243 != t204) = true then (none) else ((laws_heldPuzzle.f k t214 t230 1).bind fun t246 => (if t246 < 0 then (none) else (if t246 = t229 then (some true) else (none))))) else (none))) = some r := H
         have A32 := Aside0.mk A320
         clear A320
         replace H := Option.bind_eq_some_iff.mp H
         obtain ⟨t245, A330, H⟩ := H
         replace H : (if t245 = true then (if (t243 != t204) = true then (none) else ((laws_heldPuzzle.f k t214 t230 1).bind fun t246 => (if t246 < 0 then (none) else (if t246 = t229 then (some true) else (none))))) else (none)) = some r := H
         have A33 := Aside0.mk A330
         clear A330
         by_cases c34 : t245 = true
         ·subst c34
          have H1 : (if (t243 != t204) = true then (none) else ((laws_heldPuzzle.f k t214 t230 1).bind fun t246 => (if t246 < 0 then (none) else (if t246 = t229 then (some true) else (none))))) = some r := by rw [if_pos rfl] at H; exact H
          clear H
          have H := H1
          clear H1
          by_cases c35 : (t243 != t204) = true
          ·rw [if_pos c35] at H
           exact absurd H (by simp)
          ·rw [if_neg c35] at H
           have c35b0 : (t243 != t204) = false := by simpa using c35
           (try (have c35b1 : decide (t243 = t204) = true := by simpa using c35))
           (try (have c35b2 : (t243 == t204) = true := by simpa using c35))
           clear c35
           replace H := Option.bind_eq_some_iff.mp H
           obtain ⟨t246, A360, H⟩ := H
           replace H : (if t246 < 0 then (none) else (if t246 = t229 then (some true) else (none))) = some r := H
           have A36 := Aside0.mk A360
           clear A360
           by_cases c37 : t246 < 0
           ·rw [if_pos c37] at H
            exact absurd H (by simp)
           ·rw [if_neg c37] at H
            have c37b0 : decide (t246 < 0) = false := decide_eq_false c37
            clear c37
            by_cases c38 : t246 = t229
            ·rw [if_pos c38] at H
             have c38b0 : (t246 == t229) = true := beq_iff_eq.mpr c38
             have c38b1 : (t246 != t229) = false := bne_eq_false_iff_eq.mpr c38
             clear c38
             obtain rfl := Option.some.inj H
             go_enter Try.func4, Try.ntmps4
             try go_wp2_with (first | ((with_reducible refine gate_dst (N := 2) rfl ?_); refine box_event ?hg (N := 2) ?hd (cs := #[.int .i64 a0_0, .slice A0_1 l0_1.length c0_1]) (t := 24) ?hr ?_; (case hd => rfl); (case hg => rfl); (case hr => first | (go_simp; done) | (go_simp; rfl)); intro gb190 hg w39 hbox hb; have n0_ := Aside0.mk (below_step (zFEAC_mvH0 HB) hb); have n1_ := Aside0.mk (hbox); have n2_ := Aside0.mk ((by rw [hg]; exact (below_size (zFEAC_mvH0 HB)) : w.heap.size ≤ gb190)); have n3_ := Aside0.mk ((by rw [hg]; exact (below_size (zFEAC_mvH0 HB)) : w.heap.size ≤ gb190)); clear HB; have HB := n0_; have BK190 := n1_; have GW190 := n2_; have GE190 := n3_; clear n0_ n1_ n2_ n3_; clear hb hbox hg) | ((with_reducible refine gate_dst (N := 3) rfl ?_); refine box_event ?hg (N := 3) ?hd (cs := #[.int .i64 a1_0, .int .i64 a1_1, .int .i64 a1_2]) (t := 34) ?hr ?_; (case hd => rfl); (case hg => rfl); (case hr => first | (go_simp; done) | (go_simp; rfl)); intro gb191 hg w40 hbox hb; have n0_ := Aside0.mk (blk_below (g := gb190) (o := .cells #[.int .i64 a0_0, .slice A0_1 l0_1.length c0_1] 24 (0, 0)) (zFEAC_mvB BK190) hb); have n1_ := Aside0.mk (below_step (zFEAC_mvH1 HB GE190) hb); have n2_ := Aside0.mk (hbox); have n3_ := Aside0.mk ((by rw [hg]; exact (below_size (zFEAC_mvH1 HB GE190)) : w.heap.size ≤ gb191)); have n4_ := Aside0.mk ((by rw [hg]; exact (below_size (zFEAC_mvH1 HB GE190)) : w.heap.size ≤ gb191)); have n5_ := Aside0.mk ((by rw [hg]; exact Nat.ne_of_lt (blk_lt (g := gb190) (o := .cells #[.int .i64 a0_0, .slice A0_1 l0_1.length c0_1] 24 (0, 0)) (zFEAC_mvB BK190)) : gb190 ≠ gb191)); have n6_ := Aside0.mk ((by rw [hg]; exact Nat.ne_of_gt (blk_lt (g := gb190) (o := .cells #[.int .i64 a0_0, .slice A0_1 l0_1.length c0_1] 24 (0, 0)) (zFEAC_mvB BK190)) : gb191 ≠ gb190)); clear BK190; clear HB; have BK190 := n0_; have HB := n1_; have BK191 := n2_; have GW191 := n3_; have GE191 := n4_; have NB190_191 := n5_; have NB191_190 := n6_; clear n0_ n1_ n2_ n3_ n4_ n5_ n6_; clear hb hbox hg; have hnb41 := NB190_191.out; have hnc41 := NB191_190.out; have hcz42_0 : w40.cell? ⟨gb190, 0, none⟩ = some (.int .i64 a0_0) := (blk_cell BK190.out 0).trans rfl; have hcz42_1 : w40.cell? ⟨gb190, 1, none⟩ = some (.slice A0_1 l0_1.length c0_1) := (blk_cell BK190.out 1).trans rfl; have hfz42_0 := blk_frozen BK190.out 0; have hfz42_1 := blk_frozen BK190.out 1) | ((with_reducible refine gate_callee (f := 6) rfl ?_); refine goesL_ (some 18) rfl rfl Try.func6 (by kernel_rfl) rfl #[.agg #[.int .i64 a0_0, .slice A0_1 l0_1.length c0_1], .int .i64 1048576] rfl zFEAC_mvE ?_; (with_reducible refine (laws_szPuzzle.calls a0_0 _ _ l0_1 1048576 t192 _ ?side1 ?side2 A3.out).mono ?_); (case side1 => repeat (first | exact (Kd.C_below HR0_1.out HB.out) | (with_reducible refine Kd.C_alloc ?_ _) | (with_reducible refine Kd.C_drewN ?_ _) | (with_reducible refine Kd.C_drew ?_))); (case side2 => exact HC0_1.out); rintro e w43 ⟨rfl, hb⟩; refine ⟨_, rfl, ?_⟩; have n0_ := Aside0.mk (blk_below (g := gb190) (o := .cells #[.int .i64 a0_0, .slice A0_1 l0_1.length c0_1] 24 (0, 0)) (zFEAC_mvB BK190) hb); have n1_ := Aside0.mk (blk_below (g := gb191) (o := .cells #[.int .i64 a1_0, .int .i64 a1_1, .int .i64 a1_2] 34 (0, 0)) (zFEAC_mvB BK191) hb); have n2_ := Aside0.mk (below_step (zFEAC_mvH2 HB GE190 GE191) hb); clear BK190; clear BK191; clear HB; have BK190 := n0_; have BK191 := n1_; have HB := n2_; clear n0_ n1_ n2_; (try clear hb); (try clear hb2); (try clear hk); (try clear hi)))
             have n0_ := Aside0.mk (blk_drew BK190.out)
             have n1_ := Aside0.mk (blk_drew BK191.out)
             have n2_ := Aside0.mk (below_drew1 HB.out)
             clear BK190 BK191 HB
             have BK190 := n0_
             have BK191 := n1_
             have HB := n2_
             clear n0_ n1_ n2_
             refine start_ (n := 11) (S := fun w' => w'.cell? ⟨gb190, 0, none⟩ = some (.int .i64 a0_0) ∧ w'.cell? ⟨gb190, 1, none⟩ = some (.slice A0_1 l0_1.length c0_1) ∧ w'.cell? ⟨gb191, 0, none⟩ = some (.int .i64 a1_0) ∧ w'.cell? ⟨gb191, 1, none⟩ = some (.int .i64 a1_1) ∧ w'.cell? ⟨gb191, 2, none⟩ = some (.int .i64 a1_2)) (ds := []) #[false, false, false, false, false, false, false, false, false, false, false] (by kernel_rfl) rfl rfl ⟨(blk_cell BK190.out 0).trans rfl, (blk_cell BK190.out 1).trans rfl, (blk_cell BK191.out 0).trans rfl, (blk_cell BK191.out 1).trans rfl, (blk_cell BK191.out 2).trans rfl⟩ (fun hHeld => ?_); refine with_tabW laws_FnExactAddClue.tab5 laws_FnExactAddClue.bits5 (fun HT_ HW_ => ?_)
             generalize w43.drew = w44 at BK190 BK191 HB hHeld ⊢
             refine take_ (i := 0) (N := some 22) (v := ?_) (a' := ?_) #[true, false, false, false, false, false, false, false, false, false, false] rfl rfl (take_ofW HT_.out HW_.out (by kernel_rfl)) (fun _ _ _ h => h) (Or.inl ⟨by rfl, ?_⟩) hHeld ?_ ?_
             rotate_left
             ·rintro w' ⟨s0, s1, s2, s3, s4⟩
              go_simp
              with_reducible rfl
             rotate_left
             ·simp only [Act.put, List.setIfInBounds_toArray, List.set_cons_zero, List.set_cons_succ, i64_w, i32_w]
              rfl
             refine take_ (i := 2) (N := some 24) (v := ?_) (a' := ?_) #[true, false, true, false, false, false, false, false, false, false, false] rfl rfl (take_ofW HT_.out HW_.out (by kernel_rfl)) (fun _ _ _ h => h) (Or.inl ⟨by rfl, ?_⟩) hHeld ?_ ?_
             rotate_left
             ·rintro w' ⟨s0, s1, s2, s3, s4⟩
              go_simp
              with_reducible rfl
             rotate_left
             ·simp only [Act.put, List.setIfInBounds_toArray, List.set_cons_zero, List.set_cons_succ, i64_w, i32_w]
              rfl
             refine join_ (σ := Value × Value × Nat) 2 #[true, true, true, true, true, true, true, true, true, false, false] (fun s_ => [(23, .agg #[.int .i64 t193, s_.1]), (25, .agg #[.int .i64 t197, .int .i64 t198, .int .i64 t199]), (26, .tuple #[.agg #[.int .i64 t200, s_.2.1], .bool t204]), (6, .pointer (some ⟨s_.2.2, 0, none⟩)), (21, .tuple #[.agg #[.int .i64 t200, s_.2.1], .bool t204]), (27, .agg #[.int .i64 t200, s_.2.1]), (28, .bool t204)]) (fun s_ w' => (w'.cell? ⟨gb190, 0, none⟩ = some (.int .i64 a0_0) ∧ w'.cell? ⟨gb190, 1, none⟩ = some (.slice A0_1 l0_1.length c0_1) ∧ w'.cell? ⟨gb191, 0, none⟩ = some (.int .i64 a1_0) ∧ w'.cell? ⟨gb191, 1, none⟩ = some (.int .i64 a1_1) ∧ w'.cell? ⟨gb191, 2, none⟩ = some (.int .i64 a1_2)) ∧ (Kd.R k37 37 w' w.heap.size (fun k_ => some k_ ≠ (s_.2.1 : Value).ownBlock) s_.1 t194) ∧ (Kd.R k37 37 w' w.heap.size (fun k_ => some k_ ≠ (s_.1 : Value).ownBlock) s_.2.1 t201) ∧ (w'.heap[gb190]? = some (.cells #[.int .i64 a0_0, .slice A0_1 l0_1.length c0_1] 24 (0, 0))) ∧ (w'.heap[gb191]? = some (.cells #[.int .i64 a1_0, .int .i64 a1_1, .int .i64 a1_2] 34 (0, 0))) ∧ (w'.heap[s_.2.2]? = some (.cells #[.int .i64 0, .slice none 0 0] 29 (0, 0))) ∧ (w.heap.size ≤ s_.2.2) ∧ (w.heap.size ≤ s_.2.2) ∧ (gb190 ≠ s_.2.2) ∧ (s_.2.2 ≠ gb190) ∧ (gb191 ≠ s_.2.2) ∧ (s_.2.2 ≠ gb191) ∧ (Below w.heap.size w w')) ?_ ?_
             rotate_left
             ·intro hCont
              refine two_ (i := 1) (j := 8) (Ni := some 23) (Nj := some 6) #[true, true, true, false, false, false, false, false, false, false, false] #[true, false, true, false, false, false, false, false, true, false, false] rfl rfl rfl rfl (two_of HT_.out (by kernel_rfl)) (by decide) (by decide) (fun K hK => ?_) (fun K hK => ?_)
              ·skip
               refine goes_ Try.func8 (by kernel_rfl) rfl #[.agg #[.int .i64 a0_0, .slice A0_1 l0_1.length c0_1]] (by rfl) rfl rfl zFEAC_mvE ?_
               with_reducible refine (laws_toPuzzle.calls k a0_0 _ _ l0_1 t193 t194 _ ?side1 ?side2 A10.out).mono ?_
               (case side1 => repeat (first | exact (Kd.C_below HR0_1.out HB.out) | (with_reducible refine Kd.C_alloc ?_ _) | (with_reducible refine Kd.C_drewN ?_ _) | (with_reducible refine Kd.C_drew ?_)))
               (case side2 => exact HC0_1.out)
               rintro e w45 ⟨v195, rfl, ho0, hb⟩
               refine ⟨_, rfl, ?_⟩
               have n0_ := Aside0.mk (Kd.R_lower ho0 (below_size (zFEAC_mvH2 HB GE190 GE191)))
               have n1_ := Aside0.mk (blk_below (g := gb190) (o := .cells #[.int .i64 a0_0, .slice A0_1 l0_1.length c0_1] 24 (0, 0)) (zFEAC_mvB BK190) hb)
               have n2_ := Aside0.mk (blk_below (g := gb191) (o := .cells #[.int .i64 a1_0, .int .i64 a1_1, .int .i64 a1_2] 34 (0, 0)) (zFEAC_mvB BK191) hb)
               have n3_ := Aside0.mk (below_step (zFEAC_mvH2 HB GE190 GE191) hb)
               clear BK190 BK191 HB
               have HO196 := n0_
               have BK190 := n1_
               have BK191 := n2_
               have HB := n3_
               clear n0_ n1_ n2_ n3_
               (try clear hb)
               (try clear hb2)
               (try clear hk)
               (try clear hi)
               (try clear ho0)
               refine hK.out _ _ ⟨(blk_cell BK190.out 0).trans rfl, (blk_cell BK190.out 1).trans rfl, (blk_cell BK191.out 0).trans rfl, (blk_cell BK191.out 1).trans rfl, (blk_cell BK191.out 2).trans rfl⟩ (fun hHeld => ?_)
               clear hK K
               refine norm_ (a' := ?_) ?_ ?_
               rotate_left
               ·show Act.put _ (some 23) _ = _
                simp only [Act.put, List.setIfInBounds_toArray, List.set_cons_zero, List.set_cons_succ, i64_w, i32_w]
                rfl
               refine two_ (i := 3) (j := 8) (Ni := some 25) (Nj := some 6) #[true, true, true, true, false, false, false, false, false, false, false] #[true, true, true, false, false, false, false, false, true, false, false] rfl rfl rfl rfl (two_of HT_.out (by kernel_rfl)) (by decide) (by decide) (fun K hK => ?_) (fun K hK => ?_)
               ·skip
                refine goes_ Try.func12 (by kernel_rfl) rfl #[.agg #[.int .i64 a1_0, .int .i64 a1_1, .int .i64 a1_2]] (by rfl) rfl rfl zFEAC_mvE ?_
                with_reducible refine (laws_toClue.calls a1_0 a1_1 a1_2 t197 t198 t199 _ A11.out).mono ?_
                rintro e w46 ⟨rfl, hb⟩
                refine ⟨_, rfl, ?_⟩
                have n0_ := Aside0.mk (Kd.R_below (zFEAC_mvR HO196) hb)
                have n1_ := Aside0.mk (blk_below (g := gb190) (o := .cells #[.int .i64 a0_0, .slice A0_1 l0_1.length c0_1] 24 (0, 0)) (zFEAC_mvB BK190) hb)
                have n2_ := Aside0.mk (blk_below (g := gb191) (o := .cells #[.int .i64 a1_0, .int .i64 a1_1, .int .i64 a1_2] 34 (0, 0)) (zFEAC_mvB BK191) hb)
                have n3_ := Aside0.mk (below_step (zFEAC_mvH2 HB GE190 GE191) hb)
                clear HO196 BK190 BK191 HB
                have HO196 := n0_
                have BK190 := n1_
                have BK191 := n2_
                have HB := n3_
                clear n0_ n1_ n2_ n3_
                (try clear hb)
                (try clear hb2)
                (try clear hk)
                (try clear hi)
                obtain ⟨Ao47, co47, eo47⟩ := Kd.R_slice HO196.out
                (first | subst eo47 | (injection eo47 with f1_ f2_ f3_; have f4_ := f1_.symm; have f5_ := f3_.symm; clear f1_ f2_ f3_; subst f4_; subst f5_))
                refine hK.out _ _ ⟨(blk_cell BK190.out 0).trans rfl, (blk_cell BK190.out 1).trans rfl, (blk_cell BK191.out 0).trans rfl, (blk_cell BK191.out 1).trans rfl, (blk_cell BK191.out 2).trans rfl⟩ (fun hHeld => ?_)
                clear hK K
                refine norm_ (a' := ?_) ?_ ?_
                rotate_left
                ·show Act.put _ (some 25) _ = _
                 simp only [Act.put, List.setIfInBounds_toArray, List.set_cons_zero, List.set_cons_succ, i64_w, i32_w]
                 rfl
                refine two_ (i := 4) (j := 8) (Ni := some 26) (Nj := some 6) #[true, true, true, true, true, false, false, false, false, false, false] #[true, true, true, true, false, false, false, false, true, false, false] rfl rfl rfl rfl (two_of HT_.out (by kernel_rfl)) (by decide) (by decide) (fun K hK => ?_) (fun K hK => ?_)
                ·skip
                 refine goes_ Try.func11 (by kernel_rfl) rfl #[.agg #[.int .i64 t193, .slice Ao47 t194.length co47], .agg #[.int .i64 t197, .int .i64 t198, .int .i64 t199]] (by rfl) rfl rfl zFEAC_mvE ?_
                 with_reducible refine (spec_AddClue.calls k t193 _ _ t194 t197 t198 t199 t200 t201 t204 _ ?side1 ?side2 A12.out).mono ?_
                 (case side1 => repeat (first | exact (Kd.R_reads' HO196.out).2.2 | (with_reducible refine Kd.C_alloc ?_ _) | (with_reducible refine Kd.C_drewN ?_ _) | (with_reducible refine Kd.C_drew ?_)))
                 (case side2 => exact (Kd.R_reads' HO196.out).2.1)
                 rintro e w48 ⟨v202, rfl, ho0, hb⟩
                 refine ⟨_, rfl, ?_⟩
                 have n0_ := Aside0.mk (Kd.R_elder' (zFEAC_mvR HO196) (Kd.R_base ho0) hb)
                 have n1_ := Aside0.mk (Kd.R_lower (Kd.R_new' ho0 (Kd.R_lt (zFEAC_mvR HO196))) (below_size (zFEAC_mvH2 HB GE190 GE191)))
                 have n2_ := Aside0.mk (blk_below (g := gb190) (o := .cells #[.int .i64 a0_0, .slice A0_1 l0_1.length c0_1] 24 (0, 0)) (zFEAC_mvB BK190) hb)
                 have n3_ := Aside0.mk (blk_below (g := gb191) (o := .cells #[.int .i64 a1_0, .int .i64 a1_1, .int .i64 a1_2] 34 (0, 0)) (zFEAC_mvB BK191) hb)
                 have n4_ := Aside0.mk (below_step (zFEAC_mvH2 HB GE190 GE191) hb)
                 clear HO196 BK190 BK191 HB
                 have HO196 := n0_
                 have HO203 := n1_
                 have BK190 := n2_
                 have BK191 := n3_
                 have HB := n4_
                 clear n0_ n1_ n2_ n3_ n4_
                 (try clear hb)
                 (try clear hb2)
                 (try clear hk)
                 (try clear hi)
                 (try clear ho0)
                 refine hK.out _ _ ⟨(blk_cell BK190.out 0).trans rfl, (blk_cell BK190.out 1).trans rfl, (blk_cell BK191.out 0).trans rfl, (blk_cell BK191.out 1).trans rfl, (blk_cell BK191.out 2).trans rfl⟩ (fun hHeld => ?_)
                 clear hK K
                 refine norm_ (a' := ?_) ?_ ?_
                 rotate_left
                 ·show Act.put _ (some 26) _ = _
                  simp only [Act.put, List.setIfInBounds_toArray, List.set_cons_zero, List.set_cons_succ, i64_w, i32_w]
                  rfl
                 refine pure_ (i := 5) (N := some 21) (v := ?_) (a' := ?_) #[true, true, true, true, true, true, false, false, false, false, false] rfl rfl (any_of HT_.out (by kernel_rfl)) (fun _ _ _ h => h) (Or.inl ⟨by rfl, ?_⟩) ?_ ?_
                 rotate_left
                 ·intro w'
                  go_simp
                  with_reducible rfl
                 rotate_left
                 ·simp only [Act.put, List.setIfInBounds_toArray, List.set_cons_zero, List.set_cons_succ, i64_w, i32_w]
                  rfl
                 refine pure_ (i := 6) (N := some 27) (v := ?_) (a' := ?_) #[true, true, true, true, true, true, true, false, false, false, false] rfl rfl (any_of HT_.out (by kernel_rfl)) (fun _ _ _ h => h) (Or.inl ⟨by rfl, ?_⟩) ?_ ?_
                 rotate_left
                 ·intro w'
                  go_simp
                  with_reducible rfl
                 rotate_left
                 ·simp only [Act.put, List.setIfInBounds_toArray, List.set_cons_zero, List.set_cons_succ, i64_w, i32_w]
                  rfl
                 refine pure_ (i := 7) (N := some 28) (v := ?_) (a' := ?_) #[true, true, true, true, true, true, true, true, false, false, false] rfl rfl (any_of HT_.out (by kernel_rfl)) (fun _ _ _ h => h) (Or.inl ⟨by rfl, ?_⟩) ?_ ?_
                 rotate_left
                 ·intro w'
                  go_simp
                  with_reducible rfl
                 rotate_left
                 ·simp only [Act.put, List.setIfInBounds_toArray, List.set_cons_zero, List.set_cons_succ, i64_w, i32_w]
                  rfl
                 refine one_ (i := 8) (N := some 6) #[true, true, true, true, true, true, true, true, true, false, false] rfl rfl (one_of HT_.out (by kernel_rfl)) (by decide) (fun K hK => ?_)
                 refine box_step ?hg (N := 6) ?hd (cs := #[.int .i64 0, .slice none 0 0]) (t := 29) ?hr ?_; (case hd => rfl); (case hg => rfl); (case hr => first | (go_simp; done) | (go_simp; rfl))
                 intro gb205 hg w49 hbox hb
                 have n0_ := Aside0.mk (Kd.R_below (zFEAC_mvR HO196) hb)
                 have n1_ := Aside0.mk (Kd.R_below (zFEAC_mvR HO203) hb)
                 have n2_ := Aside0.mk (blk_below (g := gb190) (o := .cells #[.int .i64 a0_0, .slice A0_1 l0_1.length c0_1] 24 (0, 0)) (zFEAC_mvB BK190) hb)
                 have n3_ := Aside0.mk (blk_below (g := gb191) (o := .cells #[.int .i64 a1_0, .int .i64 a1_1, .int .i64 a1_2] 34 (0, 0)) (zFEAC_mvB BK191) hb)
                 have n4_ := Aside0.mk (below_step (zFEAC_mvH2 HB GE190 GE191) hb)
                 have n5_ := Aside0.mk (hbox)
                 have n6_ := Aside0.mk ((by rw [hg]; exact (below_size (zFEAC_mvH2 HB GE190 GE191)) : w.heap.size ≤ gb205))
                 have n7_ := Aside0.mk ((by rw [hg]; exact (below_size (zFEAC_mvH2 HB GE190 GE191)) : w.heap.size ≤ gb205))
                 have n8_ := Aside0.mk ((by rw [hg]; exact Nat.ne_of_lt (blk_lt (g := gb190) (o := .cells #[.int .i64 a0_0, .slice A0_1 l0_1.length c0_1] 24 (0, 0)) (zFEAC_mvB BK190)) : gb190 ≠ gb205))
                 have n9_ := Aside0.mk ((by rw [hg]; exact Nat.ne_of_gt (blk_lt (g := gb190) (o := .cells #[.int .i64 a0_0, .slice A0_1 l0_1.length c0_1] 24 (0, 0)) (zFEAC_mvB BK190)) : gb205 ≠ gb190))
                 have n10_ := Aside0.mk ((by rw [hg]; exact Nat.ne_of_lt (blk_lt (g := gb191) (o := .cells #[.int .i64 a1_0, .int .i64 a1_1, .int .i64 a1_2] 34 (0, 0)) (zFEAC_mvB BK191)) : gb191 ≠ gb205))
                 have n11_ := Aside0.mk ((by rw [hg]; exact Nat.ne_of_gt (blk_lt (g := gb191) (o := .cells #[.int .i64 a1_0, .int .i64 a1_1, .int .i64 a1_2] 34 (0, 0)) (zFEAC_mvB BK191)) : gb205 ≠ gb191))
                 clear HO196 HO203 BK190 BK191 HB
                 have HO196 := n0_
                 have HO203 := n1_
                 have BK190 := n2_
                 have BK191 := n3_
                 have HB := n4_
                 have BK205 := n5_
                 have GW205 := n6_
                 have GE205 := n7_
                 have NB190_205 := n8_
                 have NB205_190 := n9_
                 have NB191_205 := n10_
                 have NB205_191 := n11_
                 clear n0_ n1_ n2_ n3_ n4_ n5_ n6_ n7_ n8_ n9_ n10_ n11_
                 clear hb hbox hg
                 refine hK.out _ _ ⟨(blk_cell BK190.out 0).trans rfl, (blk_cell BK190.out 1).trans rfl, (blk_cell BK191.out 0).trans rfl, (blk_cell BK191.out 1).trans rfl, (blk_cell BK191.out 2).trans rfl⟩ (fun hHeld => ?_)
                 clear hK K
                 refine norm_ (a' := ?_) ?_ ?_
                 rotate_left
                 ·show Act.put _ (some 6) _ = _
                  simp only [Act.put, List.setIfInBounds_toArray, List.set_cons_zero, List.set_cons_succ, i64_w, i32_w]
                  rfl
                 exact norm_ (by simp only [putAll, Act.put, List.setIfInBounds_toArray, List.set_cons_zero, List.set_cons_succ]) (hCont (.slice Ao47 t194.length co47, v202, gb205) _ ⟨hHeld, (by (with_reducible repeat (first | apply Kd.R_alloc | apply Kd.R_drewN | apply Kd.R_drew)); exact Kd.R_mono HO196.out (fun _ hk => hk.2)), (by (with_reducible repeat (first | apply Kd.R_alloc | apply Kd.R_drewN | apply Kd.R_drew)); exact Kd.R_mono HO203.out (fun _ hk => hk.2)), (zFEAC_mvB BK190), (zFEAC_mvB BK191), (zFEAC_mvB BK205), GW205.out, GE205.out, NB190_205.out, NB205_190.out, NB191_205.out, NB205_191.out, (zFEAC_mvH3 HB GE190 GE191 GE205)⟩)
                ·skip
                 refine box_step ?hg (N := 6) ?hd (cs := #[.int .i64 0, .slice none 0 0]) (t := 29) ?hr ?_; (case hd => rfl); (case hg => rfl); (case hr => first | (go_simp; done) | (go_simp; rfl))
                 intro gb205 hg w47 hbox hb
                 have n0_ := Aside0.mk (Kd.R_below (zFEAC_mvR HO196) hb)
                 have n1_ := Aside0.mk (blk_below (g := gb190) (o := .cells #[.int .i64 a0_0, .slice A0_1 l0_1.length c0_1] 24 (0, 0)) (zFEAC_mvB BK190) hb)
                 have n2_ := Aside0.mk (blk_below (g := gb191) (o := .cells #[.int .i64 a1_0, .int .i64 a1_1, .int .i64 a1_2] 34 (0, 0)) (zFEAC_mvB BK191) hb)
                 have n3_ := Aside0.mk (below_step (zFEAC_mvH2 HB GE190 GE191) hb)
                 have n4_ := Aside0.mk (hbox)
                 have n5_ := Aside0.mk ((by rw [hg]; exact (below_size (zFEAC_mvH2 HB GE190 GE191)) : w.heap.size ≤ gb205))
                 have n6_ := Aside0.mk ((by rw [hg]; exact (below_size (zFEAC_mvH2 HB GE190 GE191)) : w.heap.size ≤ gb205))
                 have n7_ := Aside0.mk ((by rw [hg]; exact Nat.ne_of_lt (blk_lt (g := gb190) (o := .cells #[.int .i64 a0_0, .slice A0_1 l0_1.length c0_1] 24 (0, 0)) (zFEAC_mvB BK190)) : gb190 ≠ gb205))
                 have n8_ := Aside0.mk ((by rw [hg]; exact Nat.ne_of_gt (blk_lt (g := gb190) (o := .cells #[.int .i64 a0_0, .slice A0_1 l0_1.length c0_1] 24 (0, 0)) (zFEAC_mvB BK190)) : gb205 ≠ gb190))
                 have n9_ := Aside0.mk ((by rw [hg]; exact Nat.ne_of_lt (blk_lt (g := gb191) (o := .cells #[.int .i64 a1_0, .int .i64 a1_1, .int .i64 a1_2] 34 (0, 0)) (zFEAC_mvB BK191)) : gb191 ≠ gb205))
                 have n10_ := Aside0.mk ((by rw [hg]; exact Nat.ne_of_gt (blk_lt (g := gb191) (o := .cells #[.int .i64 a1_0, .int .i64 a1_1, .int .i64 a1_2] 34 (0, 0)) (zFEAC_mvB BK191)) : gb205 ≠ gb191))
                 clear HO196 BK190 BK191 HB
                 have HO196 := n0_
                 have BK190 := n1_
                 have BK191 := n2_
                 have HB := n3_
                 have BK205 := n4_
                 have GW205 := n5_
                 have GE205 := n6_
                 have NB190_205 := n7_
                 have NB205_190 := n8_
                 have NB191_205 := n9_
                 have NB205_191 := n10_
                 clear n0_ n1_ n2_ n3_ n4_ n5_ n6_ n7_ n8_ n9_ n10_
                 clear hb hbox hg
                 obtain ⟨Ao48, co48, eo48⟩ := Kd.R_slice HO196.out
                 (first | subst eo48 | (injection eo48 with f1_ f2_ f3_; have f4_ := f1_.symm; have f5_ := f3_.symm; clear f1_ f2_ f3_; subst f4_; subst f5_))
                 refine hK.out _ _ ⟨(blk_cell BK190.out 0).trans rfl, (blk_cell BK190.out 1).trans rfl, (blk_cell BK191.out 0).trans rfl, (blk_cell BK191.out 1).trans rfl, (blk_cell BK191.out 2).trans rfl⟩ (fun hHeld => ?_)
                 clear hK K
                 refine norm_ (a' := ?_) ?_ ?_
                 rotate_left
                 ·show Act.put _ (some 6) _ = _
                  simp only [Act.put, List.setIfInBounds_toArray, List.set_cons_zero, List.set_cons_succ, i64_w, i32_w]
                  rfl
                 refine one_ (i := 4) (N := some 26) #[true, true, true, true, true, false, false, false, true, false, false] rfl rfl (one_of HT_.out (by kernel_rfl)) (by decide) (fun K hK => ?_)
                 refine goes_ Try.func11 (by kernel_rfl) rfl #[.agg #[.int .i64 t193, .slice Ao48 t194.length co48], .agg #[.int .i64 t197, .int .i64 t198, .int .i64 t199]] (by rfl) rfl rfl zFEAC_mvE ?_
                 with_reducible refine (spec_AddClue.calls k t193 _ _ t194 t197 t198 t199 t200 t201 t204 _ ?side1 ?side2 A12.out).mono ?_
                 (case side1 => repeat (first | exact (Kd.R_reads' HO196.out).2.2 | (with_reducible refine Kd.C_alloc ?_ _) | (with_reducible refine Kd.C_drewN ?_ _) | (with_reducible refine Kd.C_drew ?_)))
                 (case side2 => exact (Kd.R_reads' HO196.out).2.1)
                 rintro e w49 ⟨v202, rfl, ho0, hb⟩
                 refine ⟨_, rfl, ?_⟩
                 have n0_ := Aside0.mk (Kd.R_elder' (zFEAC_mvR HO196) (Kd.R_base ho0) hb)
                 have n1_ := Aside0.mk (Kd.R_lower (Kd.R_new' ho0 (Kd.R_lt (zFEAC_mvR HO196))) (below_size (zFEAC_mvH3 HB GE190 GE191 GE205)))
                 have n2_ := Aside0.mk (blk_below (g := gb190) (o := .cells #[.int .i64 a0_0, .slice A0_1 l0_1.length c0_1] 24 (0, 0)) (zFEAC_mvB BK190) hb)
                 have n3_ := Aside0.mk (blk_below (g := gb191) (o := .cells #[.int .i64 a1_0, .int .i64 a1_1, .int .i64 a1_2] 34 (0, 0)) (zFEAC_mvB BK191) hb)
                 have n4_ := Aside0.mk (blk_below (g := gb205) (o := .cells #[.int .i64 0, .slice none 0 0] 29 (0, 0)) (zFEAC_mvB BK205) hb)
                 have n5_ := Aside0.mk (below_step (zFEAC_mvH3 HB GE190 GE191 GE205) hb)
                 clear HO196 BK190 BK191 BK205 HB
                 have HO196 := n0_
                 have HO203 := n1_
                 have BK190 := n2_
                 have BK191 := n3_
                 have BK205 := n4_
                 have HB := n5_
                 clear n0_ n1_ n2_ n3_ n4_ n5_
                 (try clear hb)
                 (try clear hb2)
                 (try clear hk)
                 (try clear hi)
                 (try clear ho0)
                 refine hK.out _ _ ⟨(blk_cell BK190.out 0).trans rfl, (blk_cell BK190.out 1).trans rfl, (blk_cell BK191.out 0).trans rfl, (blk_cell BK191.out 1).trans rfl, (blk_cell BK191.out 2).trans rfl⟩ (fun hHeld => ?_)
                 clear hK K
                 refine norm_ (a' := ?_) ?_ ?_
                 rotate_left
                 ·show Act.put _ (some 26) _ = _
                  simp only [Act.put, List.setIfInBounds_toArray, List.set_cons_zero, List.set_cons_succ, i64_w, i32_w]
                  rfl
                 refine pure_ (i := 5) (N := some 21) (v := ?_) (a' := ?_) #[true, true, true, true, true, true, false, false, true, false, false] rfl rfl (any_of HT_.out (by kernel_rfl)) (fun _ _ _ h => h) (Or.inl ⟨by rfl, ?_⟩) ?_ ?_
                 rotate_left
                 ·intro w'
                  go_simp
                  with_reducible rfl
                 rotate_left
                 ·simp only [Act.put, List.setIfInBounds_toArray, List.set_cons_zero, List.set_cons_succ, i64_w, i32_w]
                  rfl
                 refine pure_ (i := 6) (N := some 27) (v := ?_) (a' := ?_) #[true, true, true, true, true, true, true, false, true, false, false] rfl rfl (any_of HT_.out (by kernel_rfl)) (fun _ _ _ h => h) (Or.inl ⟨by rfl, ?_⟩) ?_ ?_
                 rotate_left
                 ·intro w'
                  go_simp
                  with_reducible rfl
                 rotate_left
                 ·simp only [Act.put, List.setIfInBounds_toArray, List.set_cons_zero, List.set_cons_succ, i64_w, i32_w]
                  rfl
                 refine pure_ (i := 7) (N := some 28) (v := ?_) (a' := ?_) #[true, true, true, true, true, true, true, true, true, false, false] rfl rfl (any_of HT_.out (by kernel_rfl)) (fun _ _ _ h => h) (Or.inl ⟨by rfl, ?_⟩) ?_ ?_
                 rotate_left
                 ·intro w'
                  go_simp
                  with_reducible rfl
                 rotate_left
                 ·simp only [Act.put, List.setIfInBounds_toArray, List.set_cons_zero, List.set_cons_succ, i64_w, i32_w]
                  rfl
                 exact norm_ (by simp only [putAll, Act.put, List.setIfInBounds_toArray, List.set_cons_zero, List.set_cons_succ]) (hCont (.slice Ao48 t194.length co48, v202, gb205) _ ⟨hHeld, (by (with_reducible repeat (first | apply Kd.R_alloc | apply Kd.R_drewN | apply Kd.R_drew)); exact Kd.R_mono HO196.out (fun _ hk => hk.2)), (by (with_reducible repeat (first | apply Kd.R_alloc | apply Kd.R_drewN | apply Kd.R_drew)); exact Kd.R_mono HO203.out (fun _ hk => hk.2)), (zFEAC_mvB BK190), (zFEAC_mvB BK191), (zFEAC_mvB BK205), GW205.out, GE205.out, NB190_205.out, NB205_190.out, NB191_205.out, NB205_191.out, (zFEAC_mvH3 HB GE190 GE191 GE205)⟩)
               ·skip
                refine box_step ?hg (N := 6) ?hd (cs := #[.int .i64 0, .slice none 0 0]) (t := 29) ?hr ?_; (case hd => rfl); (case hg => rfl); (case hr => first | (go_simp; done) | (go_simp; rfl))
                intro gb205 hg w46 hbox hb
                have n0_ := Aside0.mk (Kd.R_below (zFEAC_mvR HO196) hb)
                have n1_ := Aside0.mk (blk_below (g := gb190) (o := .cells #[.int .i64 a0_0, .slice A0_1 l0_1.length c0_1] 24 (0, 0)) (zFEAC_mvB BK190) hb)
                have n2_ := Aside0.mk (blk_below (g := gb191) (o := .cells #[.int .i64 a1_0, .int .i64 a1_1, .int .i64 a1_2] 34 (0, 0)) (zFEAC_mvB BK191) hb)
                have n3_ := Aside0.mk (below_step (zFEAC_mvH2 HB GE190 GE191) hb)
                have n4_ := Aside0.mk (hbox)
                have n5_ := Aside0.mk ((by rw [hg]; exact (below_size (zFEAC_mvH2 HB GE190 GE191)) : w.heap.size ≤ gb205))
                have n6_ := Aside0.mk ((by rw [hg]; exact (below_size (zFEAC_mvH2 HB GE190 GE191)) : w.heap.size ≤ gb205))
                have n7_ := Aside0.mk ((by rw [hg]; exact Nat.ne_of_lt (blk_lt (g := gb190) (o := .cells #[.int .i64 a0_0, .slice A0_1 l0_1.length c0_1] 24 (0, 0)) (zFEAC_mvB BK190)) : gb190 ≠ gb205))
                have n8_ := Aside0.mk ((by rw [hg]; exact Nat.ne_of_gt (blk_lt (g := gb190) (o := .cells #[.int .i64 a0_0, .slice A0_1 l0_1.length c0_1] 24 (0, 0)) (zFEAC_mvB BK190)) : gb205 ≠ gb190))
                have n9_ := Aside0.mk ((by rw [hg]; exact Nat.ne_of_lt (blk_lt (g := gb191) (o := .cells #[.int .i64 a1_0, .int .i64 a1_1, .int .i64 a1_2] 34 (0, 0)) (zFEAC_mvB BK191)) : gb191 ≠ gb205))
                have n10_ := Aside0.mk ((by rw [hg]; exact Nat.ne_of_gt (blk_lt (g := gb191) (o := .cells #[.int .i64 a1_0, .int .i64 a1_1, .int .i64 a1_2] 34 (0, 0)) (zFEAC_mvB BK191)) : gb205 ≠ gb191))
                clear HO196 BK190 BK191 HB
                have HO196 := n0_
                have BK190 := n1_
                have BK191 := n2_
                have HB := n3_
                have BK205 := n4_
                have GW205 := n5_
                have GE205 := n6_
                have NB190_205 := n7_
                have NB205_190 := n8_
                have NB191_205 := n9_
                have NB205_191 := n10_
                clear n0_ n1_ n2_ n3_ n4_ n5_ n6_ n7_ n8_ n9_ n10_
                clear hb hbox hg
                refine hK.out _ _ ⟨(blk_cell BK190.out 0).trans rfl, (blk_cell BK190.out 1).trans rfl, (blk_cell BK191.out 0).trans rfl, (blk_cell BK191.out 1).trans rfl, (blk_cell BK191.out 2).trans rfl⟩ (fun hHeld => ?_)
                clear hK K
                refine norm_ (a' := ?_) ?_ ?_
                rotate_left
                ·show Act.put _ (some 6) _ = _
                 simp only [Act.put, List.setIfInBounds_toArray, List.set_cons_zero, List.set_cons_succ, i64_w, i32_w]
                 rfl
                refine one_ (i := 3) (N := some 25) #[true, true, true, true, false, false, false, false, true, false, false] rfl rfl (one_of HT_.out (by kernel_rfl)) (by decide) (fun K hK => ?_)
                refine goes_ Try.func12 (by kernel_rfl) rfl #[.agg #[.int .i64 a1_0, .int .i64 a1_1, .int .i64 a1_2]] (by rfl) rfl rfl zFEAC_mvE ?_
                with_reducible refine (laws_toClue.calls a1_0 a1_1 a1_2 t197 t198 t199 _ A11.out).mono ?_
                rintro e w47 ⟨rfl, hb⟩
                refine ⟨_, rfl, ?_⟩
                have n0_ := Aside0.mk (Kd.R_below (zFEAC_mvR HO196) hb)
                have n1_ := Aside0.mk (blk_below (g := gb190) (o := .cells #[.int .i64 a0_0, .slice A0_1 l0_1.length c0_1] 24 (0, 0)) (zFEAC_mvB BK190) hb)
                have n2_ := Aside0.mk (blk_below (g := gb191) (o := .cells #[.int .i64 a1_0, .int .i64 a1_1, .int .i64 a1_2] 34 (0, 0)) (zFEAC_mvB BK191) hb)
                have n3_ := Aside0.mk (blk_below (g := gb205) (o := .cells #[.int .i64 0, .slice none 0 0] 29 (0, 0)) (zFEAC_mvB BK205) hb)
                have n4_ := Aside0.mk (below_step (zFEAC_mvH3 HB GE190 GE191 GE205) hb)
                clear HO196 BK190 BK191 BK205 HB
                have HO196 := n0_
                have BK190 := n1_
                have BK191 := n2_
                have BK205 := n3_
                have HB := n4_
                clear n0_ n1_ n2_ n3_ n4_
                (try clear hb)
                (try clear hb2)
                (try clear hk)
                (try clear hi)
                obtain ⟨Ao48, co48, eo48⟩ := Kd.R_slice HO196.out
                (first | subst eo48 | (injection eo48 with f1_ f2_ f3_; have f4_ := f1_.symm; have f5_ := f3_.symm; clear f1_ f2_ f3_; subst f4_; subst f5_))
                refine hK.out _ _ ⟨(blk_cell BK190.out 0).trans rfl, (blk_cell BK190.out 1).trans rfl, (blk_cell BK191.out 0).trans rfl, (blk_cell BK191.out 1).trans rfl, (blk_cell BK191.out 2).trans rfl⟩ (fun hHeld => ?_)
                clear hK K
                refine norm_ (a' := ?_) ?_ ?_
                rotate_left
                ·show Act.put _ (some 25) _ = _
                 simp only [Act.put, List.setIfInBounds_toArray, List.set_cons_zero, List.set_cons_succ, i64_w, i32_w]
                 rfl
                refine one_ (i := 4) (N := some 26) #[true, true, true, true, true, false, false, false, true, false, false] rfl rfl (one_of HT_.out (by kernel_rfl)) (by decide) (fun K hK => ?_)
                refine goes_ Try.func11 (by kernel_rfl) rfl #[.agg #[.int .i64 t193, .slice Ao48 t194.length co48], .agg #[.int .i64 t197, .int .i64 t198, .int .i64 t199]] (by rfl) rfl rfl zFEAC_mvE ?_
                with_reducible refine (spec_AddClue.calls k t193 _ _ t194 t197 t198 t199 t200 t201 t204 _ ?side1 ?side2 A12.out).mono ?_
                (case side1 => repeat (first | exact (Kd.R_reads' HO196.out).2.2 | (with_reducible refine Kd.C_alloc ?_ _) | (with_reducible refine Kd.C_drewN ?_ _) | (with_reducible refine Kd.C_drew ?_)))
                (case side2 => exact (Kd.R_reads' HO196.out).2.1)
                rintro e w49 ⟨v202, rfl, ho0, hb⟩
                refine ⟨_, rfl, ?_⟩
                have n0_ := Aside0.mk (Kd.R_elder' (zFEAC_mvR HO196) (Kd.R_base ho0) hb)
                have n1_ := Aside0.mk (Kd.R_lower (Kd.R_new' ho0 (Kd.R_lt (zFEAC_mvR HO196))) (below_size (zFEAC_mvH3 HB GE190 GE191 GE205)))
                have n2_ := Aside0.mk (blk_below (g := gb190) (o := .cells #[.int .i64 a0_0, .slice A0_1 l0_1.length c0_1] 24 (0, 0)) (zFEAC_mvB BK190) hb)
                have n3_ := Aside0.mk (blk_below (g := gb191) (o := .cells #[.int .i64 a1_0, .int .i64 a1_1, .int .i64 a1_2] 34 (0, 0)) (zFEAC_mvB BK191) hb)
                have n4_ := Aside0.mk (blk_below (g := gb205) (o := .cells #[.int .i64 0, .slice none 0 0] 29 (0, 0)) (zFEAC_mvB BK205) hb)
                have n5_ := Aside0.mk (below_step (zFEAC_mvH3 HB GE190 GE191 GE205) hb)
                clear HO196 BK190 BK191 BK205 HB
                have HO196 := n0_
                have HO203 := n1_
                have BK190 := n2_
                have BK191 := n3_
                have BK205 := n4_
                have HB := n5_
                clear n0_ n1_ n2_ n3_ n4_ n5_
                (try clear hb)
                (try clear hb2)
                (try clear hk)
                (try clear hi)
                (try clear ho0)
                refine hK.out _ _ ⟨(blk_cell BK190.out 0).trans rfl, (blk_cell BK190.out 1).trans rfl, (blk_cell BK191.out 0).trans rfl, (blk_cell BK191.out 1).trans rfl, (blk_cell BK191.out 2).trans rfl⟩ (fun hHeld => ?_)
                clear hK K
                refine norm_ (a' := ?_) ?_ ?_
                rotate_left
                ·show Act.put _ (some 26) _ = _
                 simp only [Act.put, List.setIfInBounds_toArray, List.set_cons_zero, List.set_cons_succ, i64_w, i32_w]
                 rfl
                refine pure_ (i := 5) (N := some 21) (v := ?_) (a' := ?_) #[true, true, true, true, true, true, false, false, true, false, false] rfl rfl (any_of HT_.out (by kernel_rfl)) (fun _ _ _ h => h) (Or.inl ⟨by rfl, ?_⟩) ?_ ?_
                rotate_left
                ·intro w'
                 go_simp
                 with_reducible rfl
                rotate_left
                ·simp only [Act.put, List.setIfInBounds_toArray, List.set_cons_zero, List.set_cons_succ, i64_w, i32_w]
                 rfl
                refine pure_ (i := 6) (N := some 27) (v := ?_) (a' := ?_) #[true, true, true, true, true, true, true, false, true, false, false] rfl rfl (any_of HT_.out (by kernel_rfl)) (fun _ _ _ h => h) (Or.inl ⟨by rfl, ?_⟩) ?_ ?_
                rotate_left
                ·intro w'
                 go_simp
                 with_reducible rfl
                rotate_left
                ·simp only [Act.put, List.setIfInBounds_toArray, List.set_cons_zero, List.set_cons_succ, i64_w, i32_w]
                 rfl
                refine pure_ (i := 7) (N := some 28) (v := ?_) (a' := ?_) #[true, true, true, true, true, true, true, true, true, false, false] rfl rfl (any_of HT_.out (by kernel_rfl)) (fun _ _ _ h => h) (Or.inl ⟨by rfl, ?_⟩) ?_ ?_
                rotate_left
                ·intro w'
                 go_simp
                 with_reducible rfl
                rotate_left
                ·simp only [Act.put, List.setIfInBounds_toArray, List.set_cons_zero, List.set_cons_succ, i64_w, i32_w]
                 rfl
                exact norm_ (by simp only [putAll, Act.put, List.setIfInBounds_toArray, List.set_cons_zero, List.set_cons_succ]) (hCont (.slice Ao48 t194.length co48, v202, gb205) _ ⟨hHeld, (by (with_reducible repeat (first | apply Kd.R_alloc | apply Kd.R_drewN | apply Kd.R_drew)); exact Kd.R_mono HO196.out (fun _ hk => hk.2)), (by (with_reducible repeat (first | apply Kd.R_alloc | apply Kd.R_drewN | apply Kd.R_drew)); exact Kd.R_mono HO203.out (fun _ hk => hk.2)), (zFEAC_mvB BK190), (zFEAC_mvB BK191), (zFEAC_mvB BK205), GW205.out, GE205.out, NB190_205.out, NB205_190.out, NB191_205.out, NB205_191.out, (zFEAC_mvH3 HB GE190 GE191 GE205)⟩)
              ·skip
               refine box_step ?hg (N := 6) ?hd (cs := #[.int .i64 0, .slice none 0 0]) (t := 29) ?hr ?_; (case hd => rfl); (case hg => rfl); (case hr => first | (go_simp; done) | (go_simp; rfl))
               intro gb205 hg w45 hbox hb
               have n0_ := Aside0.mk (blk_below (g := gb190) (o := .cells #[.int .i64 a0_0, .slice A0_1 l0_1.length c0_1] 24 (0, 0)) (zFEAC_mvB BK190) hb)
               have n1_ := Aside0.mk (blk_below (g := gb191) (o := .cells #[.int .i64 a1_0, .int .i64 a1_1, .int .i64 a1_2] 34 (0, 0)) (zFEAC_mvB BK191) hb)
               have n2_ := Aside0.mk (below_step (zFEAC_mvH2 HB GE190 GE191) hb)
               have n3_ := Aside0.mk (hbox)
               have n4_ := Aside0.mk ((by rw [hg]; exact (below_size (zFEAC_mvH2 HB GE190 GE191)) : w.heap.size ≤ gb205))
               have n5_ := Aside0.mk ((by rw [hg]; exact (below_size (zFEAC_mvH2 HB GE190 GE191)) : w.heap.size ≤ gb205))
               have n6_ := Aside0.mk ((by rw [hg]; exact Nat.ne_of_lt (blk_lt (g := gb190) (o := .cells #[.int .i64 a0_0, .slice A0_1 l0_1.length c0_1] 24 (0, 0)) (zFEAC_mvB BK190)) : gb190 ≠ gb205))
               have n7_ := Aside0.mk ((by rw [hg]; exact Nat.ne_of_gt (blk_lt (g := gb190) (o := .cells #[.int .i64 a0_0, .slice A0_1 l0_1.length c0_1] 24 (0, 0)) (zFEAC_mvB BK190)) : gb205 ≠ gb190))
               have n8_ := Aside0.mk ((by rw [hg]; exact Nat.ne_of_lt (blk_lt (g := gb191) (o := .cells #[.int .i64 a1_0, .int .i64 a1_1, .int .i64 a1_2] 34 (0, 0)) (zFEAC_mvB BK191)) : gb191 ≠ gb205))
               have n9_ := Aside0.mk ((by rw [hg]; exact Nat.ne_of_gt (blk_lt (g := gb191) (o := .cells #[.int .i64 a1_0, .int .i64 a1_1, .int .i64 a1_2] 34 (0, 0)) (zFEAC_mvB BK191)) : gb205 ≠ gb191))
               clear BK190 BK191 HB
               have BK190 := n0_
               have BK191 := n1_
               have HB := n2_
               have BK205 := n3_
               have GW205 := n4_
               have GE205 := n5_
               have NB190_205 := n6_
               have NB205_190 := n7_
               have NB191_205 := n8_
               have NB205_191 := n9_
               clear n0_ n1_ n2_ n3_ n4_ n5_ n6_ n7_ n8_ n9_
               clear hb hbox hg
               refine hK.out _ _ ⟨(blk_cell BK190.out 0).trans rfl, (blk_cell BK190.out 1).trans rfl, (blk_cell BK191.out 0).trans rfl, (blk_cell BK191.out 1).trans rfl, (blk_cell BK191.out 2).trans rfl⟩ (fun hHeld => ?_)
               clear hK K
               refine norm_ (a' := ?_) ?_ ?_
               rotate_left
               ·show Act.put _ (some 6) _ = _
                simp only [Act.put, List.setIfInBounds_toArray, List.set_cons_zero, List.set_cons_succ, i64_w, i32_w]
                rfl
               refine one_ (i := 1) (N := some 23) #[true, true, true, false, false, false, false, false, true, false, false] rfl rfl (one_of HT_.out (by kernel_rfl)) (by decide) (fun K hK => ?_)
               refine goes_ Try.func8 (by kernel_rfl) rfl #[.agg #[.int .i64 a0_0, .slice A0_1 l0_1.length c0_1]] (by rfl) rfl rfl zFEAC_mvE ?_
               with_reducible refine (laws_toPuzzle.calls k a0_0 _ _ l0_1 t193 t194 _ ?side1 ?side2 A10.out).mono ?_
               (case side1 => repeat (first | exact (Kd.C_below HR0_1.out HB.out) | (with_reducible refine Kd.C_alloc ?_ _) | (with_reducible refine Kd.C_drewN ?_ _) | (with_reducible refine Kd.C_drew ?_)))
               (case side2 => exact HC0_1.out)
               rintro e w46 ⟨v195, rfl, ho0, hb⟩
               refine ⟨_, rfl, ?_⟩
               have n0_ := Aside0.mk (Kd.R_lower ho0 (below_size (zFEAC_mvH3 HB GE190 GE191 GE205)))
               have n1_ := Aside0.mk (blk_below (g := gb190) (o := .cells #[.int .i64 a0_0, .slice A0_1 l0_1.length c0_1] 24 (0, 0)) (zFEAC_mvB BK190) hb)
               have n2_ := Aside0.mk (blk_below (g := gb191) (o := .cells #[.int .i64 a1_0, .int .i64 a1_1, .int .i64 a1_2] 34 (0, 0)) (zFEAC_mvB BK191) hb)
               have n3_ := Aside0.mk (blk_below (g := gb205) (o := .cells #[.int .i64 0, .slice none 0 0] 29 (0, 0)) (zFEAC_mvB BK205) hb)
               have n4_ := Aside0.mk (below_step (zFEAC_mvH3 HB GE190 GE191 GE205) hb)
               clear BK190 BK191 BK205 HB
               have HO196 := n0_
               have BK190 := n1_
               have BK191 := n2_
               have BK205 := n3_
               have HB := n4_
               clear n0_ n1_ n2_ n3_ n4_
               (try clear hb)
               (try clear hb2)
               (try clear hk)
               (try clear hi)
               (try clear ho0)
               refine hK.out _ _ ⟨(blk_cell BK190.out 0).trans rfl, (blk_cell BK190.out 1).trans rfl, (blk_cell BK191.out 0).trans rfl, (blk_cell BK191.out 1).trans rfl, (blk_cell BK191.out 2).trans rfl⟩ (fun hHeld => ?_)
               clear hK K
               refine norm_ (a' := ?_) ?_ ?_
               rotate_left
               ·show Act.put _ (some 23) _ = _
                simp only [Act.put, List.setIfInBounds_toArray, List.set_cons_zero, List.set_cons_succ, i64_w, i32_w]
                rfl
               refine one_ (i := 3) (N := some 25) #[true, true, true, true, false, false, false, false, true, false, false] rfl rfl (one_of HT_.out (by kernel_rfl)) (by decide) (fun K hK => ?_)
               refine goes_ Try.func12 (by kernel_rfl) rfl #[.agg #[.int .i64 a1_0, .int .i64 a1_1, .int .i64 a1_2]] (by rfl) rfl rfl zFEAC_mvE ?_
               with_reducible refine (laws_toClue.calls a1_0 a1_1 a1_2 t197 t198 t199 _ A11.out).mono ?_
               rintro e w47 ⟨rfl, hb⟩
               refine ⟨_, rfl, ?_⟩
               have n0_ := Aside0.mk (Kd.R_below (zFEAC_mvR HO196) hb)
               have n1_ := Aside0.mk (blk_below (g := gb190) (o := .cells #[.int .i64 a0_0, .slice A0_1 l0_1.length c0_1] 24 (0, 0)) (zFEAC_mvB BK190) hb)
               have n2_ := Aside0.mk (blk_below (g := gb191) (o := .cells #[.int .i64 a1_0, .int .i64 a1_1, .int .i64 a1_2] 34 (0, 0)) (zFEAC_mvB BK191) hb)
               have n3_ := Aside0.mk (blk_below (g := gb205) (o := .cells #[.int .i64 0, .slice none 0 0] 29 (0, 0)) (zFEAC_mvB BK205) hb)
               have n4_ := Aside0.mk (below_step (zFEAC_mvH3 HB GE190 GE191 GE205) hb)
               clear HO196 BK190 BK191 BK205 HB
               have HO196 := n0_
               have BK190 := n1_
               have BK191 := n2_
               have BK205 := n3_
               have HB := n4_
               clear n0_ n1_ n2_ n3_ n4_
               (try clear hb)
               (try clear hb2)
               (try clear hk)
               (try clear hi)
               obtain ⟨Ao48, co48, eo48⟩ := Kd.R_slice HO196.out
               (first | subst eo48 | (injection eo48 with f1_ f2_ f3_; have f4_ := f1_.symm; have f5_ := f3_.symm; clear f1_ f2_ f3_; subst f4_; subst f5_))
               refine hK.out _ _ ⟨(blk_cell BK190.out 0).trans rfl, (blk_cell BK190.out 1).trans rfl, (blk_cell BK191.out 0).trans rfl, (blk_cell BK191.out 1).trans rfl, (blk_cell BK191.out 2).trans rfl⟩ (fun hHeld => ?_)
               clear hK K
               refine norm_ (a' := ?_) ?_ ?_
               rotate_left
               ·show Act.put _ (some 25) _ = _
                simp only [Act.put, List.setIfInBounds_toArray, List.set_cons_zero, List.set_cons_succ, i64_w, i32_w]
                rfl
               refine one_ (i := 4) (N := some 26) #[true, true, true, true, true, false, false, false, true, false, false] rfl rfl (one_of HT_.out (by kernel_rfl)) (by decide) (fun K hK => ?_)
               refine goes_ Try.func11 (by kernel_rfl) rfl #[.agg #[.int .i64 t193, .slice Ao48 t194.length co48], .agg #[.int .i64 t197, .int .i64 t198, .int .i64 t199]] (by rfl) rfl rfl zFEAC_mvE ?_
               with_reducible refine (spec_AddClue.calls k t193 _ _ t194 t197 t198 t199 t200 t201 t204 _ ?side1 ?side2 A12.out).mono ?_
               (case side1 => repeat (first | exact (Kd.R_reads' HO196.out).2.2 | (with_reducible refine Kd.C_alloc ?_ _) | (with_reducible refine Kd.C_drewN ?_ _) | (with_reducible refine Kd.C_drew ?_)))
               (case side2 => exact (Kd.R_reads' HO196.out).2.1)
               rintro e w49 ⟨v202, rfl, ho0, hb⟩
               refine ⟨_, rfl, ?_⟩
               have n0_ := Aside0.mk (Kd.R_elder' (zFEAC_mvR HO196) (Kd.R_base ho0) hb)
               have n1_ := Aside0.mk (Kd.R_lower (Kd.R_new' ho0 (Kd.R_lt (zFEAC_mvR HO196))) (below_size (zFEAC_mvH3 HB GE190 GE191 GE205)))
               have n2_ := Aside0.mk (blk_below (g := gb190) (o := .cells #[.int .i64 a0_0, .slice A0_1 l0_1.length c0_1] 24 (0, 0)) (zFEAC_mvB BK190) hb)
               have n3_ := Aside0.mk (blk_below (g := gb191) (o := .cells #[.int .i64 a1_0, .int .i64 a1_1, .int .i64 a1_2] 34 (0, 0)) (zFEAC_mvB BK191) hb)
               have n4_ := Aside0.mk (blk_below (g := gb205) (o := .cells #[.int .i64 0, .slice none 0 0] 29 (0, 0)) (zFEAC_mvB BK205) hb)
               have n5_ := Aside0.mk (below_step (zFEAC_mvH3 HB GE190 GE191 GE205) hb)
               clear HO196 BK190 BK191 BK205 HB
               have HO196 := n0_
               have HO203 := n1_
               have BK190 := n2_
               have BK191 := n3_
               have BK205 := n4_
               have HB := n5_
               clear n0_ n1_ n2_ n3_ n4_ n5_
               (try clear hb)
               (try clear hb2)
               (try clear hk)
               (try clear hi)
               (try clear ho0)
               refine hK.out _ _ ⟨(blk_cell BK190.out 0).trans rfl, (blk_cell BK190.out 1).trans rfl, (blk_cell BK191.out 0).trans rfl, (blk_cell BK191.out 1).trans rfl, (blk_cell BK191.out 2).trans rfl⟩ (fun hHeld => ?_)
               clear hK K
               refine norm_ (a' := ?_) ?_ ?_
               rotate_left
               ·show Act.put _ (some 26) _ = _
                simp only [Act.put, List.setIfInBounds_toArray, List.set_cons_zero, List.set_cons_succ, i64_w, i32_w]
                rfl
               refine pure_ (i := 5) (N := some 21) (v := ?_) (a' := ?_) #[true, true, true, true, true, true, false, false, true, false, false] rfl rfl (any_of HT_.out (by kernel_rfl)) (fun _ _ _ h => h) (Or.inl ⟨by rfl, ?_⟩) ?_ ?_
               rotate_left
               ·intro w'
                go_simp
                with_reducible rfl
               rotate_left
               ·simp only [Act.put, List.setIfInBounds_toArray, List.set_cons_zero, List.set_cons_succ, i64_w, i32_w]
                rfl
               refine pure_ (i := 6) (N := some 27) (v := ?_) (a' := ?_) #[true, true, true, true, true, true, true, false, true, false, false] rfl rfl (any_of HT_.out (by kernel_rfl)) (fun _ _ _ h => h) (Or.inl ⟨by rfl, ?_⟩) ?_ ?_
               rotate_left
               ·intro w'
                go_simp
                with_reducible rfl
               rotate_left
               ·simp only [Act.put, List.setIfInBounds_toArray, List.set_cons_zero, List.set_cons_succ, i64_w, i32_w]
                rfl
               refine pure_ (i := 7) (N := some 28) (v := ?_) (a' := ?_) #[true, true, true, true, true, true, true, true, true, false, false] rfl rfl (any_of HT_.out (by kernel_rfl)) (fun _ _ _ h => h) (Or.inl ⟨by rfl, ?_⟩) ?_ ?_
               rotate_left
               ·intro w'
                go_simp
                with_reducible rfl
               rotate_left
               ·simp only [Act.put, List.setIfInBounds_toArray, List.set_cons_zero, List.set_cons_succ, i64_w, i32_w]
                rfl
               exact norm_ (by simp only [putAll, Act.put, List.setIfInBounds_toArray, List.set_cons_zero, List.set_cons_succ]) (hCont (.slice Ao48 t194.length co48, v202, gb205) _ ⟨hHeld, (by (with_reducible repeat (first | apply Kd.R_alloc | apply Kd.R_drewN | apply Kd.R_drew)); exact Kd.R_mono HO196.out (fun _ hk => hk.2)), (by (with_reducible repeat (first | apply Kd.R_alloc | apply Kd.R_drewN | apply Kd.R_drew)); exact Kd.R_mono HO203.out (fun _ hk => hk.2)), (zFEAC_mvB BK190), (zFEAC_mvB BK191), (zFEAC_mvB BK205), GW205.out, GE205.out, NB190_205.out, NB205_190.out, NB191_205.out, NB205_191.out, (zFEAC_mvH3 HB GE190 GE191 GE205)⟩)
             rintro ⟨v195, v202, gb205⟩ w50 ⟨hS_, h0_, h1_, h2_, h3_, h4_, h5_, h6_, h7_, h8_, h9_, h10_, h11_⟩
             have n0_ : Aside0 (Kd.R k37 37 w50 w.heap.size (fun k_ => some k_ ≠ (v202 : Value).ownBlock) v195 t194) := ⟨h0_⟩
             have n1_ : Aside0 (Kd.R k37 37 w50 w.heap.size (fun k_ => some k_ ≠ (v195 : Value).ownBlock) v202 t201) := ⟨h1_⟩
             have n2_ : Aside0 (w50.heap[gb190]? = some (.cells #[.int .i64 a0_0, .slice A0_1 l0_1.length c0_1] 24 (0, 0))) := ⟨h2_⟩
             have n3_ : Aside0 (w50.heap[gb191]? = some (.cells #[.int .i64 a1_0, .int .i64 a1_1, .int .i64 a1_2] 34 (0, 0))) := ⟨h3_⟩
             have n4_ : Aside0 (w50.heap[gb205]? = some (.cells #[.int .i64 0, .slice none 0 0] 29 (0, 0))) := ⟨h4_⟩
             have n5_ : Aside0 (w.heap.size ≤ gb205) := ⟨h5_⟩
             have n6_ : Aside0 (w.heap.size ≤ gb205) := ⟨h6_⟩
             have n7_ : Aside0 (gb190 ≠ gb205) := ⟨h7_⟩
             have n8_ : Aside0 (gb205 ≠ gb190) := ⟨h8_⟩
             have n9_ : Aside0 (gb191 ≠ gb205) := ⟨h9_⟩
             have n10_ : Aside0 (gb205 ≠ gb191) := ⟨h10_⟩
             have n11_ : Aside0 (Below w.heap.size w w50) := ⟨h11_⟩
             clear BK190 BK191 HB
             clear h0_ h1_ h2_ h3_ h4_ h5_ h6_ h7_ h8_ h9_ h10_ h11_
             have HO196 := n0_
             have HO203 := n1_
             have BK190 := n2_
             have BK191 := n3_
             have BK205 := n4_
             have GW205 := n5_
             have GE205 := n6_
             have NB190_205 := n7_
             have NB205_190 := n8_
             have NB191_205 := n9_
             have NB205_191 := n10_
             have HB := n11_
             clear n0_ n1_ n2_ n3_ n4_ n5_ n6_ n7_ n8_ n9_ n10_ n11_
             have hHeld : w50.cell? ⟨gb190, 0, none⟩ = some (.int .i64 a0_0) ∧ w50.cell? ⟨gb190, 1, none⟩ = some (.slice A0_1 l0_1.length c0_1) ∧ w50.cell? ⟨gb191, 0, none⟩ = some (.int .i64 a1_0) ∧ w50.cell? ⟨gb191, 1, none⟩ = some (.int .i64 a1_1) ∧ w50.cell? ⟨gb191, 2, none⟩ = some (.int .i64 a1_2) := hS_
             obtain ⟨Ao52, co52, eo52⟩ := Kd.R_slice HO203.out
             (first | subst eo52 | (injection eo52 with f1_ f2_ f3_; have f4_ := f1_.symm; have f5_ := f3_.symm; clear f1_ f2_ f3_; subst f4_; subst f5_))
             refine norm_ (a' := ?_) ?_ ?_
             rotate_left
             ·simp only [putAll, Act.put, List.setIfInBounds_toArray, List.set_cons_zero, List.set_cons_succ]
              rfl
             refine one_ (i := 9) (N := none) #[true, true, true, true, true, true, true, true, true, true, false] rfl rfl (one_of HT_.out (by kernel_rfl)) (by decide) (fun K hK => ?_)
             have hs51 : w50.cell? ⟨gb205, 0, none⟩ = some (.int .i64 0) := (blk_cell BK205.out 0).trans rfl
             have hfs51 := blk_frozen BK205.out 0
             have hns51_0 := NB190_205.out
             have hns51_1 := NB191_205.out
             have hms51_0 := NB205_190.out
             have hms51_1 := NB205_191.out
             have hs53 : w50.cell? ⟨gb205, 1, none⟩ = some (.slice none 0 0) := (blk_cell BK205.out 1).trans rfl
             have hfs53 := blk_frozen BK205.out 1
             have hns53_0 := NB190_205.out
             have hns53_1 := NB191_205.out
             have hms53_0 := NB205_190.out
             have hms53_1 := NB205_191.out
             refine skip_ (w1 := ?_) (by rfl) rfl ?_ ?_
             rotate_left
             ·go_simp
              rfl
             refine hK.out _ _ ⟨((cell_far (p := ⟨gb205, _, none⟩) NB190_205.out _).trans (((cell_far (p := ⟨gb205, _, none⟩) NB190_205.out _).trans (hHeld.1)))), ((cell_far (p := ⟨gb205, _, none⟩) NB190_205.out _).trans (((cell_far (p := ⟨gb205, _, none⟩) NB190_205.out _).trans (hHeld.2.1)))), ((cell_far (p := ⟨gb205, _, none⟩) NB191_205.out _).trans (((cell_far (p := ⟨gb205, _, none⟩) NB191_205.out _).trans (hHeld.2.2.1)))), ((cell_far (p := ⟨gb205, _, none⟩) NB191_205.out _).trans (((cell_far (p := ⟨gb205, _, none⟩) NB191_205.out _).trans (hHeld.2.2.2.1)))), ((cell_far (p := ⟨gb205, _, none⟩) NB191_205.out _).trans (((cell_far (p := ⟨gb205, _, none⟩) NB191_205.out _).trans (hHeld.2.2.2.2))))⟩ (fun hHeld => ?_)
             clear hK K
             refine pure_ (i := 10) (N := some 7) (v := ?_) (a' := ?_) #[true, true, true, true, true, true, true, true, true, true, true] rfl rfl (any_of HT_.out (by kernel_rfl)) (fun _ _ _ h => h) (Or.inl ⟨by rfl, ?_⟩) ?_ ?_
             rotate_left
             ·intro w'
              go_simp
              with_reducible rfl
             rotate_left
             ·simp only [Act.put, List.setIfInBounds_toArray, List.set_cons_zero, List.set_cons_succ, i64_w, i32_w]
              rfl
             refine done_ (done_of HT_.out (by kernel_rfl)) ?_
             have hnb54 := NB190_205.out
             have hnc54 := NB205_190.out
             have hcz55_0 : w50.cell? ⟨gb190, 0, none⟩ = some (.int .i64 a0_0) := (blk_cell BK190.out 0).trans rfl
             have hcz55_1 : w50.cell? ⟨gb190, 1, none⟩ = some (.slice A0_1 l0_1.length c0_1) := (blk_cell BK190.out 1).trans rfl
             have hfz55_0 := blk_frozen BK190.out 0
             have hfz55_1 := blk_frozen BK190.out 1
             try go_wp2_with (first | ((with_reducible refine gate_callee (f := 8) rfl ?_); refine goesL_ (some 30) rfl rfl Try.func8 (by kernel_rfl) rfl #[.agg #[.int .i64 a0_0, .slice A0_1 l0_1.length c0_1]] rfl zFEAC_mvE ?_; (with_reducible refine (laws_toPuzzle.calls k a0_0 _ _ l0_1 t206 t207 _ ?side1 ?side2 A13.out).mono ?_); (case side1 => exact Kd.C_below HR0_1.out (zFEAC_mvH3 HB GE190 GE191 GE205)); (case side2 => exact HC0_1.out); rintro e w56 ⟨v208, rfl, ho0, hb⟩; refine ⟨_, rfl, ?_⟩; have n0_ := Aside0.mk (Kd.R_elder' (by (with_reducible repeat (first | apply Kd.R_alloc | apply Kd.R_drewN | apply Kd.R_drew)); exact (Kd.R_mono (Kd.R_far (p := ⟨gb205, 1, none⟩) (Kd.R_far (p := ⟨gb205, 0, none⟩) (Kd.R_types HO196.out BK205.out (by decide)) (fun _ hk => hk.2) (.int .i64 t200)) (fun _ hk => hk.2) (.slice Ao52 t201.length co52)) (fun _ h_ => h_.1))) (Kd.R_base ho0) hb); have n1_ := Aside0.mk (Kd.R_elder' (by (with_reducible repeat (first | apply Kd.R_alloc | apply Kd.R_drewN | apply Kd.R_drew)); exact (Kd.R_mono (Kd.R_far (p := ⟨gb205, 1, none⟩) (Kd.R_far (p := ⟨gb205, 0, none⟩) (Kd.R_types HO203.out BK205.out (by decide)) (fun _ hk => hk.2) (.int .i64 t200)) (fun _ hk => hk.2) (.slice Ao52 t201.length co52)) (fun _ h_ => h_.1))) (Kd.R_base ho0) hb); have n2_ := Aside0.mk (Kd.R_lower (Kd.R_new' (Kd.R_new' ho0 (Kd.R_lt (by (with_reducible repeat (first | apply Kd.R_alloc | apply Kd.R_drewN | apply Kd.R_drew)); exact (Kd.R_mono (Kd.R_far (p := ⟨gb205, 1, none⟩) (Kd.R_far (p := ⟨gb205, 0, none⟩) (Kd.R_types HO196.out BK205.out (by decide)) (fun _ hk => hk.2) (.int .i64 t200)) (fun _ hk => hk.2) (.slice Ao52 t201.length co52)) (fun _ h_ => h_.1))))) (Kd.R_lt (by (with_reducible repeat (first | apply Kd.R_alloc | apply Kd.R_drewN | apply Kd.R_drew)); exact (Kd.R_mono (Kd.R_far (p := ⟨gb205, 1, none⟩) (Kd.R_far (p := ⟨gb205, 0, none⟩) (Kd.R_types HO203.out BK205.out (by decide)) (fun _ hk => hk.2) (.int .i64 t200)) (fun _ hk => hk.2) (.slice Ao52 t201.length co52)) (fun _ h_ => h_.1))))) (below_size (zFEAC_mvH3 HB GE190 GE191 GE205))); have n3_ := Aside0.mk (blk_below (g := gb190) (o := .cells #[.int .i64 a0_0, .slice A0_1 l0_1.length c0_1] 24 (0, 0)) (by (with_reducible repeat (first | refine blk_drewN ?_ _ | refine blk_drew ?_ | refine blk_alloc ?_ _)); refine blk_far ?_ NB190_205.out _; (with_reducible repeat (first | refine blk_drewN ?_ _ | refine blk_drew ?_ | refine blk_alloc ?_ _)); refine blk_far ?_ NB190_205.out _; (with_reducible repeat (first | refine blk_drewN ?_ _ | refine blk_drew ?_ | refine blk_alloc ?_ _)); exact BK190.out) hb); have n4_ := Aside0.mk (blk_below (g := gb191) (o := .cells #[.int .i64 a1_0, .int .i64 a1_1, .int .i64 a1_2] 34 (0, 0)) (by (with_reducible repeat (first | refine blk_drewN ?_ _ | refine blk_drew ?_ | refine blk_alloc ?_ _)); refine blk_far ?_ NB191_205.out _; (with_reducible repeat (first | refine blk_drewN ?_ _ | refine blk_drew ?_ | refine blk_alloc ?_ _)); refine blk_far ?_ NB191_205.out _; (with_reducible repeat (first | refine blk_drewN ?_ _ | refine blk_drew ?_ | refine blk_alloc ?_ _)); exact BK191.out) hb); have n5_ := Aside0.mk (blk_below (g := gb205) (o := .cells #[.int .i64 t200, .slice Ao52 t201.length co52] 29 (0, 0)) (by (with_reducible repeat (first | refine blk_drewN ?_ _ | refine blk_drew ?_ | refine blk_alloc ?_ _)); refine blk_put (cs := #[.int .i64 t200, .slice none 0 0]) ?_ 1 _ rfl; (with_reducible repeat (first | refine blk_drewN ?_ _ | refine blk_drew ?_ | refine blk_alloc ?_ _)); refine blk_put (cs := #[.int .i64 0, .slice none 0 0]) ?_ 0 _ rfl; (with_reducible repeat (first | refine blk_drewN ?_ _ | refine blk_drew ?_ | refine blk_alloc ?_ _)); exact BK205.out) hb); have n6_ := Aside0.mk (below_step (zFEAC_mvH3 HB GE190 GE191 GE205) hb); clear HO196; clear HO203; clear BK190; clear BK191; clear BK205; clear HB; have HO196 := n0_; have HO203 := n1_; have HO209 := n2_; have BK190 := n3_; have BK191 := n4_; have BK205 := n5_; have HB := n6_; clear n0_ n1_ n2_ n3_ n4_ n5_ n6_; (try clear hb); (try clear hb2); (try clear hk); (try clear hi); (try clear ho0)) | ((with_reducible refine gate_dst (N := 8) rfl ?_); refine box_event ?hg (N := 8) ?hd (cs := #[.int .i64 0, .slice none 0 0]) (t := 29) ?hr ?_; (case hd => rfl); (case hg => rfl); (case hr => first | (go_simp; done) | (go_simp; rfl)); intro gb210 hg w57 hbox hb; have n0_ := Aside0.mk (Kd.R_below (zFEAC_mvR HO196) hb); have n1_ := Aside0.mk (Kd.R_below (zFEAC_mvR HO203) hb); have n2_ := Aside0.mk (Kd.R_below (zFEAC_mvR HO209) hb); have n3_ := Aside0.mk (blk_below (g := gb190) (o := .cells #[.int .i64 a0_0, .slice A0_1 l0_1.length c0_1] 24 (0, 0)) (zFEAC_mvB BK190) hb); have n4_ := Aside0.mk (blk_below (g := gb191) (o := .cells #[.int .i64 a1_0, .int .i64 a1_1, .int .i64 a1_2] 34 (0, 0)) (zFEAC_mvB BK191) hb); have n5_ := Aside0.mk (blk_below (g := gb205) (o := .cells #[.int .i64 t200, .slice Ao52 t201.length co52] 29 (0, 0)) (zFEAC_mvB BK205) hb); have n6_ := Aside0.mk (below_step (zFEAC_mvH3 HB GE190 GE191 GE205) hb); have n7_ := Aside0.mk (hbox); have n8_ := Aside0.mk ((by rw [hg]; exact (below_size (zFEAC_mvH3 HB GE190 GE191 GE205)) : w.heap.size ≤ gb210)); have n9_ := Aside0.mk ((by rw [hg]; exact (below_size (zFEAC_mvH3 HB GE190 GE191 GE205)) : w.heap.size ≤ gb210)); have n10_ := Aside0.mk ((by rw [hg]; exact Nat.ne_of_lt (blk_lt (g := gb190) (o := .cells #[.int .i64 a0_0, .slice A0_1 l0_1.length c0_1] 24 (0, 0)) (zFEAC_mvB BK190)) : gb190 ≠ gb210)); have n11_ := Aside0.mk ((by rw [hg]; exact Nat.ne_of_gt (blk_lt (g := gb190) (o := .cells #[.int .i64 a0_0, .slice A0_1 l0_1.length c0_1] 24 (0, 0)) (zFEAC_mvB BK190)) : gb210 ≠ gb190)); have n12_ := Aside0.mk ((by rw [hg]; exact Nat.ne_of_lt (blk_lt (g := gb191) (o := .cells #[.int .i64 a1_0, .int .i64 a1_1, .int .i64 a1_2] 34 (0, 0)) (zFEAC_mvB BK191)) : gb191 ≠ gb210)); have n13_ := Aside0.mk ((by rw [hg]; exact Nat.ne_of_gt (blk_lt (g := gb191) (o := .cells #[.int .i64 a1_0, .int .i64 a1_1, .int .i64 a1_2] 34 (0, 0)) (zFEAC_mvB BK191)) : gb210 ≠ gb191)); have n14_ := Aside0.mk ((by rw [hg]; exact Nat.ne_of_lt (blk_lt (g := gb205) (o := .cells #[.int .i64 t200, .slice Ao52 t201.length co52] 29 (0, 0)) (zFEAC_mvB BK205)) : gb205 ≠ gb210)); have n15_ := Aside0.mk ((by rw [hg]; exact Nat.ne_of_gt (blk_lt (g := gb205) (o := .cells #[.int .i64 t200, .slice Ao52 t201.length co52] 29 (0, 0)) (zFEAC_mvB BK205)) : gb210 ≠ gb205)); clear HO196; clear HO203; clear HO209; clear BK190; clear BK191; clear BK205; clear HB; have HO196 := n0_; have HO203 := n1_; have HO209 := n2_; have BK190 := n3_; have BK191 := n4_; have BK205 := n5_; have HB := n6_; have BK210 := n7_; have GW210 := n8_; have GE210 := n9_; have NB190_210 := n10_; have NB210_190 := n11_; have NB191_210 := n12_; have NB210_191 := n13_; have NB205_210 := n14_; have NB210_205 := n15_; clear n0_ n1_ n2_ n3_ n4_ n5_ n6_ n7_ n8_ n9_ n10_ n11_ n12_ n13_ n14_ n15_; clear hb hbox hg; have hnb58 := NB210_190.out; have hnc58 := NB190_210.out; have hnb59 := NB210_191.out; have hnc59 := NB191_210.out; have hnb60 := NB210_205.out; have hnc60 := NB205_210.out; have hcz61_0 : w57.cell? ⟨gb210, 0, none⟩ = some (.int .i64 0) := (blk_cell BK210.out 0).trans rfl; have hcz61_1 : w57.cell? ⟨gb210, 1, none⟩ = some (.slice none 0 0) := (blk_cell BK210.out 1).trans rfl; have hfz61_0 := blk_frozen BK210.out 0; have hfz61_1 := blk_frozen BK210.out 1; obtain ⟨Ao62, co62, eo62⟩ := Kd.R_slice HO209.out; subst eo62))
             have n0_ : Aside0 (Kd.R k37 37 ((w57.setCell ⟨gb210, 0, none⟩ (.int .i64 t206)).setCell ⟨gb210, 1, none⟩ (.slice Ao62 t207.length co62)) w.heap.size (fun k_ => some k_ ≠ (.slice Ao52 t201.length co52 : Value).ownBlock ∧ some k_ ≠ (.slice Ao62 t207.length co62 : Value).ownBlock) v195 t194) := ⟨by (with_reducible repeat (first | apply Kd.R_alloc | apply Kd.R_drewN | apply Kd.R_drew)); exact Kd.R_mono (Kd.R_far (p := ⟨gb210, 1, none⟩) (Kd.R_far (p := ⟨gb210, 0, none⟩) (Kd.R_types HO196.out BK210.out (by decide)) (fun _ hk => hk.2) (.int .i64 t206)) (fun _ hk => hk.2) (.slice Ao62 t207.length co62)) (fun _ hk => ⟨hk.1.1, hk.1.2⟩)⟩
             have n1_ : Aside0 (Kd.R k37 37 ((w57.setCell ⟨gb210, 0, none⟩ (.int .i64 t206)).setCell ⟨gb210, 1, none⟩ (.slice Ao62 t207.length co62)) w.heap.size (fun k_ => some k_ ≠ (v195 : Value).ownBlock ∧ some k_ ≠ (.slice Ao62 t207.length co62 : Value).ownBlock) (.slice Ao52 t201.length co52) t201) := ⟨by (with_reducible repeat (first | apply Kd.R_alloc | apply Kd.R_drewN | apply Kd.R_drew)); exact Kd.R_mono (Kd.R_far (p := ⟨gb210, 1, none⟩) (Kd.R_far (p := ⟨gb210, 0, none⟩) (Kd.R_types HO203.out BK210.out (by decide)) (fun _ hk => hk.2) (.int .i64 t206)) (fun _ hk => hk.2) (.slice Ao62 t207.length co62)) (fun _ hk => ⟨hk.1.1, hk.1.2⟩)⟩
             have n2_ : Aside0 (Kd.R k37 37 ((w57.setCell ⟨gb210, 0, none⟩ (.int .i64 t206)).setCell ⟨gb210, 1, none⟩ (.slice Ao62 t207.length co62)) w.heap.size (fun k_ => some k_ ≠ (v195 : Value).ownBlock ∧ some k_ ≠ (.slice Ao52 t201.length co52 : Value).ownBlock) (.slice Ao62 t207.length co62) t207) := ⟨by (with_reducible repeat (first | apply Kd.R_alloc | apply Kd.R_drewN | apply Kd.R_drew)); exact Kd.R_mono (Kd.R_far (p := ⟨gb210, 1, none⟩) (Kd.R_far (p := ⟨gb210, 0, none⟩) (Kd.R_types HO209.out BK210.out (by decide)) (fun _ hk => hk.2) (.int .i64 t206)) (fun _ hk => hk.2) (.slice Ao62 t207.length co62)) (fun _ hk => ⟨hk.1.1.2, hk.1.2⟩)⟩
             have n3_ : Aside0 (((w57.setCell ⟨gb210, 0, none⟩ (.int .i64 t206)).setCell ⟨gb210, 1, none⟩ (.slice Ao62 t207.length co62)).heap[gb190]? = some (.cells #[.int .i64 a0_0, .slice A0_1 l0_1.length c0_1] 24 (0, 0))) := ⟨by (with_reducible repeat (first | refine blk_drewN ?_ _ | refine blk_drew ?_ | refine blk_alloc ?_ _)); refine blk_far ?_ NB190_210.out _; (with_reducible repeat (first | refine blk_drewN ?_ _ | refine blk_drew ?_ | refine blk_alloc ?_ _)); refine blk_far ?_ NB190_210.out _; (with_reducible repeat (first | refine blk_drewN ?_ _ | refine blk_drew ?_ | refine blk_alloc ?_ _)); exact BK190.out⟩
             have n4_ : Aside0 (((w57.setCell ⟨gb210, 0, none⟩ (.int .i64 t206)).setCell ⟨gb210, 1, none⟩ (.slice Ao62 t207.length co62)).heap[gb191]? = some (.cells #[.int .i64 a1_0, .int .i64 a1_1, .int .i64 a1_2] 34 (0, 0))) := ⟨by (with_reducible repeat (first | refine blk_drewN ?_ _ | refine blk_drew ?_ | refine blk_alloc ?_ _)); refine blk_far ?_ NB191_210.out _; (with_reducible repeat (first | refine blk_drewN ?_ _ | refine blk_drew ?_ | refine blk_alloc ?_ _)); refine blk_far ?_ NB191_210.out _; (with_reducible repeat (first | refine blk_drewN ?_ _ | refine blk_drew ?_ | refine blk_alloc ?_ _)); exact BK191.out⟩
             have n5_ : Aside0 (((w57.setCell ⟨gb210, 0, none⟩ (.int .i64 t206)).setCell ⟨gb210, 1, none⟩ (.slice Ao62 t207.length co62)).heap[gb205]? = some (.cells #[.int .i64 t200, .slice Ao52 t201.length co52] 29 (0, 0))) := ⟨by (with_reducible repeat (first | refine blk_drewN ?_ _ | refine blk_drew ?_ | refine blk_alloc ?_ _)); refine blk_far ?_ NB205_210.out _; (with_reducible repeat (first | refine blk_drewN ?_ _ | refine blk_drew ?_ | refine blk_alloc ?_ _)); refine blk_far ?_ NB205_210.out _; (with_reducible repeat (first | refine blk_drewN ?_ _ | refine blk_drew ?_ | refine blk_alloc ?_ _)); exact BK205.out⟩
             have n6_ : Aside0 (((w57.setCell ⟨gb210, 0, none⟩ (.int .i64 t206)).setCell ⟨gb210, 1, none⟩ (.slice Ao62 t207.length co62)).heap[gb210]? = some (.cells #[.int .i64 t206, .slice Ao62 t207.length co62] 29 (0, 0))) := ⟨by (with_reducible repeat (first | refine blk_drewN ?_ _ | refine blk_drew ?_ | refine blk_alloc ?_ _)); refine blk_put (cs := #[.int .i64 t206, .slice none 0 0]) ?_ 1 _ rfl; (with_reducible repeat (first | refine blk_drewN ?_ _ | refine blk_drew ?_ | refine blk_alloc ?_ _)); refine blk_put (cs := #[.int .i64 0, .slice none 0 0]) ?_ 0 _ rfl; (with_reducible repeat (first | refine blk_drewN ?_ _ | refine blk_drew ?_ | refine blk_alloc ?_ _)); exact BK210.out⟩
             have n7_ : Aside0 (Below w.heap.size w ((w57.setCell ⟨gb210, 0, none⟩ (.int .i64 t206)).setCell ⟨gb210, 1, none⟩ (.slice Ao62 t207.length co62))) := ⟨by repeat (first | (with_reducible first | exact HB.out | apply below_alloc | apply pw_below_drewN | apply below_drew1 | refine below_set ?_ GE190.out | refine below_set ?_ GE191.out | refine below_set ?_ GE205.out | refine below_set ?_ GE210.out) | exact HB.out)⟩
             (try clear HO196)
             (try clear HO203)
             (try clear HO209)
             (try clear BK190)
             (try clear BK191)
             (try clear BK205)
             (try clear BK210)
             (try clear HB)
             generalize ((w57.setCell ⟨gb210, 0, none⟩ (.int .i64 t206)).setCell ⟨gb210, 1, none⟩ (.slice Ao62 t207.length co62)) = w63 at n0_ n1_ n2_ n3_ n4_ n5_ n6_ n7_ ⊢
             have HO196 := n0_
             have HO203 := n1_
             have HO209 := n2_
             have BK190 := n3_
             have BK191 := n4_
             have BK205 := n5_
             have BK210 := n6_
             have HB := n7_
             clear n0_ n1_ n2_ n3_ n4_ n5_ n6_ n7_
             have n0_ := Aside0.mk (Kd.R_drew HO196.out)
             have n1_ := Aside0.mk (Kd.R_drew HO203.out)
             have n2_ := Aside0.mk (Kd.R_drew HO209.out)
             have n3_ := Aside0.mk (blk_drew BK190.out)
             have n4_ := Aside0.mk (blk_drew BK191.out)
             have n5_ := Aside0.mk (blk_drew BK205.out)
             have n6_ := Aside0.mk (blk_drew BK210.out)
             have n7_ := Aside0.mk (below_drew1 HB.out)
             clear HO196 HO203 HO209 BK190 BK191 BK205 BK210 HB
             have HO196 := n0_
             have HO203 := n1_
             have HO209 := n2_
             have BK190 := n3_
             have BK191 := n4_
             have BK205 := n5_
             have BK210 := n6_
             have HB := n7_
             clear n0_ n1_ n2_ n3_ n4_ n5_ n6_ n7_
             refine start_ (n := 10) (S := fun w' => w'.cell? ⟨gb210, 0, none⟩ = some (.int .i64 t206) ∧ w'.cell? ⟨gb210, 1, none⟩ = some (.slice Ao62 t207.length co62) ∧ w'.cell? ⟨gb191, 0, none⟩ = some (.int .i64 a1_0) ∧ w'.cell? ⟨gb191, 1, none⟩ = some (.int .i64 a1_1) ∧ w'.cell? ⟨gb191, 2, none⟩ = some (.int .i64 a1_2)) (ds := []) #[false, false, false, false, false, false, false, false, false, false] (by kernel_rfl) rfl rfl ⟨(blk_cell BK210.out 0).trans rfl, (blk_cell BK210.out 1).trans rfl, (blk_cell BK191.out 0).trans rfl, (blk_cell BK191.out 1).trans rfl, (blk_cell BK191.out 2).trans rfl⟩ (fun hHeld => ?_); refine with_tabW laws_FnExactAddClue.tab7 laws_FnExactAddClue.bits7 (fun HT_ HW_ => ?_)
             generalize w63.drew = w64 at HO196 HO203 HO209 BK190 BK191 BK205 BK210 HB hHeld ⊢
             refine take_ (i := 0) (N := some 32) (v := ?_) (a' := ?_) #[true, false, false, false, false, false, false, false, false, false] rfl rfl (take_ofW HT_.out HW_.out (by kernel_rfl)) (fun _ _ _ h => h) (Or.inl ⟨by rfl, ?_⟩) hHeld ?_ ?_
             rotate_left
             ·rintro w' ⟨s0, s1, s2, s3, s4⟩
              go_simp
              with_reducible rfl
             rotate_left
             ·simp only [Act.put, List.setIfInBounds_toArray, List.set_cons_zero, List.set_cons_succ, i64_w, i32_w]
              rfl
             refine take_ (i := 1) (N := some 33) (v := ?_) (a' := ?_) #[true, true, false, false, false, false, false, false, false, false] rfl rfl (take_ofW HT_.out HW_.out (by kernel_rfl)) (fun _ _ _ h => h) (Or.inl ⟨by rfl, ?_⟩) hHeld ?_ ?_
             rotate_left
             ·rintro w' ⟨s0, s1, s2, s3, s4⟩
              go_simp
              with_reducible rfl
             rotate_left
             ·simp only [Act.put, List.setIfInBounds_toArray, List.set_cons_zero, List.set_cons_succ, i64_w, i32_w]
              rfl
             refine join_ (σ := Value × Nat) 2 #[true, true, true, true, true, true, true, true, false, false] (fun s_ => [(34, .agg #[.int .i64 t211, .int .i64 t212, .int .i64 t213]), (35, .tuple #[.agg #[.int .i64 t214, s_.1], .bool t218]), (9, .pointer (some ⟨s_.2, 0, none⟩)), (31, .tuple #[.agg #[.int .i64 t214, s_.1], .bool t218]), (36, .agg #[.int .i64 t214, s_.1]), (37, .bool t218)]) (fun s_ w' => (w'.cell? ⟨gb210, 0, none⟩ = some (.int .i64 t206) ∧ w'.cell? ⟨gb210, 1, none⟩ = some (.slice Ao62 t207.length co62) ∧ w'.cell? ⟨gb191, 0, none⟩ = some (.int .i64 a1_0) ∧ w'.cell? ⟨gb191, 1, none⟩ = some (.int .i64 a1_1) ∧ w'.cell? ⟨gb191, 2, none⟩ = some (.int .i64 a1_2)) ∧ (Kd.R k37 37 w' w.heap.size (fun k_ => some k_ ≠ (.slice Ao52 t201.length co52 : Value).ownBlock ∧ some k_ ≠ (.slice Ao62 t207.length co62 : Value).ownBlock ∧ some k_ ≠ (s_.1 : Value).ownBlock) v195 t194) ∧ (Kd.R k37 37 w' w.heap.size (fun k_ => some k_ ≠ (v195 : Value).ownBlock ∧ some k_ ≠ (.slice Ao62 t207.length co62 : Value).ownBlock ∧ some k_ ≠ (s_.1 : Value).ownBlock) (.slice Ao52 t201.length co52) t201) ∧ (Kd.R k37 37 w' w.heap.size (fun k_ => some k_ ≠ (v195 : Value).ownBlock ∧ some k_ ≠ (.slice Ao52 t201.length co52 : Value).ownBlock ∧ some k_ ≠ (s_.1 : Value).ownBlock) (.slice Ao62 t207.length co62) t207) ∧ (Kd.R k37 37 w' w.heap.size (fun k_ => some k_ ≠ (v195 : Value).ownBlock ∧ some k_ ≠ (.slice Ao52 t201.length co52 : Value).ownBlock ∧ some k_ ≠ (.slice Ao62 t207.length co62 : Value).ownBlock) s_.1 t215) ∧ (w'.heap[gb190]? = some (.cells #[.int .i64 a0_0, .slice A0_1 l0_1.length c0_1] 24 (0, 0))) ∧ (w'.heap[gb191]? = some (.cells #[.int .i64 a1_0, .int .i64 a1_1, .int .i64 a1_2] 34 (0, 0))) ∧ (w'.heap[gb205]? = some (.cells #[.int .i64 t200, .slice Ao52 t201.length co52] 29 (0, 0))) ∧ (w'.heap[gb210]? = some (.cells #[.int .i64 t206, .slice Ao62 t207.length co62] 29 (0, 0))) ∧ (w'.heap[s_.2]? = some (.cells #[.int .i64 0, .slice none 0 0] 29 (0, 0))) ∧ (w.heap.size ≤ s_.2) ∧ (w.heap.size ≤ s_.2) ∧ (gb190 ≠ s_.2) ∧ (s_.2 ≠ gb190) ∧ (gb191 ≠ s_.2) ∧ (s_.2 ≠ gb191) ∧ (gb205 ≠ s_.2) ∧ (s_.2 ≠ gb205) ∧ (gb210 ≠ s_.2) ∧ (s_.2 ≠ gb210) ∧ (Below w.heap.size w w')) ?_ ?_
             rotate_left
             ·intro hCont
              refine two_ (i := 2) (j := 7) (Ni := some 34) (Nj := some 9) #[true, true, true, false, false, false, false, false, false, false] #[true, true, false, false, false, false, false, true, false, false] rfl rfl rfl rfl (two_of HT_.out (by kernel_rfl)) (by decide) (by decide) (fun K hK => ?_) (fun K hK => ?_)
              ·skip
               refine goes_ Try.func12 (by kernel_rfl) rfl #[.agg #[.int .i64 a1_0, .int .i64 a1_1, .int .i64 a1_2]] (by rfl) rfl rfl zFEAC_mvE ?_
               with_reducible refine (laws_toClue.calls a1_0 a1_1 a1_2 t211 t212 t213 _ A14.out).mono ?_
               rintro e w65 ⟨rfl, hb⟩
               refine ⟨_, rfl, ?_⟩
               have n0_ := Aside0.mk (Kd.R_below (zFEAC_mvR HO196) hb)
               have n1_ := Aside0.mk (Kd.R_below (zFEAC_mvR HO203) hb)
               have n2_ := Aside0.mk (Kd.R_below (zFEAC_mvR HO209) hb)
               have n3_ := Aside0.mk (blk_below (g := gb190) (o := .cells #[.int .i64 a0_0, .slice A0_1 l0_1.length c0_1] 24 (0, 0)) (zFEAC_mvB BK190) hb)
               have n4_ := Aside0.mk (blk_below (g := gb191) (o := .cells #[.int .i64 a1_0, .int .i64 a1_1, .int .i64 a1_2] 34 (0, 0)) (zFEAC_mvB BK191) hb)
               have n5_ := Aside0.mk (blk_below (g := gb205) (o := .cells #[.int .i64 t200, .slice Ao52 t201.length co52] 29 (0, 0)) (zFEAC_mvB BK205) hb)
               have n6_ := Aside0.mk (blk_below (g := gb210) (o := .cells #[.int .i64 t206, .slice Ao62 t207.length co62] 29 (0, 0)) (zFEAC_mvB BK210) hb)
               have n7_ := Aside0.mk (below_step (zFEAC_mvH4 HB GE190 GE191 GE205 GE210) hb)
               clear HO196 HO203 HO209 BK190 BK191 BK205 BK210 HB
               have HO196 := n0_
               have HO203 := n1_
               have HO209 := n2_
               have BK190 := n3_
               have BK191 := n4_
               have BK205 := n5_
               have BK210 := n6_
               have HB := n7_
               clear n0_ n1_ n2_ n3_ n4_ n5_ n6_ n7_
               (try clear hb)
               (try clear hb2)
               (try clear hk)
               (try clear hi)
               refine hK.out _ _ ⟨(blk_cell BK210.out 0).trans rfl, (blk_cell BK210.out 1).trans rfl, (blk_cell BK191.out 0).trans rfl, (blk_cell BK191.out 1).trans rfl, (blk_cell BK191.out 2).trans rfl⟩ (fun hHeld => ?_)
               clear hK K
               refine norm_ (a' := ?_) ?_ ?_
               rotate_left
               ·show Act.put _ (some 34) _ = _
                simp only [Act.put, List.setIfInBounds_toArray, List.set_cons_zero, List.set_cons_succ, i64_w, i32_w]
                rfl
               refine two_ (i := 3) (j := 7) (Ni := some 35) (Nj := some 9) #[true, true, true, true, false, false, false, false, false, false] #[true, true, true, false, false, false, false, true, false, false] rfl rfl rfl rfl (two_of HT_.out (by kernel_rfl)) (by decide) (by decide) (fun K hK => ?_) (fun K hK => ?_)
               ·skip
                refine goes_ Try.func13 (by kernel_rfl) rfl #[.agg #[.int .i64 t206, .slice Ao62 t207.length co62], .agg #[.int .i64 t211, .int .i64 t212, .int .i64 t213]] (by rfl) rfl rfl zFEAC_mvE ?_
                with_reducible refine (impl_AddClue.calls k t206 _ _ t207 t211 t212 t213 t214 t215 t218 _ ?side1 ?side2 A15.out).mono ?_
                (case side1 => repeat (first | exact (Kd.R_reads' HO209.out).2.2 | (with_reducible refine Kd.C_alloc ?_ _) | (with_reducible refine Kd.C_drewN ?_ _) | (with_reducible refine Kd.C_drew ?_)))
                (case side2 => exact (Kd.R_reads' HO209.out).2.1)
                rintro e w66 ⟨v216, rfl, ho0, hb⟩
                refine ⟨_, rfl, ?_⟩
                have n0_ := Aside0.mk (Kd.R_elder' (zFEAC_mvR HO196) (Kd.R_base ho0) hb)
                have n1_ := Aside0.mk (Kd.R_elder' (zFEAC_mvR HO203) (Kd.R_base ho0) hb)
                have n2_ := Aside0.mk (Kd.R_elder' (zFEAC_mvR HO209) (Kd.R_base ho0) hb)
                have n3_ := Aside0.mk (Kd.R_lower (Kd.R_new' (Kd.R_new' (Kd.R_new' ho0 (Kd.R_lt (zFEAC_mvR HO196))) (Kd.R_lt (zFEAC_mvR HO203))) (Kd.R_lt (zFEAC_mvR HO209))) (below_size (zFEAC_mvH4 HB GE190 GE191 GE205 GE210)))
                have n4_ := Aside0.mk (blk_below (g := gb190) (o := .cells #[.int .i64 a0_0, .slice A0_1 l0_1.length c0_1] 24 (0, 0)) (zFEAC_mvB BK190) hb)
                have n5_ := Aside0.mk (blk_below (g := gb191) (o := .cells #[.int .i64 a1_0, .int .i64 a1_1, .int .i64 a1_2] 34 (0, 0)) (zFEAC_mvB BK191) hb)
                have n6_ := Aside0.mk (blk_below (g := gb205) (o := .cells #[.int .i64 t200, .slice Ao52 t201.length co52] 29 (0, 0)) (zFEAC_mvB BK205) hb)
                have n7_ := Aside0.mk (blk_below (g := gb210) (o := .cells #[.int .i64 t206, .slice Ao62 t207.length co62] 29 (0, 0)) (zFEAC_mvB BK210) hb)
                have n8_ := Aside0.mk (below_step (zFEAC_mvH4 HB GE190 GE191 GE205 GE210) hb)
                clear HO196 HO203 HO209 BK190 BK191 BK205 BK210 HB
                have HO196 := n0_
                have HO203 := n1_
                have HO209 := n2_
                have HO217 := n3_
                have BK190 := n4_
                have BK191 := n5_
                have BK205 := n6_
                have BK210 := n7_
                have HB := n8_
                clear n0_ n1_ n2_ n3_ n4_ n5_ n6_ n7_ n8_
                (try clear hb)
                (try clear hb2)
                (try clear hk)
                (try clear hi)
                (try clear ho0)
                refine hK.out _ _ ⟨(blk_cell BK210.out 0).trans rfl, (blk_cell BK210.out 1).trans rfl, (blk_cell BK191.out 0).trans rfl, (blk_cell BK191.out 1).trans rfl, (blk_cell BK191.out 2).trans rfl⟩ (fun hHeld => ?_)
                clear hK K
                refine norm_ (a' := ?_) ?_ ?_
                rotate_left
                ·show Act.put _ (some 35) _ = _
                 simp only [Act.put, List.setIfInBounds_toArray, List.set_cons_zero, List.set_cons_succ, i64_w, i32_w]
                 rfl
                refine pure_ (i := 4) (N := some 31) (v := ?_) (a' := ?_) #[true, true, true, true, true, false, false, false, false, false] rfl rfl (any_of HT_.out (by kernel_rfl)) (fun _ _ _ h => h) (Or.inl ⟨by rfl, ?_⟩) ?_ ?_
                rotate_left
                ·intro w'
                 go_simp
                 with_reducible rfl
                rotate_left
                ·simp only [Act.put, List.setIfInBounds_toArray, List.set_cons_zero, List.set_cons_succ, i64_w, i32_w]
                 rfl
                refine pure_ (i := 5) (N := some 36) (v := ?_) (a' := ?_) #[true, true, true, true, true, true, false, false, false, false] rfl rfl (any_of HT_.out (by kernel_rfl)) (fun _ _ _ h => h) (Or.inl ⟨by rfl, ?_⟩) ?_ ?_
                rotate_left
                ·intro w'
                 go_simp
                 with_reducible rfl
                rotate_left
                ·simp only [Act.put, List.setIfInBounds_toArray, List.set_cons_zero, List.set_cons_succ, i64_w, i32_w]
                 rfl
                refine pure_ (i := 6) (N := some 37) (v := ?_) (a' := ?_) #[true, true, true, true, true, true, true, false, false, false] rfl rfl (any_of HT_.out (by kernel_rfl)) (fun _ _ _ h => h) (Or.inl ⟨by rfl, ?_⟩) ?_ ?_
                rotate_left
                ·intro w'
                 go_simp
                 with_reducible rfl
                rotate_left
                ·simp only [Act.put, List.setIfInBounds_toArray, List.set_cons_zero, List.set_cons_succ, i64_w, i32_w]
                 rfl
                refine one_ (i := 7) (N := some 9) #[true, true, true, true, true, true, true, true, false, false] rfl rfl (one_of HT_.out (by kernel_rfl)) (by decide) (fun K hK => ?_)
                refine box_step ?hg (N := 9) ?hd (cs := #[.int .i64 0, .slice none 0 0]) (t := 29) ?hr ?_; (case hd => rfl); (case hg => rfl); (case hr => first | (go_simp; done) | (go_simp; rfl))
                intro gb219 hg w67 hbox hb
                have n0_ := Aside0.mk (Kd.R_below (zFEAC_mvR HO196) hb)
                have n1_ := Aside0.mk (Kd.R_below (zFEAC_mvR HO203) hb)
                have n2_ := Aside0.mk (Kd.R_below (zFEAC_mvR HO209) hb)
                have n3_ := Aside0.mk (Kd.R_below (zFEAC_mvR HO217) hb)
                have n4_ := Aside0.mk (blk_below (g := gb190) (o := .cells #[.int .i64 a0_0, .slice A0_1 l0_1.length c0_1] 24 (0, 0)) (zFEAC_mvB BK190) hb)
                have n5_ := Aside0.mk (blk_below (g := gb191) (o := .cells #[.int .i64 a1_0, .int .i64 a1_1, .int .i64 a1_2] 34 (0, 0)) (zFEAC_mvB BK191) hb)
                have n6_ := Aside0.mk (blk_below (g := gb205) (o := .cells #[.int .i64 t200, .slice Ao52 t201.length co52] 29 (0, 0)) (zFEAC_mvB BK205) hb)
                have n7_ := Aside0.mk (blk_below (g := gb210) (o := .cells #[.int .i64 t206, .slice Ao62 t207.length co62] 29 (0, 0)) (zFEAC_mvB BK210) hb)
                have n8_ := Aside0.mk (below_step (zFEAC_mvH4 HB GE190 GE191 GE205 GE210) hb)
                have n9_ := Aside0.mk (hbox)
                have n10_ := Aside0.mk ((by rw [hg]; exact (below_size (zFEAC_mvH4 HB GE190 GE191 GE205 GE210)) : w.heap.size ≤ gb219))
                have n11_ := Aside0.mk ((by rw [hg]; exact (below_size (zFEAC_mvH4 HB GE190 GE191 GE205 GE210)) : w.heap.size ≤ gb219))
                have n12_ := Aside0.mk ((by rw [hg]; exact Nat.ne_of_lt (blk_lt (g := gb190) (o := .cells #[.int .i64 a0_0, .slice A0_1 l0_1.length c0_1] 24 (0, 0)) (zFEAC_mvB BK190)) : gb190 ≠ gb219))
                have n13_ := Aside0.mk ((by rw [hg]; exact Nat.ne_of_gt (blk_lt (g := gb190) (o := .cells #[.int .i64 a0_0, .slice A0_1 l0_1.length c0_1] 24 (0, 0)) (zFEAC_mvB BK190)) : gb219 ≠ gb190))
                have n14_ := Aside0.mk ((by rw [hg]; exact Nat.ne_of_lt (blk_lt (g := gb191) (o := .cells #[.int .i64 a1_0, .int .i64 a1_1, .int .i64 a1_2] 34 (0, 0)) (zFEAC_mvB BK191)) : gb191 ≠ gb219))
                have n15_ := Aside0.mk ((by rw [hg]; exact Nat.ne_of_gt (blk_lt (g := gb191) (o := .cells #[.int .i64 a1_0, .int .i64 a1_1, .int .i64 a1_2] 34 (0, 0)) (zFEAC_mvB BK191)) : gb219 ≠ gb191))
                have n16_ := Aside0.mk ((by rw [hg]; exact Nat.ne_of_lt (blk_lt (g := gb205) (o := .cells #[.int .i64 t200, .slice Ao52 t201.length co52] 29 (0, 0)) (zFEAC_mvB BK205)) : gb205 ≠ gb219))
                have n17_ := Aside0.mk ((by rw [hg]; exact Nat.ne_of_gt (blk_lt (g := gb205) (o := .cells #[.int .i64 t200, .slice Ao52 t201.length co52] 29 (0, 0)) (zFEAC_mvB BK205)) : gb219 ≠ gb205))
                have n18_ := Aside0.mk ((by rw [hg]; exact Nat.ne_of_lt (blk_lt (g := gb210) (o := .cells #[.int .i64 t206, .slice Ao62 t207.length co62] 29 (0, 0)) (zFEAC_mvB BK210)) : gb210 ≠ gb219))
                have n19_ := Aside0.mk ((by rw [hg]; exact Nat.ne_of_gt (blk_lt (g := gb210) (o := .cells #[.int .i64 t206, .slice Ao62 t207.length co62] 29 (0, 0)) (zFEAC_mvB BK210)) : gb219 ≠ gb210))
                clear HO196 HO203 HO209 HO217 BK190 BK191 BK205 BK210 HB
                have HO196 := n0_
                have HO203 := n1_
                have HO209 := n2_
                have HO217 := n3_
                have BK190 := n4_
                have BK191 := n5_
                have BK205 := n6_
                have BK210 := n7_
                have HB := n8_
                have BK219 := n9_
                have GW219 := n10_
                have GE219 := n11_
                have NB190_219 := n12_
                have NB219_190 := n13_
                have NB191_219 := n14_
                have NB219_191 := n15_
                have NB205_219 := n16_
                have NB219_205 := n17_
                have NB210_219 := n18_
                have NB219_210 := n19_
                clear n0_ n1_ n2_ n3_ n4_ n5_ n6_ n7_ n8_ n9_ n10_ n11_ n12_ n13_ n14_ n15_ n16_ n17_ n18_ n19_
                clear hb hbox hg
                refine hK.out _ _ ⟨(blk_cell BK210.out 0).trans rfl, (blk_cell BK210.out 1).trans rfl, (blk_cell BK191.out 0).trans rfl, (blk_cell BK191.out 1).trans rfl, (blk_cell BK191.out 2).trans rfl⟩ (fun hHeld => ?_)
                clear hK K
                refine norm_ (a' := ?_) ?_ ?_
                rotate_left
                ·show Act.put _ (some 9) _ = _
                 simp only [Act.put, List.setIfInBounds_toArray, List.set_cons_zero, List.set_cons_succ, i64_w, i32_w]
                 rfl
                exact norm_ (by simp only [putAll, Act.put, List.setIfInBounds_toArray, List.set_cons_zero, List.set_cons_succ]) (hCont (v216, gb219) _ ⟨hHeld, (by (with_reducible repeat (first | apply Kd.R_alloc | apply Kd.R_drewN | apply Kd.R_drew)); exact Kd.R_mono HO196.out (fun _ hk => ⟨hk.1.1, ⟨hk.1.2, hk.2⟩⟩)), (by (with_reducible repeat (first | apply Kd.R_alloc | apply Kd.R_drewN | apply Kd.R_drew)); exact Kd.R_mono HO203.out (fun _ hk => ⟨hk.1.1, ⟨hk.1.2, hk.2⟩⟩)), (by (with_reducible repeat (first | apply Kd.R_alloc | apply Kd.R_drewN | apply Kd.R_drew)); exact Kd.R_mono HO209.out (fun _ hk => ⟨hk.1.1, ⟨hk.1.2, hk.2⟩⟩)), (by (with_reducible repeat (first | apply Kd.R_alloc | apply Kd.R_drewN | apply Kd.R_drew)); exact Kd.R_mono HO217.out (fun _ hk => ⟨hk.1.1.2, ⟨hk.1.2, hk.2⟩⟩)), (zFEAC_mvB BK190), (zFEAC_mvB BK191), (zFEAC_mvB BK205), (zFEAC_mvB BK210), (zFEAC_mvB BK219), GW219.out, GE219.out, NB190_219.out, NB219_190.out, NB191_219.out, NB219_191.out, NB205_219.out, NB219_205.out, NB210_219.out, NB219_210.out, (zFEAC_mvH5 HB GE190 GE191 GE205 GE210 GE219)⟩)
               ·skip
                refine box_step ?hg (N := 9) ?hd (cs := #[.int .i64 0, .slice none 0 0]) (t := 29) ?hr ?_; (case hd => rfl); (case hg => rfl); (case hr => first | (go_simp; done) | (go_simp; rfl))
                intro gb219 hg w66 hbox hb
                have n0_ := Aside0.mk (Kd.R_below (zFEAC_mvR HO196) hb)
                have n1_ := Aside0.mk (Kd.R_below (zFEAC_mvR HO203) hb)
                have n2_ := Aside0.mk (Kd.R_below (zFEAC_mvR HO209) hb)
                have n3_ := Aside0.mk (blk_below (g := gb190) (o := .cells #[.int .i64 a0_0, .slice A0_1 l0_1.length c0_1] 24 (0, 0)) (zFEAC_mvB BK190) hb)
                have n4_ := Aside0.mk (blk_below (g := gb191) (o := .cells #[.int .i64 a1_0, .int .i64 a1_1, .int .i64 a1_2] 34 (0, 0)) (zFEAC_mvB BK191) hb)
                have n5_ := Aside0.mk (blk_below (g := gb205) (o := .cells #[.int .i64 t200, .slice Ao52 t201.length co52] 29 (0, 0)) (zFEAC_mvB BK205) hb)
                have n6_ := Aside0.mk (blk_below (g := gb210) (o := .cells #[.int .i64 t206, .slice Ao62 t207.length co62] 29 (0, 0)) (zFEAC_mvB BK210) hb)
                have n7_ := Aside0.mk (below_step (zFEAC_mvH4 HB GE190 GE191 GE205 GE210) hb)
                have n8_ := Aside0.mk (hbox)
                have n9_ := Aside0.mk ((by rw [hg]; exact (below_size (zFEAC_mvH4 HB GE190 GE191 GE205 GE210)) : w.heap.size ≤ gb219))
                have n10_ := Aside0.mk ((by rw [hg]; exact (below_size (zFEAC_mvH4 HB GE190 GE191 GE205 GE210)) : w.heap.size ≤ gb219))
                have n11_ := Aside0.mk ((by rw [hg]; exact Nat.ne_of_lt (blk_lt (g := gb190) (o := .cells #[.int .i64 a0_0, .slice A0_1 l0_1.length c0_1] 24 (0, 0)) (zFEAC_mvB BK190)) : gb190 ≠ gb219))
                have n12_ := Aside0.mk ((by rw [hg]; exact Nat.ne_of_gt (blk_lt (g := gb190) (o := .cells #[.int .i64 a0_0, .slice A0_1 l0_1.length c0_1] 24 (0, 0)) (zFEAC_mvB BK190)) : gb219 ≠ gb190))
                have n13_ := Aside0.mk ((by rw [hg]; exact Nat.ne_of_lt (blk_lt (g := gb191) (o := .cells #[.int .i64 a1_0, .int .i64 a1_1, .int .i64 a1_2] 34 (0, 0)) (zFEAC_mvB BK191)) : gb191 ≠ gb219))
                have n14_ := Aside0.mk ((by rw [hg]; exact Nat.ne_of_gt (blk_lt (g := gb191) (o := .cells #[.int .i64 a1_0, .int .i64 a1_1, .int .i64 a1_2] 34 (0, 0)) (zFEAC_mvB BK191)) : gb219 ≠ gb191))
                have n15_ := Aside0.mk ((by rw [hg]; exact Nat.ne_of_lt (blk_lt (g := gb205) (o := .cells #[.int .i64 t200, .slice Ao52 t201.length co52] 29 (0, 0)) (zFEAC_mvB BK205)) : gb205 ≠ gb219))
                have n16_ := Aside0.mk ((by rw [hg]; exact Nat.ne_of_gt (blk_lt (g := gb205) (o := .cells #[.int .i64 t200, .slice Ao52 t201.length co52] 29 (0, 0)) (zFEAC_mvB BK205)) : gb219 ≠ gb205))
                have n17_ := Aside0.mk ((by rw [hg]; exact Nat.ne_of_lt (blk_lt (g := gb210) (o := .cells #[.int .i64 t206, .slice Ao62 t207.length co62] 29 (0, 0)) (zFEAC_mvB BK210)) : gb210 ≠ gb219))
                have n18_ := Aside0.mk ((by rw [hg]; exact Nat.ne_of_gt (blk_lt (g := gb210) (o := .cells #[.int .i64 t206, .slice Ao62 t207.length co62] 29 (0, 0)) (zFEAC_mvB BK210)) : gb219 ≠ gb210))
                clear HO196 HO203 HO209 BK190 BK191 BK205 BK210 HB
                have HO196 := n0_
                have HO203 := n1_
                have HO209 := n2_
                have BK190 := n3_
                have BK191 := n4_
                have BK205 := n5_
                have BK210 := n6_
                have HB := n7_
                have BK219 := n8_
                have GW219 := n9_
                have GE219 := n10_
                have NB190_219 := n11_
                have NB219_190 := n12_
                have NB191_219 := n13_
                have NB219_191 := n14_
                have NB205_219 := n15_
                have NB219_205 := n16_
                have NB210_219 := n17_
                have NB219_210 := n18_
                clear n0_ n1_ n2_ n3_ n4_ n5_ n6_ n7_ n8_ n9_ n10_ n11_ n12_ n13_ n14_ n15_ n16_ n17_ n18_
                clear hb hbox hg
                refine hK.out _ _ ⟨(blk_cell BK210.out 0).trans rfl, (blk_cell BK210.out 1).trans rfl, (blk_cell BK191.out 0).trans rfl, (blk_cell BK191.out 1).trans rfl, (blk_cell BK191.out 2).trans rfl⟩ (fun hHeld => ?_)
                clear hK K
                refine norm_ (a' := ?_) ?_ ?_
                rotate_left
                ·show Act.put _ (some 9) _ = _
                 simp only [Act.put, List.setIfInBounds_toArray, List.set_cons_zero, List.set_cons_succ, i64_w, i32_w]
                 rfl
                refine one_ (i := 3) (N := some 35) #[true, true, true, true, false, false, false, true, false, false] rfl rfl (one_of HT_.out (by kernel_rfl)) (by decide) (fun K hK => ?_)
                refine goes_ Try.func13 (by kernel_rfl) rfl #[.agg #[.int .i64 t206, .slice Ao62 t207.length co62], .agg #[.int .i64 t211, .int .i64 t212, .int .i64 t213]] (by rfl) rfl rfl zFEAC_mvE ?_
                with_reducible refine (impl_AddClue.calls k t206 _ _ t207 t211 t212 t213 t214 t215 t218 _ ?side1 ?side2 A15.out).mono ?_
                (case side1 => repeat (first | exact (Kd.R_reads' HO209.out).2.2 | (with_reducible refine Kd.C_alloc ?_ _) | (with_reducible refine Kd.C_drewN ?_ _) | (with_reducible refine Kd.C_drew ?_)))
                (case side2 => exact (Kd.R_reads' HO209.out).2.1)
                rintro e w67 ⟨v216, rfl, ho0, hb⟩
                refine ⟨_, rfl, ?_⟩
                have n0_ := Aside0.mk (Kd.R_elder' (zFEAC_mvR HO196) (Kd.R_base ho0) hb)
                have n1_ := Aside0.mk (Kd.R_elder' (zFEAC_mvR HO203) (Kd.R_base ho0) hb)
                have n2_ := Aside0.mk (Kd.R_elder' (zFEAC_mvR HO209) (Kd.R_base ho0) hb)
                have n3_ := Aside0.mk (Kd.R_lower (Kd.R_new' (Kd.R_new' (Kd.R_new' ho0 (Kd.R_lt (zFEAC_mvR HO196))) (Kd.R_lt (zFEAC_mvR HO203))) (Kd.R_lt (zFEAC_mvR HO209))) (below_size (zFEAC_mvH5 HB GE190 GE191 GE205 GE210 GE219)))
                have n4_ := Aside0.mk (blk_below (g := gb190) (o := .cells #[.int .i64 a0_0, .slice A0_1 l0_1.length c0_1] 24 (0, 0)) (zFEAC_mvB BK190) hb)
                have n5_ := Aside0.mk (blk_below (g := gb191) (o := .cells #[.int .i64 a1_0, .int .i64 a1_1, .int .i64 a1_2] 34 (0, 0)) (zFEAC_mvB BK191) hb)
                have n6_ := Aside0.mk (blk_below (g := gb205) (o := .cells #[.int .i64 t200, .slice Ao52 t201.length co52] 29 (0, 0)) (zFEAC_mvB BK205) hb)
                have n7_ := Aside0.mk (blk_below (g := gb210) (o := .cells #[.int .i64 t206, .slice Ao62 t207.length co62] 29 (0, 0)) (zFEAC_mvB BK210) hb)
                have n8_ := Aside0.mk (blk_below (g := gb219) (o := .cells #[.int .i64 0, .slice none 0 0] 29 (0, 0)) (zFEAC_mvB BK219) hb)
                have n9_ := Aside0.mk (below_step (zFEAC_mvH5 HB GE190 GE191 GE205 GE210 GE219) hb)
                clear HO196 HO203 HO209 BK190 BK191 BK205 BK210 BK219 HB
                have HO196 := n0_
                have HO203 := n1_
                have HO209 := n2_
                have HO217 := n3_
                have BK190 := n4_
                have BK191 := n5_
                have BK205 := n6_
                have BK210 := n7_
                have BK219 := n8_
                have HB := n9_
                clear n0_ n1_ n2_ n3_ n4_ n5_ n6_ n7_ n8_ n9_
                (try clear hb)
                (try clear hb2)
                (try clear hk)
                (try clear hi)
                (try clear ho0)
                refine hK.out _ _ ⟨(blk_cell BK210.out 0).trans rfl, (blk_cell BK210.out 1).trans rfl, (blk_cell BK191.out 0).trans rfl, (blk_cell BK191.out 1).trans rfl, (blk_cell BK191.out 2).trans rfl⟩ (fun hHeld => ?_)
                clear hK K
                refine norm_ (a' := ?_) ?_ ?_
                rotate_left
                ·show Act.put _ (some 35) _ = _
                 simp only [Act.put, List.setIfInBounds_toArray, List.set_cons_zero, List.set_cons_succ, i64_w, i32_w]
                 rfl
                refine pure_ (i := 4) (N := some 31) (v := ?_) (a' := ?_) #[true, true, true, true, true, false, false, true, false, false] rfl rfl (any_of HT_.out (by kernel_rfl)) (fun _ _ _ h => h) (Or.inl ⟨by rfl, ?_⟩) ?_ ?_
                rotate_left
                ·intro w'
                 go_simp
                 with_reducible rfl
                rotate_left
                ·simp only [Act.put, List.setIfInBounds_toArray, List.set_cons_zero, List.set_cons_succ, i64_w, i32_w]
                 rfl
                refine pure_ (i := 5) (N := some 36) (v := ?_) (a' := ?_) #[true, true, true, true, true, true, false, true, false, false] rfl rfl (any_of HT_.out (by kernel_rfl)) (fun _ _ _ h => h) (Or.inl ⟨by rfl, ?_⟩) ?_ ?_
                rotate_left
                ·intro w'
                 go_simp
                 with_reducible rfl
                rotate_left
                ·simp only [Act.put, List.setIfInBounds_toArray, List.set_cons_zero, List.set_cons_succ, i64_w, i32_w]
                 rfl
                refine pure_ (i := 6) (N := some 37) (v := ?_) (a' := ?_) #[true, true, true, true, true, true, true, true, false, false] rfl rfl (any_of HT_.out (by kernel_rfl)) (fun _ _ _ h => h) (Or.inl ⟨by rfl, ?_⟩) ?_ ?_
                rotate_left
                ·intro w'
                 go_simp
                 with_reducible rfl
                rotate_left
                ·simp only [Act.put, List.setIfInBounds_toArray, List.set_cons_zero, List.set_cons_succ, i64_w, i32_w]
                 rfl
                exact norm_ (by simp only [putAll, Act.put, List.setIfInBounds_toArray, List.set_cons_zero, List.set_cons_succ]) (hCont (v216, gb219) _ ⟨hHeld, (by (with_reducible repeat (first | apply Kd.R_alloc | apply Kd.R_drewN | apply Kd.R_drew)); exact Kd.R_mono HO196.out (fun _ hk => ⟨hk.1.1, ⟨hk.1.2, hk.2⟩⟩)), (by (with_reducible repeat (first | apply Kd.R_alloc | apply Kd.R_drewN | apply Kd.R_drew)); exact Kd.R_mono HO203.out (fun _ hk => ⟨hk.1.1, ⟨hk.1.2, hk.2⟩⟩)), (by (with_reducible repeat (first | apply Kd.R_alloc | apply Kd.R_drewN | apply Kd.R_drew)); exact Kd.R_mono HO209.out (fun _ hk => ⟨hk.1.1, ⟨hk.1.2, hk.2⟩⟩)), (by (with_reducible repeat (first | apply Kd.R_alloc | apply Kd.R_drewN | apply Kd.R_drew)); exact Kd.R_mono HO217.out (fun _ hk => ⟨hk.1.1.2, ⟨hk.1.2, hk.2⟩⟩)), (zFEAC_mvB BK190), (zFEAC_mvB BK191), (zFEAC_mvB BK205), (zFEAC_mvB BK210), (zFEAC_mvB BK219), GW219.out, GE219.out, NB190_219.out, NB219_190.out, NB191_219.out, NB219_191.out, NB205_219.out, NB219_205.out, NB210_219.out, NB219_210.out, (zFEAC_mvH5 HB GE190 GE191 GE205 GE210 GE219)⟩)
              ·skip
               refine box_step ?hg (N := 9) ?hd (cs := #[.int .i64 0, .slice none 0 0]) (t := 29) ?hr ?_; (case hd => rfl); (case hg => rfl); (case hr => first | (go_simp; done) | (go_simp; rfl))
               intro gb219 hg w65 hbox hb
               have n0_ := Aside0.mk (Kd.R_below (zFEAC_mvR HO196) hb)
               have n1_ := Aside0.mk (Kd.R_below (zFEAC_mvR HO203) hb)
               have n2_ := Aside0.mk (Kd.R_below (zFEAC_mvR HO209) hb)
               have n3_ := Aside0.mk (blk_below (g := gb190) (o := .cells #[.int .i64 a0_0, .slice A0_1 l0_1.length c0_1] 24 (0, 0)) (zFEAC_mvB BK190) hb)
               have n4_ := Aside0.mk (blk_below (g := gb191) (o := .cells #[.int .i64 a1_0, .int .i64 a1_1, .int .i64 a1_2] 34 (0, 0)) (zFEAC_mvB BK191) hb)
               have n5_ := Aside0.mk (blk_below (g := gb205) (o := .cells #[.int .i64 t200, .slice Ao52 t201.length co52] 29 (0, 0)) (zFEAC_mvB BK205) hb)
               have n6_ := Aside0.mk (blk_below (g := gb210) (o := .cells #[.int .i64 t206, .slice Ao62 t207.length co62] 29 (0, 0)) (zFEAC_mvB BK210) hb)
               have n7_ := Aside0.mk (below_step (zFEAC_mvH4 HB GE190 GE191 GE205 GE210) hb)
               have n8_ := Aside0.mk (hbox)
               have n9_ := Aside0.mk ((by rw [hg]; exact (below_size (zFEAC_mvH4 HB GE190 GE191 GE205 GE210)) : w.heap.size ≤ gb219))
               have n10_ := Aside0.mk ((by rw [hg]; exact (below_size (zFEAC_mvH4 HB GE190 GE191 GE205 GE210)) : w.heap.size ≤ gb219))
               have n11_ := Aside0.mk ((by rw [hg]; exact Nat.ne_of_lt (blk_lt (g := gb190) (o := .cells #[.int .i64 a0_0, .slice A0_1 l0_1.length c0_1] 24 (0, 0)) (zFEAC_mvB BK190)) : gb190 ≠ gb219))
               have n12_ := Aside0.mk ((by rw [hg]; exact Nat.ne_of_gt (blk_lt (g := gb190) (o := .cells #[.int .i64 a0_0, .slice A0_1 l0_1.length c0_1] 24 (0, 0)) (zFEAC_mvB BK190)) : gb219 ≠ gb190))
               have n13_ := Aside0.mk ((by rw [hg]; exact Nat.ne_of_lt (blk_lt (g := gb191) (o := .cells #[.int .i64 a1_0, .int .i64 a1_1, .int .i64 a1_2] 34 (0, 0)) (zFEAC_mvB BK191)) : gb191 ≠ gb219))
               have n14_ := Aside0.mk ((by rw [hg]; exact Nat.ne_of_gt (blk_lt (g := gb191) (o := .cells #[.int .i64 a1_0, .int .i64 a1_1, .int .i64 a1_2] 34 (0, 0)) (zFEAC_mvB BK191)) : gb219 ≠ gb191))
               have n15_ := Aside0.mk ((by rw [hg]; exact Nat.ne_of_lt (blk_lt (g := gb205) (o := .cells #[.int .i64 t200, .slice Ao52 t201.length co52] 29 (0, 0)) (zFEAC_mvB BK205)) : gb205 ≠ gb219))
               have n16_ := Aside0.mk ((by rw [hg]; exact Nat.ne_of_gt (blk_lt (g := gb205) (o := .cells #[.int .i64 t200, .slice Ao52 t201.length co52] 29 (0, 0)) (zFEAC_mvB BK205)) : gb219 ≠ gb205))
               have n17_ := Aside0.mk ((by rw [hg]; exact Nat.ne_of_lt (blk_lt (g := gb210) (o := .cells #[.int .i64 t206, .slice Ao62 t207.length co62] 29 (0, 0)) (zFEAC_mvB BK210)) : gb210 ≠ gb219))
               have n18_ := Aside0.mk ((by rw [hg]; exact Nat.ne_of_gt (blk_lt (g := gb210) (o := .cells #[.int .i64 t206, .slice Ao62 t207.length co62] 29 (0, 0)) (zFEAC_mvB BK210)) : gb219 ≠ gb210))
               clear HO196 HO203 HO209 BK190 BK191 BK205 BK210 HB
               have HO196 := n0_
               have HO203 := n1_
               have HO209 := n2_
               have BK190 := n3_
               have BK191 := n4_
               have BK205 := n5_
               have BK210 := n6_
               have HB := n7_
               have BK219 := n8_
               have GW219 := n9_
               have GE219 := n10_
               have NB190_219 := n11_
               have NB219_190 := n12_
               have NB191_219 := n13_
               have NB219_191 := n14_
               have NB205_219 := n15_
               have NB219_205 := n16_
               have NB210_219 := n17_
               have NB219_210 := n18_
               clear n0_ n1_ n2_ n3_ n4_ n5_ n6_ n7_ n8_ n9_ n10_ n11_ n12_ n13_ n14_ n15_ n16_ n17_ n18_
               clear hb hbox hg
               refine hK.out _ _ ⟨(blk_cell BK210.out 0).trans rfl, (blk_cell BK210.out 1).trans rfl, (blk_cell BK191.out 0).trans rfl, (blk_cell BK191.out 1).trans rfl, (blk_cell BK191.out 2).trans rfl⟩ (fun hHeld => ?_)
               clear hK K
               refine norm_ (a' := ?_) ?_ ?_
               rotate_left
               ·show Act.put _ (some 9) _ = _
                simp only [Act.put, List.setIfInBounds_toArray, List.set_cons_zero, List.set_cons_succ, i64_w, i32_w]
                rfl
               refine one_ (i := 2) (N := some 34) #[true, true, true, false, false, false, false, true, false, false] rfl rfl (one_of HT_.out (by kernel_rfl)) (by decide) (fun K hK => ?_)
               refine goes_ Try.func12 (by kernel_rfl) rfl #[.agg #[.int .i64 a1_0, .int .i64 a1_1, .int .i64 a1_2]] (by rfl) rfl rfl zFEAC_mvE ?_
               with_reducible refine (laws_toClue.calls a1_0 a1_1 a1_2 t211 t212 t213 _ A14.out).mono ?_
               rintro e w66 ⟨rfl, hb⟩
               refine ⟨_, rfl, ?_⟩
               have n0_ := Aside0.mk (Kd.R_below (zFEAC_mvR HO196) hb)
               have n1_ := Aside0.mk (Kd.R_below (zFEAC_mvR HO203) hb)
               have n2_ := Aside0.mk (Kd.R_below (zFEAC_mvR HO209) hb)
               have n3_ := Aside0.mk (blk_below (g := gb190) (o := .cells #[.int .i64 a0_0, .slice A0_1 l0_1.length c0_1] 24 (0, 0)) (zFEAC_mvB BK190) hb)
               have n4_ := Aside0.mk (blk_below (g := gb191) (o := .cells #[.int .i64 a1_0, .int .i64 a1_1, .int .i64 a1_2] 34 (0, 0)) (zFEAC_mvB BK191) hb)
               have n5_ := Aside0.mk (blk_below (g := gb205) (o := .cells #[.int .i64 t200, .slice Ao52 t201.length co52] 29 (0, 0)) (zFEAC_mvB BK205) hb)
               have n6_ := Aside0.mk (blk_below (g := gb210) (o := .cells #[.int .i64 t206, .slice Ao62 t207.length co62] 29 (0, 0)) (zFEAC_mvB BK210) hb)
               have n7_ := Aside0.mk (blk_below (g := gb219) (o := .cells #[.int .i64 0, .slice none 0 0] 29 (0, 0)) (zFEAC_mvB BK219) hb)
               have n8_ := Aside0.mk (below_step (zFEAC_mvH5 HB GE190 GE191 GE205 GE210 GE219) hb)
               clear HO196 HO203 HO209 BK190 BK191 BK205 BK210 BK219 HB
               have HO196 := n0_
               have HO203 := n1_
               have HO209 := n2_
               have BK190 := n3_
               have BK191 := n4_
               have BK205 := n5_
               have BK210 := n6_
               have BK219 := n7_
               have HB := n8_
               clear n0_ n1_ n2_ n3_ n4_ n5_ n6_ n7_ n8_
               (try clear hb)
               (try clear hb2)
               (try clear hk)
               (try clear hi)
               refine hK.out _ _ ⟨(blk_cell BK210.out 0).trans rfl, (blk_cell BK210.out 1).trans rfl, (blk_cell BK191.out 0).trans rfl, (blk_cell BK191.out 1).trans rfl, (blk_cell BK191.out 2).trans rfl⟩ (fun hHeld => ?_)
               clear hK K
               refine norm_ (a' := ?_) ?_ ?_
               rotate_left
               ·show Act.put _ (some 34) _ = _
                simp only [Act.put, List.setIfInBounds_toArray, List.set_cons_zero, List.set_cons_succ, i64_w, i32_w]
                rfl
               refine one_ (i := 3) (N := some 35) #[true, true, true, true, false, false, false, true, false, false] rfl rfl (one_of HT_.out (by kernel_rfl)) (by decide) (fun K hK => ?_)
               refine goes_ Try.func13 (by kernel_rfl) rfl #[.agg #[.int .i64 t206, .slice Ao62 t207.length co62], .agg #[.int .i64 t211, .int .i64 t212, .int .i64 t213]] (by rfl) rfl rfl zFEAC_mvE ?_
               with_reducible refine (impl_AddClue.calls k t206 _ _ t207 t211 t212 t213 t214 t215 t218 _ ?side1 ?side2 A15.out).mono ?_
               (case side1 => repeat (first | exact (Kd.R_reads' HO209.out).2.2 | (with_reducible refine Kd.C_alloc ?_ _) | (with_reducible refine Kd.C_drewN ?_ _) | (with_reducible refine Kd.C_drew ?_)))
               (case side2 => exact (Kd.R_reads' HO209.out).2.1)
               rintro e w67 ⟨v216, rfl, ho0, hb⟩
               refine ⟨_, rfl, ?_⟩
               have n0_ := Aside0.mk (Kd.R_elder' (zFEAC_mvR HO196) (Kd.R_base ho0) hb)
               have n1_ := Aside0.mk (Kd.R_elder' (zFEAC_mvR HO203) (Kd.R_base ho0) hb)
               have n2_ := Aside0.mk (Kd.R_elder' (zFEAC_mvR HO209) (Kd.R_base ho0) hb)
               have n3_ := Aside0.mk (Kd.R_lower (Kd.R_new' (Kd.R_new' (Kd.R_new' ho0 (Kd.R_lt (zFEAC_mvR HO196))) (Kd.R_lt (zFEAC_mvR HO203))) (Kd.R_lt (zFEAC_mvR HO209))) (below_size (zFEAC_mvH5 HB GE190 GE191 GE205 GE210 GE219)))
               have n4_ := Aside0.mk (blk_below (g := gb190) (o := .cells #[.int .i64 a0_0, .slice A0_1 l0_1.length c0_1] 24 (0, 0)) (zFEAC_mvB BK190) hb)
               have n5_ := Aside0.mk (blk_below (g := gb191) (o := .cells #[.int .i64 a1_0, .int .i64 a1_1, .int .i64 a1_2] 34 (0, 0)) (zFEAC_mvB BK191) hb)
               have n6_ := Aside0.mk (blk_below (g := gb205) (o := .cells #[.int .i64 t200, .slice Ao52 t201.length co52] 29 (0, 0)) (zFEAC_mvB BK205) hb)
               have n7_ := Aside0.mk (blk_below (g := gb210) (o := .cells #[.int .i64 t206, .slice Ao62 t207.length co62] 29 (0, 0)) (zFEAC_mvB BK210) hb)
               have n8_ := Aside0.mk (blk_below (g := gb219) (o := .cells #[.int .i64 0, .slice none 0 0] 29 (0, 0)) (zFEAC_mvB BK219) hb)
               have n9_ := Aside0.mk (below_step (zFEAC_mvH5 HB GE190 GE191 GE205 GE210 GE219) hb)
               clear HO196 HO203 HO209 BK190 BK191 BK205 BK210 BK219 HB
               have HO196 := n0_
               have HO203 := n1_
               have HO209 := n2_
               have HO217 := n3_
               have BK190 := n4_
               have BK191 := n5_
               have BK205 := n6_
               have BK210 := n7_
               have BK219 := n8_
               have HB := n9_
               clear n0_ n1_ n2_ n3_ n4_ n5_ n6_ n7_ n8_ n9_
               (try clear hb)
               (try clear hb2)
               (try clear hk)
               (try clear hi)
               (try clear ho0)
               refine hK.out _ _ ⟨(blk_cell BK210.out 0).trans rfl, (blk_cell BK210.out 1).trans rfl, (blk_cell BK191.out 0).trans rfl, (blk_cell BK191.out 1).trans rfl, (blk_cell BK191.out 2).trans rfl⟩ (fun hHeld => ?_)
               clear hK K
               refine norm_ (a' := ?_) ?_ ?_
               rotate_left
               ·show Act.put _ (some 35) _ = _
                simp only [Act.put, List.setIfInBounds_toArray, List.set_cons_zero, List.set_cons_succ, i64_w, i32_w]
                rfl
               refine pure_ (i := 4) (N := some 31) (v := ?_) (a' := ?_) #[true, true, true, true, true, false, false, true, false, false] rfl rfl (any_of HT_.out (by kernel_rfl)) (fun _ _ _ h => h) (Or.inl ⟨by rfl, ?_⟩) ?_ ?_
               rotate_left
               ·intro w'
                go_simp
                with_reducible rfl
               rotate_left
               ·simp only [Act.put, List.setIfInBounds_toArray, List.set_cons_zero, List.set_cons_succ, i64_w, i32_w]
                rfl
               refine pure_ (i := 5) (N := some 36) (v := ?_) (a' := ?_) #[true, true, true, true, true, true, false, true, false, false] rfl rfl (any_of HT_.out (by kernel_rfl)) (fun _ _ _ h => h) (Or.inl ⟨by rfl, ?_⟩) ?_ ?_
               rotate_left
               ·intro w'
                go_simp
                with_reducible rfl
               rotate_left
               ·simp only [Act.put, List.setIfInBounds_toArray, List.set_cons_zero, List.set_cons_succ, i64_w, i32_w]
                rfl
               refine pure_ (i := 6) (N := some 37) (v := ?_) (a' := ?_) #[true, true, true, true, true, true, true, true, false, false] rfl rfl (any_of HT_.out (by kernel_rfl)) (fun _ _ _ h => h) (Or.inl ⟨by rfl, ?_⟩) ?_ ?_
               rotate_left
               ·intro w'
                go_simp
                with_reducible rfl
               rotate_left
               ·simp only [Act.put, List.setIfInBounds_toArray, List.set_cons_zero, List.set_cons_succ, i64_w, i32_w]
                rfl
               exact norm_ (by simp only [putAll, Act.put, List.setIfInBounds_toArray, List.set_cons_zero, List.set_cons_succ]) (hCont (v216, gb219) _ ⟨hHeld, (by (with_reducible repeat (first | apply Kd.R_alloc | apply Kd.R_drewN | apply Kd.R_drew)); exact Kd.R_mono HO196.out (fun _ hk => ⟨hk.1.1, ⟨hk.1.2, hk.2⟩⟩)), (by (with_reducible repeat (first | apply Kd.R_alloc | apply Kd.R_drewN | apply Kd.R_drew)); exact Kd.R_mono HO203.out (fun _ hk => ⟨hk.1.1, ⟨hk.1.2, hk.2⟩⟩)), (by (with_reducible repeat (first | apply Kd.R_alloc | apply Kd.R_drewN | apply Kd.R_drew)); exact Kd.R_mono HO209.out (fun _ hk => ⟨hk.1.1, ⟨hk.1.2, hk.2⟩⟩)), (by (with_reducible repeat (first | apply Kd.R_alloc | apply Kd.R_drewN | apply Kd.R_drew)); exact Kd.R_mono HO217.out (fun _ hk => ⟨hk.1.1.2, ⟨hk.1.2, hk.2⟩⟩)), (zFEAC_mvB BK190), (zFEAC_mvB BK191), (zFEAC_mvB BK205), (zFEAC_mvB BK210), (zFEAC_mvB BK219), GW219.out, GE219.out, NB190_219.out, NB219_190.out, NB191_219.out, NB219_191.out, NB205_219.out, NB219_205.out, NB210_219.out, NB219_210.out, (zFEAC_mvH5 HB GE190 GE191 GE205 GE210 GE219)⟩)
             rintro ⟨v216, gb219⟩ w68 ⟨hS_, h0_, h1_, h2_, h3_, h4_, h5_, h6_, h7_, h8_, h9_, h10_, h11_, h12_, h13_, h14_, h15_, h16_, h17_, h18_, h19_⟩
             have n0_ : Aside0 (Kd.R k37 37 w68 w.heap.size (fun k_ => some k_ ≠ (.slice Ao52 t201.length co52 : Value).ownBlock ∧ some k_ ≠ (.slice Ao62 t207.length co62 : Value).ownBlock ∧ some k_ ≠ (v216 : Value).ownBlock) v195 t194) := ⟨h0_⟩
             have n1_ : Aside0 (Kd.R k37 37 w68 w.heap.size (fun k_ => some k_ ≠ (v195 : Value).ownBlock ∧ some k_ ≠ (.slice Ao62 t207.length co62 : Value).ownBlock ∧ some k_ ≠ (v216 : Value).ownBlock) (.slice Ao52 t201.length co52) t201) := ⟨h1_⟩
             have n2_ : Aside0 (Kd.R k37 37 w68 w.heap.size (fun k_ => some k_ ≠ (v195 : Value).ownBlock ∧ some k_ ≠ (.slice Ao52 t201.length co52 : Value).ownBlock ∧ some k_ ≠ (v216 : Value).ownBlock) (.slice Ao62 t207.length co62) t207) := ⟨h2_⟩
             have n3_ : Aside0 (Kd.R k37 37 w68 w.heap.size (fun k_ => some k_ ≠ (v195 : Value).ownBlock ∧ some k_ ≠ (.slice Ao52 t201.length co52 : Value).ownBlock ∧ some k_ ≠ (.slice Ao62 t207.length co62 : Value).ownBlock) v216 t215) := ⟨h3_⟩
             have n4_ : Aside0 (w68.heap[gb190]? = some (.cells #[.int .i64 a0_0, .slice A0_1 l0_1.length c0_1] 24 (0, 0))) := ⟨h4_⟩
             have n5_ : Aside0 (w68.heap[gb191]? = some (.cells #[.int .i64 a1_0, .int .i64 a1_1, .int .i64 a1_2] 34 (0, 0))) := ⟨h5_⟩
             have n6_ : Aside0 (w68.heap[gb205]? = some (.cells #[.int .i64 t200, .slice Ao52 t201.length co52] 29 (0, 0))) := ⟨h6_⟩
             have n7_ : Aside0 (w68.heap[gb210]? = some (.cells #[.int .i64 t206, .slice Ao62 t207.length co62] 29 (0, 0))) := ⟨h7_⟩
             have n8_ : Aside0 (w68.heap[gb219]? = some (.cells #[.int .i64 0, .slice none 0 0] 29 (0, 0))) := ⟨h8_⟩
             have n9_ : Aside0 (w.heap.size ≤ gb219) := ⟨h9_⟩
             have n10_ : Aside0 (w.heap.size ≤ gb219) := ⟨h10_⟩
             have n11_ : Aside0 (gb190 ≠ gb219) := ⟨h11_⟩
             have n12_ : Aside0 (gb219 ≠ gb190) := ⟨h12_⟩
             have n13_ : Aside0 (gb191 ≠ gb219) := ⟨h13_⟩
             have n14_ : Aside0 (gb219 ≠ gb191) := ⟨h14_⟩
             have n15_ : Aside0 (gb205 ≠ gb219) := ⟨h15_⟩
             have n16_ : Aside0 (gb219 ≠ gb205) := ⟨h16_⟩
             have n17_ : Aside0 (gb210 ≠ gb219) := ⟨h17_⟩
             have n18_ : Aside0 (gb219 ≠ gb210) := ⟨h18_⟩
             have n19_ : Aside0 (Below w.heap.size w w68) := ⟨h19_⟩
             clear HO196 HO203 HO209 BK190 BK191 BK205 BK210 HB
             clear h0_ h1_ h2_ h3_ h4_ h5_ h6_ h7_ h8_ h9_ h10_ h11_ h12_ h13_ h14_ h15_ h16_ h17_ h18_ h19_
             have HO196 := n0_
             have HO203 := n1_
             have HO209 := n2_
             have HO217 := n3_
             have BK190 := n4_
             have BK191 := n5_
             have BK205 := n6_
             have BK210 := n7_
             have BK219 := n8_
             have GW219 := n9_
             have GE219 := n10_
             have NB190_219 := n11_
             have NB219_190 := n12_
             have NB191_219 := n13_
             have NB219_191 := n14_
             have NB205_219 := n15_
             have NB219_205 := n16_
             have NB210_219 := n17_
             have NB219_210 := n18_
             have HB := n19_
             clear n0_ n1_ n2_ n3_ n4_ n5_ n6_ n7_ n8_ n9_ n10_ n11_ n12_ n13_ n14_ n15_ n16_ n17_ n18_ n19_
             have hHeld : w68.cell? ⟨gb210, 0, none⟩ = some (.int .i64 t206) ∧ w68.cell? ⟨gb210, 1, none⟩ = some (.slice Ao62 t207.length co62) ∧ w68.cell? ⟨gb191, 0, none⟩ = some (.int .i64 a1_0) ∧ w68.cell? ⟨gb191, 1, none⟩ = some (.int .i64 a1_1) ∧ w68.cell? ⟨gb191, 2, none⟩ = some (.int .i64 a1_2) := hS_
             obtain ⟨Ao70, co70, eo70⟩ := Kd.R_slice HO217.out
             (first | subst eo70 | (injection eo70 with f1_ f2_ f3_; have f4_ := f1_.symm; have f5_ := f3_.symm; clear f1_ f2_ f3_; subst f4_; subst f5_))
             refine norm_ (a' := ?_) ?_ ?_
             rotate_left
             ·simp only [putAll, Act.put, List.setIfInBounds_toArray, List.set_cons_zero, List.set_cons_succ]
              rfl
             refine one_ (i := 8) (N := none) #[true, true, true, true, true, true, true, true, true, false] rfl rfl (one_of HT_.out (by kernel_rfl)) (by decide) (fun K hK => ?_)
             have hs69 : w68.cell? ⟨gb219, 0, none⟩ = some (.int .i64 0) := (blk_cell BK219.out 0).trans rfl
             have hfs69 := blk_frozen BK219.out 0
             have hns69_0 := NB190_219.out
             have hns69_1 := NB191_219.out
             have hns69_2 := NB205_219.out
             have hns69_3 := NB210_219.out
             have hms69_0 := NB219_190.out
             have hms69_1 := NB219_191.out
             have hms69_2 := NB219_205.out
             have hms69_3 := NB219_210.out
             have hs71 : w68.cell? ⟨gb219, 1, none⟩ = some (.slice none 0 0) := (blk_cell BK219.out 1).trans rfl
             have hfs71 := blk_frozen BK219.out 1
             have hns71_0 := NB190_219.out
             have hns71_1 := NB191_219.out
             have hns71_2 := NB205_219.out
             have hns71_3 := NB210_219.out
             have hms71_0 := NB219_190.out
             have hms71_1 := NB219_191.out
             have hms71_2 := NB219_205.out
             have hms71_3 := NB219_210.out
             refine skip_ (w1 := ?_) (by rfl) rfl ?_ ?_
             rotate_left
             ·go_simp
              rfl
             refine hK.out _ _ ⟨((cell_far (p := ⟨gb219, _, none⟩) NB210_219.out _).trans (((cell_far (p := ⟨gb219, _, none⟩) NB210_219.out _).trans (hHeld.1)))), ((cell_far (p := ⟨gb219, _, none⟩) NB210_219.out _).trans (((cell_far (p := ⟨gb219, _, none⟩) NB210_219.out _).trans (hHeld.2.1)))), ((cell_far (p := ⟨gb219, _, none⟩) NB191_219.out _).trans (((cell_far (p := ⟨gb219, _, none⟩) NB191_219.out _).trans (hHeld.2.2.1)))), ((cell_far (p := ⟨gb219, _, none⟩) NB191_219.out _).trans (((cell_far (p := ⟨gb219, _, none⟩) NB191_219.out _).trans (hHeld.2.2.2.1)))), ((cell_far (p := ⟨gb219, _, none⟩) NB191_219.out _).trans (((cell_far (p := ⟨gb219, _, none⟩) NB191_219.out _).trans (hHeld.2.2.2.2))))⟩ (fun hHeld => ?_)
             clear hK K
             refine pure_ (i := 9) (N := some 10) (v := ?_) (a' := ?_) #[true, true, true, true, true, true, true, true, true, true] rfl rfl (any_of HT_.out (by kernel_rfl)) (fun _ _ _ h => h) (Or.inl ⟨by rfl, ?_⟩) ?_ ?_
             rotate_left
             ·intro w'
              go_simp
              with_reducible rfl
             rotate_left
             ·simp only [Act.put, List.setIfInBounds_toArray, List.set_cons_zero, List.set_cons_succ, i64_w, i32_w]
              rfl
             refine done_ (done_of HT_.out (by kernel_rfl)) ?_
             have hnb72 := NB219_190.out
             have hnc72 := NB190_219.out
             have hnb73 := NB219_191.out
             have hnc73 := NB191_219.out
             have hnb74 := NB219_205.out
             have hnc74 := NB205_219.out
             have hnb75 := NB219_210.out
             have hnc75 := NB210_219.out
             have hcz76_0 : w68.cell? ⟨gb219, 0, none⟩ = some (.int .i64 0) := (blk_cell BK219.out 0).trans rfl
             have hcz76_1 : w68.cell? ⟨gb219, 1, none⟩ = some (.slice none 0 0) := (blk_cell BK219.out 1).trans rfl
             have hfz76_0 := blk_frozen BK219.out 0
             have hfz76_1 := blk_frozen BK219.out 1
             have hnb77 := NB205_191.out
             have hnc77 := NB191_205.out
             have hcz78_0 : w68.cell? ⟨gb205, 0, none⟩ = some (.int .i64 t200) := (blk_cell BK205.out 0).trans rfl
             have hcz78_1 : w68.cell? ⟨gb205, 1, none⟩ = some (.slice Ao52 t201.length co52) := (blk_cell BK205.out 1).trans rfl
             have hfz78_0 := blk_frozen BK205.out 0
             have hfz78_1 := blk_frozen BK205.out 1
             try go_wp2_with (first | ((with_reducible refine gate_callee (f := 10) rfl ?_); refine goesL_ (some 40) rfl rfl Try.func10 (by kernel_rfl) rfl #[.agg #[.int .i64 t214, .slice Ao70 t215.length co70], .agg #[.int .i64 t200, .slice Ao52 t201.length co52]] rfl zFEAC_mvE ?_; (with_reducible refine (laws_eqPuzzle.calls k t214 _ _ t215 t200 _ _ t201 true _ ?side1 ?side2 ?side3 ?side4 A16.out).mono ?_); (case side1 => refine (Kd.R_reads' (e := 37) (base := w.heap.size) (ok := fun k_ => (some k_ ≠ (v195 : Value).ownBlock ∧ (some k_ ≠ (.slice Ao52 t201.length co52 : Value).ownBlock ∧ some k_ ≠ (.slice Ao62 t207.length co62 : Value).ownBlock))) (n := t215.length) (c := co70) ?_).2.2; exact (by (with_reducible repeat (first | apply Kd.R_alloc | apply Kd.R_drewN | apply Kd.R_drew)); exact (Kd.R_mono (Kd.R_far (p := ⟨gb219, 1, none⟩) (Kd.R_far (p := ⟨gb219, 0, none⟩) (Kd.R_types HO217.out BK219.out (by decide)) (fun _ hk => hk.2) (.int .i64 t214)) (fun _ hk => hk.2) (.slice Ao70 t215.length co70)) (fun _ h_ => h_.1)))); (case side2 => exact (Kd.R_reads' HO217.out).2.1); (case side3 => refine (Kd.R_reads' (e := 37) (base := w.heap.size) (ok := fun k_ => (some k_ ≠ (v195 : Value).ownBlock ∧ (some k_ ≠ (.slice Ao62 t207.length co62 : Value).ownBlock ∧ some k_ ≠ (.slice Ao70 t215.length co70 : Value).ownBlock))) (n := t201.length) (c := co52) ?_).2.2; exact (by (with_reducible repeat (first | apply Kd.R_alloc | apply Kd.R_drewN | apply Kd.R_drew)); exact (Kd.R_mono (Kd.R_far (p := ⟨gb219, 1, none⟩) (Kd.R_far (p := ⟨gb219, 0, none⟩) (Kd.R_types HO203.out BK219.out (by decide)) (fun _ hk => hk.2) (.int .i64 t214)) (fun _ hk => hk.2) (.slice Ao70 t215.length co70)) (fun _ h_ => h_.1)))); (case side4 => exact (Kd.R_reads' HO203.out).2.1); rintro e w79 ⟨rfl, hb⟩; refine ⟨_, rfl, ?_⟩; have n0_ := Aside0.mk (Kd.R_below (by (with_reducible repeat (first | apply Kd.R_alloc | apply Kd.R_drewN | apply Kd.R_drew)); exact (Kd.R_mono (Kd.R_far (p := ⟨gb219, 1, none⟩) (Kd.R_far (p := ⟨gb219, 0, none⟩) (Kd.R_types HO196.out BK219.out (by decide)) (fun _ hk => hk.2) (.int .i64 t214)) (fun _ hk => hk.2) (.slice Ao70 t215.length co70)) (fun _ h_ => h_.1))) hb); have n1_ := Aside0.mk (Kd.R_below (by (with_reducible repeat (first | apply Kd.R_alloc | apply Kd.R_drewN | apply Kd.R_drew)); exact (Kd.R_mono (Kd.R_far (p := ⟨gb219, 1, none⟩) (Kd.R_far (p := ⟨gb219, 0, none⟩) (Kd.R_types HO203.out BK219.out (by decide)) (fun _ hk => hk.2) (.int .i64 t214)) (fun _ hk => hk.2) (.slice Ao70 t215.length co70)) (fun _ h_ => h_.1))) hb); have n2_ := Aside0.mk (Kd.R_below (by (with_reducible repeat (first | apply Kd.R_alloc | apply Kd.R_drewN | apply Kd.R_drew)); exact (Kd.R_mono (Kd.R_far (p := ⟨gb219, 1, none⟩) (Kd.R_far (p := ⟨gb219, 0, none⟩) (Kd.R_types HO209.out BK219.out (by decide)) (fun _ hk => hk.2) (.int .i64 t214)) (fun _ hk => hk.2) (.slice Ao70 t215.length co70)) (fun _ h_ => h_.1))) hb); have n3_ := Aside0.mk (Kd.R_below (by (with_reducible repeat (first | apply Kd.R_alloc | apply Kd.R_drewN | apply Kd.R_drew)); exact (Kd.R_mono (Kd.R_far (p := ⟨gb219, 1, none⟩) (Kd.R_far (p := ⟨gb219, 0, none⟩) (Kd.R_types HO217.out BK219.out (by decide)) (fun _ hk => hk.2) (.int .i64 t214)) (fun _ hk => hk.2) (.slice Ao70 t215.length co70)) (fun _ h_ => h_.1))) hb); have n4_ := Aside0.mk (blk_below (g := gb190) (o := .cells #[.int .i64 a0_0, .slice A0_1 l0_1.length c0_1] 24 (0, 0)) (by (with_reducible repeat (first | refine blk_drewN ?_ _ | refine blk_drew ?_ | refine blk_alloc ?_ _)); refine blk_far ?_ NB190_219.out _; (with_reducible repeat (first | refine blk_drewN ?_ _ | refine blk_drew ?_ | refine blk_alloc ?_ _)); refine blk_far ?_ NB190_219.out _; (with_reducible repeat (first | refine blk_drewN ?_ _ | refine blk_drew ?_ | refine blk_alloc ?_ _)); exact BK190.out) hb); have n5_ := Aside0.mk (blk_below (g := gb191) (o := .cells #[.int .i64 a1_0, .int .i64 a1_1, .int .i64 a1_2] 34 (0, 0)) (by (with_reducible repeat (first | refine blk_drewN ?_ _ | refine blk_drew ?_ | refine blk_alloc ?_ _)); refine blk_far ?_ NB191_219.out _; (with_reducible repeat (first | refine blk_drewN ?_ _ | refine blk_drew ?_ | refine blk_alloc ?_ _)); refine blk_far ?_ NB191_219.out _; (with_reducible repeat (first | refine blk_drewN ?_ _ | refine blk_drew ?_ | refine blk_alloc ?_ _)); exact BK191.out) hb); have n6_ := Aside0.mk (blk_below (g := gb205) (o := .cells #[.int .i64 t200, .slice Ao52 t201.length co52] 29 (0, 0)) (by (with_reducible repeat (first | refine blk_drewN ?_ _ | refine blk_drew ?_ | refine blk_alloc ?_ _)); refine blk_far ?_ NB205_219.out _; (with_reducible repeat (first | refine blk_drewN ?_ _ | refine blk_drew ?_ | refine blk_alloc ?_ _)); refine blk_far ?_ NB205_219.out _; (with_reducible repeat (first | refine blk_drewN ?_ _ | refine blk_drew ?_ | refine blk_alloc ?_ _)); exact BK205.out) hb); have n7_ := Aside0.mk (blk_below (g := gb210) (o := .cells #[.int .i64 t206, .slice Ao62 t207.length co62] 29 (0, 0)) (by (with_reducible repeat (first | refine blk_drewN ?_ _ | refine blk_drew ?_ | refine blk_alloc ?_ _)); refine blk_far ?_ NB210_219.out _; (with_reducible repeat (first | refine blk_drewN ?_ _ | refine blk_drew ?_ | refine blk_alloc ?_ _)); refine blk_far ?_ NB210_219.out _; (with_reducible repeat (first | refine blk_drewN ?_ _ | refine blk_drew ?_ | refine blk_alloc ?_ _)); exact BK210.out) hb); have n8_ := Aside0.mk (blk_below (g := gb219) (o := .cells #[.int .i64 t214, .slice Ao70 t215.length co70] 29 (0, 0)) (by (with_reducible repeat (first | refine blk_drewN ?_ _ | refine blk_drew ?_ | refine blk_alloc ?_ _)); refine blk_put (cs := #[.int .i64 t214, .slice none 0 0]) ?_ 1 _ rfl; (with_reducible repeat (first | refine blk_drewN ?_ _ | refine blk_drew ?_ | refine blk_alloc ?_ _)); refine blk_put (cs := #[.int .i64 0, .slice none 0 0]) ?_ 0 _ rfl; (with_reducible repeat (first | refine blk_drewN ?_ _ | refine blk_drew ?_ | refine blk_alloc ?_ _)); exact BK219.out) hb); have n9_ := Aside0.mk (below_step (zFEAC_mvH5 HB GE190 GE191 GE205 GE210 GE219) hb); clear HO196; clear HO203; clear HO209; clear HO217; clear BK190; clear BK191; clear BK205; clear BK210; clear BK219; clear HB; have HO196 := n0_; have HO203 := n1_; have HO209 := n2_; have HO217 := n3_; have BK190 := n4_; have BK191 := n5_; have BK205 := n6_; have BK210 := n7_; have BK219 := n8_; have HB := n9_; clear n0_ n1_ n2_ n3_ n4_ n5_ n6_ n7_ n8_ n9_; (try clear hb); (try clear hb2); (try clear hk); (try clear hi)))
             have n0_ := Aside0.mk (Kd.R_drew HO196.out)
             have n1_ := Aside0.mk (Kd.R_drew HO203.out)
             have n2_ := Aside0.mk (Kd.R_drew HO209.out)
             have n3_ := Aside0.mk (Kd.R_drew HO217.out)
             have n4_ := Aside0.mk (blk_drew BK190.out)
             have n5_ := Aside0.mk (blk_drew BK191.out)
             have n6_ := Aside0.mk (blk_drew BK205.out)
             have n7_ := Aside0.mk (blk_drew BK210.out)
             have n8_ := Aside0.mk (blk_drew BK219.out)
             have n9_ := Aside0.mk (below_drew1 HB.out)
             clear HO196 HO203 HO209 HO217 BK190 BK191 BK205 BK210 BK219 HB
             have HO196 := n0_
             have HO203 := n1_
             have HO209 := n2_
             have HO217 := n3_
             have BK190 := n4_
             have BK191 := n5_
             have BK205 := n6_
             have BK210 := n7_
             have BK219 := n8_
             have HB := n9_
             clear n0_ n1_ n2_ n3_ n4_ n5_ n6_ n7_ n8_ n9_
             refine start_ (n := 5) (S := fun w' => w'.cell? ⟨gb210, 0, none⟩ = some (.int .i64 t206) ∧ w'.cell? ⟨gb210, 1, none⟩ = some (.slice Ao62 t207.length co62) ∧ w'.cell? ⟨gb190, 0, none⟩ = some (.int .i64 a0_0) ∧ w'.cell? ⟨gb190, 1, none⟩ = some (.slice A0_1 l0_1.length c0_1)) (ds := []) #[false, false, false, false, false] (by kernel_rfl) rfl rfl ⟨(blk_cell BK210.out 0).trans rfl, (blk_cell BK210.out 1).trans rfl, (blk_cell BK190.out 0).trans rfl, (blk_cell BK190.out 1).trans rfl⟩ (fun hHeld => ?_)
             generalize w79.drew = w80 at HO196 HO203 HO209 HO217 BK190 BK191 BK205 BK210 BK219 HB hHeld ⊢
             refine take_ (i := 0) (N := some 47) (v := ?_) (a' := ?_) #[true, false, false, false, false] rfl rfl (by kernel_rfl) (fun _ _ _ h => h) (Or.inl ⟨by rfl, ?_⟩) hHeld ?_ ?_
             rotate_left
             ·rintro w' ⟨s0, s1, s2, s3⟩
              go_simp
              with_reducible rfl
             rotate_left
             ·simp only [Act.put, List.setIfInBounds_toArray, List.set_cons_zero, List.set_cons_succ, i64_w, i32_w]
              rfl
             refine take_ (i := 1) (N := some 48) (v := ?_) (a' := ?_) #[true, true, false, false, false] rfl rfl (by kernel_rfl) (fun _ _ _ h => h) (Or.inl ⟨by rfl, ?_⟩) hHeld ?_ ?_
             rotate_left
             ·rintro w' ⟨s0, s1, s2, s3⟩
              go_simp
              with_reducible rfl
             rotate_left
             ·simp only [Act.put, List.setIfInBounds_toArray, List.set_cons_zero, List.set_cons_succ, i64_w, i32_w]
              rfl
             refine one_ (i := 2) (N := some 49) #[true, true, true, false, false] rfl rfl (by kernel_rfl) (by decide) (fun K hK => ?_)
             refine goes_ Try.func8 (by kernel_rfl) rfl #[.agg #[.int .i64 a0_0, .slice A0_1 l0_1.length c0_1]] (by rfl) rfl rfl zFEAC_mvE ?_
             with_reducible refine (laws_toPuzzle.calls k a0_0 _ _ l0_1 t221 t222 _ ?side1 ?side2 A19.out).mono ?_
             (case side1 => repeat (first | exact (Kd.C_below HR0_1.out HB.out) | (with_reducible refine Kd.C_alloc ?_ _) | (with_reducible refine Kd.C_drewN ?_ _) | (with_reducible refine Kd.C_drew ?_)))
             (case side2 => exact HC0_1.out)
             rintro e w81 ⟨v223, rfl, ho0, hb⟩
             refine ⟨_, rfl, ?_⟩
             have n0_ := Aside0.mk (Kd.R_elder' (zFEAC_mvR HO196) (Kd.R_base ho0) hb)
             have n1_ := Aside0.mk (Kd.R_elder' (zFEAC_mvR HO203) (Kd.R_base ho0) hb)
             have n2_ := Aside0.mk (Kd.R_elder' (zFEAC_mvR HO209) (Kd.R_base ho0) hb)
             have n3_ := Aside0.mk (Kd.R_elder' (zFEAC_mvR HO217) (Kd.R_base ho0) hb)
             have n4_ := Aside0.mk (Kd.R_lower (Kd.R_new' (Kd.R_new' (Kd.R_new' (Kd.R_new' ho0 (Kd.R_lt (zFEAC_mvR HO196))) (Kd.R_lt (zFEAC_mvR HO203))) (Kd.R_lt (zFEAC_mvR HO209))) (Kd.R_lt (zFEAC_mvR HO217))) (below_size (zFEAC_mvH5 HB GE190 GE191 GE205 GE210 GE219)))
             have n5_ := Aside0.mk (blk_below (g := gb190) (o := .cells #[.int .i64 a0_0, .slice A0_1 l0_1.length c0_1] 24 (0, 0)) (zFEAC_mvB BK190) hb)
             have n6_ := Aside0.mk (blk_below (g := gb191) (o := .cells #[.int .i64 a1_0, .int .i64 a1_1, .int .i64 a1_2] 34 (0, 0)) (zFEAC_mvB BK191) hb)
             have n7_ := Aside0.mk (blk_below (g := gb205) (o := .cells #[.int .i64 t200, .slice Ao52 t201.length co52] 29 (0, 0)) (zFEAC_mvB BK205) hb)
             have n8_ := Aside0.mk (blk_below (g := gb210) (o := .cells #[.int .i64 t206, .slice Ao62 t207.length co62] 29 (0, 0)) (zFEAC_mvB BK210) hb)
             have n9_ := Aside0.mk (blk_below (g := gb219) (o := .cells #[.int .i64 t214, .slice Ao70 t215.length co70] 29 (0, 0)) (zFEAC_mvB BK219) hb)
             have n10_ := Aside0.mk (below_step (zFEAC_mvH5 HB GE190 GE191 GE205 GE210 GE219) hb)
             clear HO196 HO203 HO209 HO217 BK190 BK191 BK205 BK210 BK219 HB
             have HO196 := n0_
             have HO203 := n1_
             have HO209 := n2_
             have HO217 := n3_
             have HO224 := n4_
             have BK190 := n5_
             have BK191 := n6_
             have BK205 := n7_
             have BK210 := n8_
             have BK219 := n9_
             have HB := n10_
             clear n0_ n1_ n2_ n3_ n4_ n5_ n6_ n7_ n8_ n9_ n10_
             (try clear hb)
             (try clear hb2)
             (try clear hk)
             (try clear hi)
             (try clear ho0)
             obtain ⟨Ao82, co82, eo82⟩ := Kd.R_slice HO224.out
             (first | subst eo82 | (injection eo82 with f1_ f2_ f3_; have f4_ := f1_.symm; have f5_ := f3_.symm; clear f1_ f2_ f3_; subst f4_; subst f5_))
             refine hK.out _ _ ⟨(blk_cell BK210.out 0).trans rfl, (blk_cell BK210.out 1).trans rfl, (blk_cell BK190.out 0).trans rfl, (blk_cell BK190.out 1).trans rfl⟩ (fun hHeld => ?_)
             clear hK K
             refine norm_ (a' := ?_) ?_ ?_
             rotate_left
             ·show Act.put _ (some 49) _ = _
              simp only [Act.put, List.setIfInBounds_toArray, List.set_cons_zero, List.set_cons_succ, i64_w, i32_w]
              rfl
             refine one_ (i := 3) (N := some 50) #[true, true, true, true, false] rfl rfl (by kernel_rfl) (by decide) (fun K hK => ?_)
             refine goes_ Try.func10 (by kernel_rfl) rfl #[.agg #[.int .i64 t206, .slice Ao62 t207.length co62], .agg #[.int .i64 t221, .slice Ao82 t222.length co82]] (by rfl) rfl rfl zFEAC_mvE ?_
             with_reducible refine (laws_eqPuzzle.calls k t206 _ _ t207 t221 _ _ t222 true _ ?side1 ?side2 ?side3 ?side4 A20.out).mono ?_
             (case side1 => repeat (first | exact (Kd.R_reads' HO209.out).2.2 | (with_reducible refine Kd.C_alloc ?_ _) | (with_reducible refine Kd.C_drewN ?_ _) | (with_reducible refine Kd.C_drew ?_)))
             (case side2 => exact (Kd.R_reads' HO209.out).2.1)
             (case side3 => repeat (first | exact (Kd.R_reads' HO224.out).2.2 | (with_reducible refine Kd.C_alloc ?_ _) | (with_reducible refine Kd.C_drewN ?_ _) | (with_reducible refine Kd.C_drew ?_)))
             (case side4 => exact (Kd.R_reads' HO224.out).2.1)
             rintro e w83 ⟨rfl, hb⟩
             refine ⟨_, rfl, ?_⟩
             have n0_ := Aside0.mk (Kd.R_below (zFEAC_mvR HO196) hb)
             have n1_ := Aside0.mk (Kd.R_below (zFEAC_mvR HO203) hb)
             have n2_ := Aside0.mk (Kd.R_below (zFEAC_mvR HO209) hb)
             have n3_ := Aside0.mk (Kd.R_below (zFEAC_mvR HO217) hb)
             have n4_ := Aside0.mk (Kd.R_below (zFEAC_mvR HO224) hb)
             have n5_ := Aside0.mk (blk_below (g := gb190) (o := .cells #[.int .i64 a0_0, .slice A0_1 l0_1.length c0_1] 24 (0, 0)) (zFEAC_mvB BK190) hb)
             have n6_ := Aside0.mk (blk_below (g := gb191) (o := .cells #[.int .i64 a1_0, .int .i64 a1_1, .int .i64 a1_2] 34 (0, 0)) (zFEAC_mvB BK191) hb)
             have n7_ := Aside0.mk (blk_below (g := gb205) (o := .cells #[.int .i64 t200, .slice Ao52 t201.length co52] 29 (0, 0)) (zFEAC_mvB BK205) hb)
             have n8_ := Aside0.mk (blk_below (g := gb210) (o := .cells #[.int .i64 t206, .slice Ao62 t207.length co62] 29 (0, 0)) (zFEAC_mvB BK210) hb)
             have n9_ := Aside0.mk (blk_below (g := gb219) (o := .cells #[.int .i64 t214, .slice Ao70 t215.length co70] 29 (0, 0)) (zFEAC_mvB BK219) hb)
             have n10_ := Aside0.mk (below_step (zFEAC_mvH5 HB GE190 GE191 GE205 GE210 GE219) hb)
             clear HO196 HO203 HO209 HO217 HO224 BK190 BK191 BK205 BK210 BK219 HB
             have HO196 := n0_
             have HO203 := n1_
             have HO209 := n2_
             have HO217 := n3_
             have HO224 := n4_
             have BK190 := n5_
             have BK191 := n6_
             have BK205 := n7_
             have BK210 := n8_
             have BK219 := n9_
             have HB := n10_
             clear n0_ n1_ n2_ n3_ n4_ n5_ n6_ n7_ n8_ n9_ n10_
             (try clear hb)
             (try clear hb2)
             (try clear hk)
             (try clear hi)
             refine hK.out _ _ ⟨(blk_cell BK210.out 0).trans rfl, (blk_cell BK210.out 1).trans rfl, (blk_cell BK190.out 0).trans rfl, (blk_cell BK190.out 1).trans rfl⟩ (fun hHeld => ?_)
             clear hK K
             refine norm_ (a' := ?_) ?_ ?_
             rotate_left
             ·show Act.put _ (some 50) _ = _
              simp only [Act.put, List.setIfInBounds_toArray, List.set_cons_zero, List.set_cons_succ, i64_w, i32_w]
              rfl
             refine pure_ (i := 4) (N := some 51) (v := ?_) (a' := ?_) #[true, true, true, true, true] rfl rfl (by kernel_rfl) (fun _ _ _ h => h) (Or.inl ⟨by rfl, ?_⟩) ?_ ?_
             rotate_left
             ·intro w'
              go_simp
              with_reducible rfl
             rotate_left
             ·simp only [Act.put, List.setIfInBounds_toArray, List.set_cons_zero, List.set_cons_succ, i64_w, i32_w]
              rfl
             refine done_ (by kernel_rfl) ?_
             have hcz84_0 : w83.cell? ⟨gb210, 0, none⟩ = some (.int .i64 t206) := (blk_cell BK210.out 0).trans rfl
             have hcz84_1 : w83.cell? ⟨gb210, 1, none⟩ = some (.slice Ao62 t207.length co62) := (blk_cell BK210.out 1).trans rfl
             have hfz84_0 := blk_frozen BK210.out 0
             have hfz84_1 := blk_frozen BK210.out 1
             try go_wp2_with (first | ((with_reducible refine gate_callee (f := 14) rfl ?_); refine goesL_ (some 54) rfl rfl Try.func14 (by kernel_rfl) rfl #[.agg #[.int .i64 t206, .slice Ao62 t207.length co62], .int .i64 1] rfl zFEAC_mvE ?_; (with_reducible refine (laws_markPuzzle.calls k t206 (fun k_ => some k_ = (.slice Ao62 t207.length co62 : Value).ownBlock) (.slice Ao62 t207.length co62) t207 1 t226 t227 w _ ?side1 ?side2 A22.out).mono ?_); (case side1 => repeat (first | (with_reducible first | exact HB.out | apply below_alloc | apply pw_below_drewN | apply below_drew1 | refine below_set ?_ GE190.out | refine below_set ?_ GE191.out | refine below_set ?_ GE205.out | refine below_set ?_ GE210.out | refine below_set ?_ GE219.out) | exact HB.out)); (case side2 => exact Kd.R_tight rfl HO209.out); rintro e w85 ⟨rfl, hy0, hb, hkp⟩; refine ⟨_, rfl, ?_⟩; have n0_ := Aside0.mk (blk_kept (zFEAC_mvB BK190) hkp (fun hs_ => (fun e_ => (Kd.R_ne HO209.out BK190.out (by decide)) e_) hs_)); have n1_ := Aside0.mk (blk_kept (zFEAC_mvB BK191) hkp (fun hs_ => (fun e_ => (Kd.R_ne HO209.out BK191.out (by decide)) e_) hs_)); have n2_ := Aside0.mk (Kd.R_mono (ok' := fun k_ => some k_ ≠ (.slice Ao52 t201.length co52 : Value).ownBlock ∧ some k_ ≠ (.slice Ao62 t207.length co62 : Value).ownBlock ∧ some k_ ≠ (.slice Ao70 t215.length co70 : Value).ownBlock ∧ some k_ ≠ (.slice Ao82 t222.length co82 : Value).ownBlock) (Kd.R_keptB (HO196.out) hkp (fun k_ hk_ hs_ => (hk_.1.2.1) hs_)) (fun k_ hk_ => ⟨hk_.1.1.1, hk_.1.1.2.1, hk_.1.1.2.2, hk_.1.2⟩)); have n3_ := Aside0.mk (Kd.R_mono (ok' := fun k_ => some k_ ≠ (v195 : Value).ownBlock ∧ some k_ ≠ (.slice Ao62 t207.length co62 : Value).ownBlock ∧ some k_ ≠ (.slice Ao70 t215.length co70 : Value).ownBlock ∧ some k_ ≠ (.slice Ao82 t222.length co82 : Value).ownBlock) (Kd.R_keptB (HO203.out) hkp (fun k_ hk_ hs_ => (hk_.1.2.1) hs_)) (fun k_ hk_ => ⟨hk_.1.1.1, hk_.1.1.2.1, hk_.1.1.2.2, hk_.1.2⟩)); have n4_ := Aside0.mk (blk_kept (zFEAC_mvB BK205) hkp (fun hs_ => (fun e_ => (Kd.R_ne HO209.out BK205.out (by decide)) e_) hs_)); have n5_ := Aside0.mk (Kd.R_reok rfl hy0 (fun k_ e_ => HO209.out.1 k_ e_)); have n6_ := Aside0.mk (blk_kept (zFEAC_mvB BK210) hkp (fun hs_ => (fun e_ => (Kd.R_ne HO209.out BK210.out (by decide)) e_) hs_)); have n7_ := Aside0.mk (Kd.R_mono (ok' := fun k_ => some k_ ≠ (v195 : Value).ownBlock ∧ some k_ ≠ (.slice Ao52 t201.length co52 : Value).ownBlock ∧ some k_ ≠ (.slice Ao62 t207.length co62 : Value).ownBlock ∧ some k_ ≠ (.slice Ao82 t222.length co82 : Value).ownBlock) (Kd.R_keptB (HO217.out) hkp (fun k_ hk_ hs_ => (hk_.1.2.2) hs_)) (fun k_ hk_ => ⟨hk_.1.1.1, hk_.1.1.2.1, hk_.1.1.2.2, hk_.1.2⟩)); have n8_ := Aside0.mk (blk_kept (zFEAC_mvB BK219) hkp (fun hs_ => (fun e_ => (Kd.R_ne HO209.out BK219.out (by decide)) e_) hs_)); have n9_ := Aside0.mk (Kd.R_mono (ok' := fun k_ => some k_ ≠ (v195 : Value).ownBlock ∧ some k_ ≠ (.slice Ao52 t201.length co52 : Value).ownBlock ∧ some k_ ≠ (.slice Ao62 t207.length co62 : Value).ownBlock ∧ some k_ ≠ (.slice Ao70 t215.length co70 : Value).ownBlock) (Kd.R_keptB (HO224.out) hkp (fun k_ hk_ hs_ => (hk_.1.2) hs_)) (fun k_ hk_ => ⟨hk_.1.1.1.1.2, hk_.1.1.1.2, hk_.1.1.2, hk_.1.2⟩)); have n10_ := Aside0.mk (hb); clear BK190; clear BK191; clear HO196; clear HO203; clear BK205; clear HO209; clear BK210; clear HO217; clear BK219; clear HO224; clear HB; have BK190 := n0_; have BK191 := n1_; have HO196 := n2_; have HO203 := n3_; have BK205 := n4_; have HO209 := n5_; have BK210 := n6_; have HO217 := n7_; have BK219 := n8_; have HO224 := n9_; have HB := n10_; clear n0_ n1_ n2_ n3_ n4_ n5_ n6_ n7_ n8_ n9_ n10_; (try clear hb); (try clear hkp); (try clear hy0); have hcz86_0 : w85.cell? ⟨gb219, 0, none⟩ = some (.int .i64 t214) := (blk_cell BK219.out 0).trans rfl; have hcz86_1 : w85.cell? ⟨gb219, 1, none⟩ = some (.slice Ao70 t215.length co70) := (blk_cell BK219.out 1).trans rfl; have hfz86_0 := blk_frozen BK219.out 0; have hfz86_1 := blk_frozen BK219.out 1; have hcz87_0 : w85.cell? ⟨gb205, 0, none⟩ = some (.int .i64 t200) := (blk_cell BK205.out 0).trans rfl; have hcz87_1 : w85.cell? ⟨gb205, 1, none⟩ = some (.slice Ao52 t201.length co52) := (blk_cell BK205.out 1).trans rfl; have hfz87_0 := blk_frozen BK205.out 0; have hfz87_1 := blk_frozen BK205.out 1) | (go_at_call 10; (with_reducible refine (laws_eqPuzzle.calls k t214 _ _ t215 t200 _ _ t201 true _ ?side1 ?side2 ?side3 ?side4 A24.out).mono ?_); (case side1 => repeat (first | exact (Kd.R_reads' HO217.out).2.2 | (with_reducible refine Kd.C_alloc ?_ _) | (with_reducible refine Kd.C_drewN ?_ _) | (with_reducible refine Kd.C_drew ?_))); (case side2 => exact (Kd.R_reads' HO217.out).2.1); (case side3 => repeat (first | exact (Kd.R_reads' HO203.out).2.2 | (with_reducible refine Kd.C_alloc ?_ _) | (with_reducible refine Kd.C_drewN ?_ _) | (with_reducible refine Kd.C_drew ?_))); (case side4 => exact (Kd.R_reads' HO203.out).2.1); rintro e w88 ⟨rfl, hb⟩; have n0_ := Aside0.mk (Kd.R_below (zFEAC_mvR HO196) hb); have n1_ := Aside0.mk (Kd.R_below (zFEAC_mvR HO203) hb); have n2_ := Aside0.mk (Kd.R_below (zFEAC_mvR HO209) hb); have n3_ := Aside0.mk (Kd.R_below (zFEAC_mvR HO217) hb); have n4_ := Aside0.mk (Kd.R_below (zFEAC_mvR HO224) hb); have n5_ := Aside0.mk (blk_below (g := gb190) (o := .cells #[.int .i64 a0_0, .slice A0_1 l0_1.length c0_1] 24 (0, 0)) (zFEAC_mvB BK190) hb); have n6_ := Aside0.mk (blk_below (g := gb191) (o := .cells #[.int .i64 a1_0, .int .i64 a1_1, .int .i64 a1_2] 34 (0, 0)) (zFEAC_mvB BK191) hb); have n7_ := Aside0.mk (blk_below (g := gb205) (o := .cells #[.int .i64 t200, .slice Ao52 t201.length co52] 29 (0, 0)) (zFEAC_mvB BK205) hb); have n8_ := Aside0.mk (blk_below (g := gb210) (o := .cells #[.int .i64 t206, .slice Ao62 t207.length co62] 29 (0, 0)) (zFEAC_mvB BK210) hb); have n9_ := Aside0.mk (blk_below (g := gb219) (o := .cells #[.int .i64 t214, .slice Ao70 t215.length co70] 29 (0, 0)) (zFEAC_mvB BK219) hb); have n10_ := Aside0.mk (below_step (zFEAC_mvH5 HB GE190 GE191 GE205 GE210 GE219) hb); clear HO196; clear HO203; clear HO209; clear HO217; clear HO224; clear BK190; clear BK191; clear BK205; clear BK210; clear BK219; clear HB; have HO196 := n0_; have HO203 := n1_; have HO209 := n2_; have HO217 := n3_; have HO224 := n4_; have BK190 := n5_; have BK191 := n6_; have BK205 := n7_; have BK210 := n8_; have BK219 := n9_; have HB := n10_; clear n0_ n1_ n2_ n3_ n4_ n5_ n6_ n7_ n8_ n9_ n10_; (try clear hb); (try clear hb2); (try clear hk); (try clear hi); have hcz89_0 : w88.cell? ⟨gb219, 0, none⟩ = some (.int .i64 t214) := (blk_cell BK219.out 0).trans rfl; have hcz89_1 : w88.cell? ⟨gb219, 1, none⟩ = some (.slice Ao70 t215.length co70) := (blk_cell BK219.out 1).trans rfl; have hfz89_0 := blk_frozen BK219.out 0; have hfz89_1 := blk_frozen BK219.out 1) | ((with_reducible refine gate_callee (f := 14) rfl ?_); refine goesL_ (some 70) rfl rfl Try.func14 (by kernel_rfl) rfl #[.agg #[.int .i64 t214, .slice Ao70 t215.length co70], .int .i64 1] rfl zFEAC_mvE ?_; (with_reducible refine (laws_markPuzzle.calls k t214 (fun k_ => some k_ = (.slice Ao70 t215.length co70 : Value).ownBlock) (.slice Ao70 t215.length co70) t215 1 t229 t230 w _ ?side1 ?side2 A26.out).mono ?_); (case side1 => repeat (first | (with_reducible first | exact HB.out | apply below_alloc | apply pw_below_drewN | apply below_drew1 | refine below_set ?_ GE190.out | refine below_set ?_ GE191.out | refine below_set ?_ GE205.out | refine below_set ?_ GE210.out | refine below_set ?_ GE219.out) | exact HB.out)); (case side2 => exact Kd.R_tight rfl HO217.out); rintro e w90 ⟨rfl, hy0, hb, hkp⟩; refine ⟨_, rfl, ?_⟩; have n0_ := Aside0.mk (blk_kept (zFEAC_mvB BK190) hkp (fun hs_ => (fun e_ => (Kd.R_ne HO217.out BK190.out (by decide)) e_) hs_)); have n1_ := Aside0.mk (blk_kept (zFEAC_mvB BK191) hkp (fun hs_ => (fun e_ => (Kd.R_ne HO217.out BK191.out (by decide)) e_) hs_)); have n2_ := Aside0.mk (Kd.R_mono (ok' := fun k_ => some k_ ≠ (.slice Ao52 t201.length co52 : Value).ownBlock ∧ some k_ ≠ (.slice Ao62 t207.length co62 : Value).ownBlock ∧ some k_ ≠ (.slice Ao70 t215.length co70 : Value).ownBlock ∧ some k_ ≠ (.slice Ao82 t222.length co82 : Value).ownBlock) (Kd.R_keptB (HO196.out) hkp (fun k_ hk_ hs_ => (hk_.2.2.1) hs_)) (fun k_ hk_ => ⟨hk_.1.1, hk_.1.2.1, hk_.1.2.2.1, hk_.1.2.2.2⟩)); have n3_ := Aside0.mk (Kd.R_mono (ok' := fun k_ => some k_ ≠ (v195 : Value).ownBlock ∧ some k_ ≠ (.slice Ao62 t207.length co62 : Value).ownBlock ∧ some k_ ≠ (.slice Ao70 t215.length co70 : Value).ownBlock ∧ some k_ ≠ (.slice Ao82 t222.length co82 : Value).ownBlock) (Kd.R_keptB (HO203.out) hkp (fun k_ hk_ hs_ => (hk_.2.2.1) hs_)) (fun k_ hk_ => ⟨hk_.1.1, hk_.1.2.1, hk_.1.2.2.1, hk_.1.2.2.2⟩)); have n4_ := Aside0.mk (blk_kept (zFEAC_mvB BK205) hkp (fun hs_ => (fun e_ => (Kd.R_ne HO217.out BK205.out (by decide)) e_) hs_)); have n5_ := Aside0.mk (Kd.R_mono (ok' := fun k_ => some k_ ≠ (v195 : Value).ownBlock ∧ some k_ ≠ (.slice Ao52 t201.length co52 : Value).ownBlock ∧ some k_ ≠ (.slice Ao70 t215.length co70 : Value).ownBlock ∧ some k_ ≠ (.slice Ao82 t222.length co82 : Value).ownBlock) (Kd.R_keptB (HO209.out) hkp (fun k_ hk_ hs_ => (hk_.1.2.2) hs_)) (fun k_ hk_ => ⟨hk_.1.1.1, hk_.1.1.2.1, hk_.1.1.2.2, hk_.1.2⟩)); have n6_ := Aside0.mk (blk_kept (zFEAC_mvB BK210) hkp (fun hs_ => (fun e_ => (Kd.R_ne HO217.out BK210.out (by decide)) e_) hs_)); have n7_ := Aside0.mk (Kd.R_reok rfl hy0 (fun k_ e_ => HO217.out.1 k_ e_)); have n8_ := Aside0.mk (blk_kept (zFEAC_mvB BK219) hkp (fun hs_ => (fun e_ => (Kd.R_ne HO217.out BK219.out (by decide)) e_) hs_)); have n9_ := Aside0.mk (Kd.R_mono (ok' := fun k_ => some k_ ≠ (v195 : Value).ownBlock ∧ some k_ ≠ (.slice Ao52 t201.length co52 : Value).ownBlock ∧ some k_ ≠ (.slice Ao62 t207.length co62 : Value).ownBlock ∧ some k_ ≠ (.slice Ao70 t215.length co70 : Value).ownBlock) (Kd.R_keptB (HO224.out) hkp (fun k_ hk_ hs_ => (hk_.2.2.2) hs_)) (fun k_ hk_ => ⟨hk_.1.1, hk_.1.2.1, hk_.1.2.2.1, hk_.1.2.2.2⟩)); have n10_ := Aside0.mk (hb); clear BK190; clear BK191; clear HO196; clear HO203; clear BK205; clear HO209; clear BK210; clear HO217; clear BK219; clear HO224; clear HB; have BK190 := n0_; have BK191 := n1_; have HO196 := n2_; have HO203 := n3_; have BK205 := n4_; have HO209 := n5_; have BK210 := n6_; have HO217 := n7_; have BK219 := n8_; have HO224 := n9_; have HB := n10_; clear n0_ n1_ n2_ n3_ n4_ n5_ n6_ n7_ n8_ n9_ n10_; (try clear hb); (try clear hkp); (try clear hy0); have hcz91_0 : w90.cell? ⟨gb219, 0, none⟩ = some (.int .i64 t214) := (blk_cell BK219.out 0).trans rfl; have hcz91_1 : w90.cell? ⟨gb219, 1, none⟩ = some (.slice Ao70 t215.length co70) := (blk_cell BK219.out 1).trans rfl; have hfz91_0 := blk_frozen BK219.out 0; have hfz91_1 := blk_frozen BK219.out 1) | ((with_reducible refine gate_callee (f := 15) rfl ?_); refine goesL_ (some 73) rfl rfl Try.func15 (by kernel_rfl) rfl #[.agg #[.int .i64 t214, .slice Ao70 t230.length co70], .int .i64 1] rfl (by (try simp only [List.map_toArray, List.map_cons, List.map_nil]); first | done | (rw [show t230.length = t215.length from (Kd.R_reads' HO217.out).1.symm] <;> rfl) | rfl | (simp only [List.length_drop, List.length_take]; rfl)) ?_; (with_reducible refine (laws_heldPuzzle.calls k t214 _ _ t230 1 t231 _ ?side1 ?side2 A27.out).mono ?_); (case side1 => repeat (first | exact (Kd.R_reads' HO217.out).2.2 | (with_reducible refine Kd.C_alloc ?_ _) | (with_reducible refine Kd.C_drewN ?_ _) | (with_reducible refine Kd.C_drew ?_))); (case side2 => rw [show t230.length = t215.length from (Kd.R_reads' HO217.out).1.symm]; exact (Kd.R_reads' HO217.out).2.1); rintro e w92 ⟨rfl, hb⟩; refine ⟨_, rfl, ?_⟩; have n0_ := Aside0.mk (Kd.R_below (zFEAC_mvR HO196) hb); have n1_ := Aside0.mk (Kd.R_below (zFEAC_mvR HO203) hb); have n2_ := Aside0.mk (Kd.R_below (zFEAC_mvR HO209) hb); have n3_ := Aside0.mk (Kd.R_below (zFEAC_mvR HO217) hb); have n4_ := Aside0.mk (Kd.R_below (zFEAC_mvR HO224) hb); have n5_ := Aside0.mk (blk_below (g := gb190) (o := .cells #[.int .i64 a0_0, .slice A0_1 l0_1.length c0_1] 24 (0, 0)) (zFEAC_mvB BK190) hb); have n6_ := Aside0.mk (blk_below (g := gb191) (o := .cells #[.int .i64 a1_0, .int .i64 a1_1, .int .i64 a1_2] 34 (0, 0)) (zFEAC_mvB BK191) hb); have n7_ := Aside0.mk (blk_below (g := gb205) (o := .cells #[.int .i64 t200, .slice Ao52 t201.length co52] 29 (0, 0)) (zFEAC_mvB BK205) hb); have n8_ := Aside0.mk (blk_below (g := gb210) (o := .cells #[.int .i64 t206, .slice Ao62 t207.length co62] 29 (0, 0)) (zFEAC_mvB BK210) hb); have n9_ := Aside0.mk (blk_below (g := gb219) (o := .cells #[.int .i64 t214, .slice Ao70 t215.length co70] 29 (0, 0)) (zFEAC_mvB BK219) hb); have n10_ := Aside0.mk (below_step (zFEAC_mvH5 HB GE190 GE191 GE205 GE210 GE219) hb); clear HO196; clear HO203; clear HO209; clear HO217; clear HO224; clear BK190; clear BK191; clear BK205; clear BK210; clear BK219; clear HB; have HO196 := n0_; have HO203 := n1_; have HO209 := n2_; have HO217 := n3_; have HO224 := n4_; have BK190 := n5_; have BK191 := n6_; have BK205 := n7_; have BK210 := n8_; have BK219 := n9_; have HB := n10_; clear n0_ n1_ n2_ n3_ n4_ n5_ n6_ n7_ n8_ n9_ n10_; (try clear hb); (try clear hb2); (try clear hk); (try clear hi)))
             have n0_ := Aside0.mk (Kd.R_drew HO196.out)
             have n1_ := Aside0.mk (Kd.R_drew HO203.out)
             have n2_ := Aside0.mk (Kd.R_drew HO209.out)
             have n3_ := Aside0.mk (Kd.R_drew HO217.out)
             have n4_ := Aside0.mk (Kd.R_drew HO224.out)
             have n5_ := Aside0.mk (blk_drew BK190.out)
             have n6_ := Aside0.mk (blk_drew BK191.out)
             have n7_ := Aside0.mk (blk_drew BK205.out)
             have n8_ := Aside0.mk (blk_drew BK210.out)
             have n9_ := Aside0.mk (blk_drew BK219.out)
             have n10_ := Aside0.mk (below_drew1 HB.out)
             clear HO196 HO203 HO209 HO217 HO224 BK190 BK191 BK205 BK210 BK219 HB
             have HO196 := n0_
             have HO203 := n1_
             have HO209 := n2_
             have HO217 := n3_
             have HO224 := n4_
             have BK190 := n5_
             have BK191 := n6_
             have BK205 := n7_
             have BK210 := n8_
             have BK219 := n9_
             have HB := n10_
             clear n0_ n1_ n2_ n3_ n4_ n5_ n6_ n7_ n8_ n9_ n10_
             refine start_ (n := 11) (S := fun w' => w'.cell? ⟨gb190, 0, none⟩ = some (.int .i64 a0_0) ∧ w'.cell? ⟨gb190, 1, none⟩ = some (.slice A0_1 l0_1.length c0_1) ∧ w'.cell? ⟨gb191, 0, none⟩ = some (.int .i64 a1_0) ∧ w'.cell? ⟨gb191, 1, none⟩ = some (.int .i64 a1_1) ∧ w'.cell? ⟨gb191, 2, none⟩ = some (.int .i64 a1_2)) (ds := []) #[false, false, false, false, false, false, false, false, false, false, false] (by kernel_rfl) rfl rfl ⟨(blk_cell BK190.out 0).trans rfl, (blk_cell BK190.out 1).trans rfl, (blk_cell BK191.out 0).trans rfl, (blk_cell BK191.out 1).trans rfl, (blk_cell BK191.out 2).trans rfl⟩ (fun hHeld => ?_); refine with_tabW laws_FnExactAddClue.tab24 laws_FnExactAddClue.bits24 (fun HT_ HW_ => ?_)
             generalize w92.drew = w93 at HO196 HO203 HO209 HO217 HO224 BK190 BK191 BK205 BK210 BK219 HB hHeld ⊢
             refine take_ (i := 0) (N := some 80) (v := ?_) (a' := ?_) #[true, false, false, false, false, false, false, false, false, false, false] rfl rfl (take_ofW HT_.out HW_.out (by kernel_rfl)) (fun _ _ _ h => h) (Or.inl ⟨by rfl, ?_⟩) hHeld ?_ ?_
             rotate_left
             ·rintro w' ⟨s0, s1, s2, s3, s4⟩
              go_simp
              with_reducible rfl
             rotate_left
             ·simp only [Act.put, List.setIfInBounds_toArray, List.set_cons_zero, List.set_cons_succ, i64_w, i32_w]
              rfl
             refine take_ (i := 2) (N := some 82) (v := ?_) (a' := ?_) #[true, false, true, false, false, false, false, false, false, false, false] rfl rfl (take_ofW HT_.out HW_.out (by kernel_rfl)) (fun _ _ _ h => h) (Or.inl ⟨by rfl, ?_⟩) hHeld ?_ ?_
             rotate_left
             ·rintro w' ⟨s0, s1, s2, s3, s4⟩
              go_simp
              with_reducible rfl
             rotate_left
             ·simp only [Act.put, List.setIfInBounds_toArray, List.set_cons_zero, List.set_cons_succ, i64_w, i32_w]
              rfl
             refine join_ (σ := Value × Value × Nat) 2 #[true, true, true, true, true, true, true, true, true, false, false] (fun s_ => [(81, .agg #[.int .i64 t232, s_.1]), (83, .agg #[.int .i64 t236, .int .i64 t237, .int .i64 t238]), (84, .tuple #[.agg #[.int .i64 t239, s_.2.1], .bool t243]), (14, .pointer (some ⟨s_.2.2, 0, none⟩)), (79, .tuple #[.agg #[.int .i64 t239, s_.2.1], .bool t243]), (85, .agg #[.int .i64 t239, s_.2.1]), (86, .bool t243)]) (fun s_ w' => (w'.cell? ⟨gb190, 0, none⟩ = some (.int .i64 a0_0) ∧ w'.cell? ⟨gb190, 1, none⟩ = some (.slice A0_1 l0_1.length c0_1) ∧ w'.cell? ⟨gb191, 0, none⟩ = some (.int .i64 a1_0) ∧ w'.cell? ⟨gb191, 1, none⟩ = some (.int .i64 a1_1) ∧ w'.cell? ⟨gb191, 2, none⟩ = some (.int .i64 a1_2)) ∧ (Kd.R k37 37 w' w.heap.size (fun k_ => some k_ ≠ (.slice Ao52 t201.length co52 : Value).ownBlock ∧ some k_ ≠ (.slice Ao62 t207.length co62 : Value).ownBlock ∧ some k_ ≠ (.slice Ao70 t215.length co70 : Value).ownBlock ∧ some k_ ≠ (.slice Ao82 t222.length co82 : Value).ownBlock ∧ some k_ ≠ (s_.1 : Value).ownBlock ∧ some k_ ≠ (s_.2.1 : Value).ownBlock) v195 t194) ∧ (Kd.R k37 37 w' w.heap.size (fun k_ => some k_ ≠ (v195 : Value).ownBlock ∧ some k_ ≠ (.slice Ao62 t207.length co62 : Value).ownBlock ∧ some k_ ≠ (.slice Ao70 t215.length co70 : Value).ownBlock ∧ some k_ ≠ (.slice Ao82 t222.length co82 : Value).ownBlock ∧ some k_ ≠ (s_.1 : Value).ownBlock ∧ some k_ ≠ (s_.2.1 : Value).ownBlock) (.slice Ao52 t201.length co52) t201) ∧ (Kd.R k37 37 w' w.heap.size (fun k_ => some k_ ≠ (v195 : Value).ownBlock ∧ some k_ ≠ (.slice Ao52 t201.length co52 : Value).ownBlock ∧ some k_ ≠ (.slice Ao70 t215.length co70 : Value).ownBlock ∧ some k_ ≠ (.slice Ao82 t222.length co82 : Value).ownBlock ∧ some k_ ≠ (s_.1 : Value).ownBlock ∧ some k_ ≠ (s_.2.1 : Value).ownBlock) (.slice Ao62 t207.length co62) t227) ∧ (Kd.R k37 37 w' w.heap.size (fun k_ => some k_ ≠ (v195 : Value).ownBlock ∧ some k_ ≠ (.slice Ao52 t201.length co52 : Value).ownBlock ∧ some k_ ≠ (.slice Ao62 t207.length co62 : Value).ownBlock ∧ some k_ ≠ (.slice Ao82 t222.length co82 : Value).ownBlock ∧ some k_ ≠ (s_.1 : Value).ownBlock ∧ some k_ ≠ (s_.2.1 : Value).ownBlock) (.slice Ao70 t215.length co70) t230) ∧ (Kd.R k37 37 w' w.heap.size (fun k_ => some k_ ≠ (v195 : Value).ownBlock ∧ some k_ ≠ (.slice Ao52 t201.length co52 : Value).ownBlock ∧ some k_ ≠ (.slice Ao62 t207.length co62 : Value).ownBlock ∧ some k_ ≠ (.slice Ao70 t215.length co70 : Value).ownBlock ∧ some k_ ≠ (s_.1 : Value).ownBlock ∧ some k_ ≠ (s_.2.1 : Value).ownBlock) (.slice Ao82 t222.length co82) t222) ∧ (Kd.R k37 37 w' w.heap.size (fun k_ => some k_ ≠ (v195 : Value).ownBlock ∧ some k_ ≠ (.slice Ao52 t201.length co52 : Value).ownBlock ∧ some k_ ≠ (.slice Ao62 t207.length co62 : Value).ownBlock ∧ some k_ ≠ (.slice Ao70 t215.length co70 : Value).ownBlock ∧ some k_ ≠ (.slice Ao82 t222.length co82 : Value).ownBlock ∧ some k_ ≠ (s_.2.1 : Value).ownBlock) s_.1 t233) ∧ (Kd.R k37 37 w' w.heap.size (fun k_ => some k_ ≠ (v195 : Value).ownBlock ∧ some k_ ≠ (.slice Ao52 t201.length co52 : Value).ownBlock ∧ some k_ ≠ (.slice Ao62 t207.length co62 : Value).ownBlock ∧ some k_ ≠ (.slice Ao70 t215.length co70 : Value).ownBlock ∧ some k_ ≠ (.slice Ao82 t222.length co82 : Value).ownBlock ∧ some k_ ≠ (s_.1 : Value).ownBlock) s_.2.1 t240) ∧ (w'.heap[gb190]? = some (.cells #[.int .i64 a0_0, .slice A0_1 l0_1.length c0_1] 24 (0, 0))) ∧ (w'.heap[gb191]? = some (.cells #[.int .i64 a1_0, .int .i64 a1_1, .int .i64 a1_2] 34 (0, 0))) ∧ (w'.heap[gb205]? = some (.cells #[.int .i64 t200, .slice Ao52 t201.length co52] 29 (0, 0))) ∧ (w'.heap[gb210]? = some (.cells #[.int .i64 t206, .slice Ao62 t207.length co62] 29 (0, 0))) ∧ (w'.heap[gb219]? = some (.cells #[.int .i64 t214, .slice Ao70 t215.length co70] 29 (0, 0))) ∧ (w'.heap[s_.2.2]? = some (.cells #[.int .i64 0, .slice none 0 0] 29 (0, 0))) ∧ (w.heap.size ≤ s_.2.2) ∧ (w.heap.size ≤ s_.2.2) ∧ (gb190 ≠ s_.2.2) ∧ (s_.2.2 ≠ gb190) ∧ (gb191 ≠ s_.2.2) ∧ (s_.2.2 ≠ gb191) ∧ (gb205 ≠ s_.2.2) ∧ (s_.2.2 ≠ gb205) ∧ (gb210 ≠ s_.2.2) ∧ (s_.2.2 ≠ gb210) ∧ (gb219 ≠ s_.2.2) ∧ (s_.2.2 ≠ gb219) ∧ (Below w.heap.size w w')) ?_ ?_
             rotate_left
             ·intro hCont
              refine two_ (i := 1) (j := 8) (Ni := some 81) (Nj := some 14) #[true, true, true, false, false, false, false, false, false, false, false] #[true, false, true, false, false, false, false, false, true, false, false] rfl rfl rfl rfl (two_of HT_.out (by kernel_rfl)) (by decide) (by decide) (fun K hK => ?_) (fun K hK => ?_)
              ·skip
               refine goes_ Try.func8 (by kernel_rfl) rfl #[.agg #[.int .i64 a0_0, .slice A0_1 l0_1.length c0_1]] (by rfl) rfl rfl zFEAC_mvE ?_
               with_reducible refine (laws_toPuzzle.calls k a0_0 _ _ l0_1 t232 t233 _ ?side1 ?side2 A30.out).mono ?_
               (case side1 => repeat (first | exact (Kd.C_below HR0_1.out HB.out) | (with_reducible refine Kd.C_alloc ?_ _) | (with_reducible refine Kd.C_drewN ?_ _) | (with_reducible refine Kd.C_drew ?_)))
               (case side2 => exact HC0_1.out)
               rintro e w94 ⟨v234, rfl, ho0, hb⟩
               refine ⟨_, rfl, ?_⟩
               have n0_ := Aside0.mk (Kd.R_elder' (zFEAC_mvR HO196) (Kd.R_base ho0) hb)
               have n1_ := Aside0.mk (Kd.R_elder' (zFEAC_mvR HO203) (Kd.R_base ho0) hb)
               have n2_ := Aside0.mk (Kd.R_elder' (zFEAC_mvR HO209) (Kd.R_base ho0) hb)
               have n3_ := Aside0.mk (Kd.R_elder' (zFEAC_mvR HO217) (Kd.R_base ho0) hb)
               have n4_ := Aside0.mk (Kd.R_elder' (zFEAC_mvR HO224) (Kd.R_base ho0) hb)
               have n5_ := Aside0.mk (Kd.R_lower (Kd.R_new' (Kd.R_new' (Kd.R_new' (Kd.R_new' (Kd.R_new' ho0 (Kd.R_lt (zFEAC_mvR HO196))) (Kd.R_lt (zFEAC_mvR HO203))) (Kd.R_lt (zFEAC_mvR HO209))) (Kd.R_lt (zFEAC_mvR HO217))) (Kd.R_lt (zFEAC_mvR HO224))) (below_size (zFEAC_mvH5 HB GE190 GE191 GE205 GE210 GE219)))
               have n6_ := Aside0.mk (blk_below (g := gb190) (o := .cells #[.int .i64 a0_0, .slice A0_1 l0_1.length c0_1] 24 (0, 0)) (zFEAC_mvB BK190) hb)
               have n7_ := Aside0.mk (blk_below (g := gb191) (o := .cells #[.int .i64 a1_0, .int .i64 a1_1, .int .i64 a1_2] 34 (0, 0)) (zFEAC_mvB BK191) hb)
               have n8_ := Aside0.mk (blk_below (g := gb205) (o := .cells #[.int .i64 t200, .slice Ao52 t201.length co52] 29 (0, 0)) (zFEAC_mvB BK205) hb)
               have n9_ := Aside0.mk (blk_below (g := gb210) (o := .cells #[.int .i64 t206, .slice Ao62 t207.length co62] 29 (0, 0)) (zFEAC_mvB BK210) hb)
               have n10_ := Aside0.mk (blk_below (g := gb219) (o := .cells #[.int .i64 t214, .slice Ao70 t215.length co70] 29 (0, 0)) (zFEAC_mvB BK219) hb)
               have n11_ := Aside0.mk (below_step (zFEAC_mvH5 HB GE190 GE191 GE205 GE210 GE219) hb)
               clear HO196 HO203 HO209 HO217 HO224 BK190 BK191 BK205 BK210 BK219 HB
               have HO196 := n0_
               have HO203 := n1_
               have HO209 := n2_
               have HO217 := n3_
               have HO224 := n4_
               have HO235 := n5_
               have BK190 := n6_
               have BK191 := n7_
               have BK205 := n8_
               have BK210 := n9_
               have BK219 := n10_
               have HB := n11_
               clear n0_ n1_ n2_ n3_ n4_ n5_ n6_ n7_ n8_ n9_ n10_ n11_
               (try clear hb)
               (try clear hb2)
               (try clear hk)
               (try clear hi)
               (try clear ho0)
               refine hK.out _ _ ⟨(blk_cell BK190.out 0).trans rfl, (blk_cell BK190.out 1).trans rfl, (blk_cell BK191.out 0).trans rfl, (blk_cell BK191.out 1).trans rfl, (blk_cell BK191.out 2).trans rfl⟩ (fun hHeld => ?_)
               clear hK K
               refine norm_ (a' := ?_) ?_ ?_
               rotate_left
               ·show Act.put _ (some 81) _ = _
                simp only [Act.put, List.setIfInBounds_toArray, List.set_cons_zero, List.set_cons_succ, i64_w, i32_w]
                rfl
               refine two_ (i := 3) (j := 8) (Ni := some 83) (Nj := some 14) #[true, true, true, true, false, false, false, false, false, false, false] #[true, true, true, false, false, false, false, false, true, false, false] rfl rfl rfl rfl (two_of HT_.out (by kernel_rfl)) (by decide) (by decide) (fun K hK => ?_) (fun K hK => ?_)
               ·skip
                refine goes_ Try.func12 (by kernel_rfl) rfl #[.agg #[.int .i64 a1_0, .int .i64 a1_1, .int .i64 a1_2]] (by rfl) rfl rfl zFEAC_mvE ?_
                with_reducible refine (laws_toClue.calls a1_0 a1_1 a1_2 t236 t237 t238 _ A31.out).mono ?_
                rintro e w95 ⟨rfl, hb⟩
                refine ⟨_, rfl, ?_⟩
                have n0_ := Aside0.mk (Kd.R_below (zFEAC_mvR HO196) hb)
                have n1_ := Aside0.mk (Kd.R_below (zFEAC_mvR HO203) hb)
                have n2_ := Aside0.mk (Kd.R_below (zFEAC_mvR HO209) hb)
                have n3_ := Aside0.mk (Kd.R_below (zFEAC_mvR HO217) hb)
                have n4_ := Aside0.mk (Kd.R_below (zFEAC_mvR HO224) hb)
                have n5_ := Aside0.mk (Kd.R_below (zFEAC_mvR HO235) hb)
                have n6_ := Aside0.mk (blk_below (g := gb190) (o := .cells #[.int .i64 a0_0, .slice A0_1 l0_1.length c0_1] 24 (0, 0)) (zFEAC_mvB BK190) hb)
                have n7_ := Aside0.mk (blk_below (g := gb191) (o := .cells #[.int .i64 a1_0, .int .i64 a1_1, .int .i64 a1_2] 34 (0, 0)) (zFEAC_mvB BK191) hb)
                have n8_ := Aside0.mk (blk_below (g := gb205) (o := .cells #[.int .i64 t200, .slice Ao52 t201.length co52] 29 (0, 0)) (zFEAC_mvB BK205) hb)
                have n9_ := Aside0.mk (blk_below (g := gb210) (o := .cells #[.int .i64 t206, .slice Ao62 t207.length co62] 29 (0, 0)) (zFEAC_mvB BK210) hb)
                have n10_ := Aside0.mk (blk_below (g := gb219) (o := .cells #[.int .i64 t214, .slice Ao70 t215.length co70] 29 (0, 0)) (zFEAC_mvB BK219) hb)
                have n11_ := Aside0.mk (below_step (zFEAC_mvH5 HB GE190 GE191 GE205 GE210 GE219) hb)
                clear HO196 HO203 HO209 HO217 HO224 HO235 BK190 BK191 BK205 BK210 BK219 HB
                have HO196 := n0_
                have HO203 := n1_
                have HO209 := n2_
                have HO217 := n3_
                have HO224 := n4_
                have HO235 := n5_
                have BK190 := n6_
                have BK191 := n7_
                have BK205 := n8_
                have BK210 := n9_
                have BK219 := n10_
                have HB := n11_
                clear n0_ n1_ n2_ n3_ n4_ n5_ n6_ n7_ n8_ n9_ n10_ n11_
                (try clear hb)
                (try clear hb2)
                (try clear hk)
                (try clear hi)
                obtain ⟨Ao96, co96, eo96⟩ := Kd.R_slice HO235.out
                (first | subst eo96 | (injection eo96 with f1_ f2_ f3_; have f4_ := f1_.symm; have f5_ := f3_.symm; clear f1_ f2_ f3_; subst f4_; subst f5_))
                refine hK.out _ _ ⟨(blk_cell BK190.out 0).trans rfl, (blk_cell BK190.out 1).trans rfl, (blk_cell BK191.out 0).trans rfl, (blk_cell BK191.out 1).trans rfl, (blk_cell BK191.out 2).trans rfl⟩ (fun hHeld => ?_)
                clear hK K
                refine norm_ (a' := ?_) ?_ ?_
                rotate_left
                ·show Act.put _ (some 83) _ = _
                 simp only [Act.put, List.setIfInBounds_toArray, List.set_cons_zero, List.set_cons_succ, i64_w, i32_w]
                 rfl
                refine two_ (i := 4) (j := 8) (Ni := some 84) (Nj := some 14) #[true, true, true, true, true, false, false, false, false, false, false] #[true, true, true, true, false, false, false, false, true, false, false] rfl rfl rfl rfl (two_of HT_.out (by kernel_rfl)) (by decide) (by decide) (fun K hK => ?_) (fun K hK => ?_)
                ·skip
                 refine goes_ Try.func13 (by kernel_rfl) rfl #[.agg #[.int .i64 t232, .slice Ao96 t233.length co96], .agg #[.int .i64 t236, .int .i64 t237, .int .i64 t238]] (by rfl) rfl rfl zFEAC_mvE ?_
                 with_reducible refine (impl_AddClue.calls k t232 _ _ t233 t236 t237 t238 t239 t240 t243 _ ?side1 ?side2 A32.out).mono ?_
                 (case side1 => repeat (first | exact (Kd.R_reads' HO235.out).2.2 | (with_reducible refine Kd.C_alloc ?_ _) | (with_reducible refine Kd.C_drewN ?_ _) | (with_reducible refine Kd.C_drew ?_)))
                 (case side2 => exact (Kd.R_reads' HO235.out).2.1)
                 rintro e w97 ⟨v241, rfl, ho0, hb⟩
                 refine ⟨_, rfl, ?_⟩
                 have n0_ := Aside0.mk (Kd.R_elder' (zFEAC_mvR HO196) (Kd.R_base ho0) hb)
                 have n1_ := Aside0.mk (Kd.R_elder' (zFEAC_mvR HO203) (Kd.R_base ho0) hb)
                 have n2_ := Aside0.mk (Kd.R_elder' (zFEAC_mvR HO209) (Kd.R_base ho0) hb)
                 have n3_ := Aside0.mk (Kd.R_elder' (zFEAC_mvR HO217) (Kd.R_base ho0) hb)
                 have n4_ := Aside0.mk (Kd.R_elder' (zFEAC_mvR HO224) (Kd.R_base ho0) hb)
                 have n5_ := Aside0.mk (Kd.R_elder' (zFEAC_mvR HO235) (Kd.R_base ho0) hb)
                 have n6_ := Aside0.mk (Kd.R_lower (Kd.R_new' (Kd.R_new' (Kd.R_new' (Kd.R_new' (Kd.R_new' (Kd.R_new' ho0 (Kd.R_lt (zFEAC_mvR HO196))) (Kd.R_lt (zFEAC_mvR HO203))) (Kd.R_lt (zFEAC_mvR HO209))) (Kd.R_lt (zFEAC_mvR HO217))) (Kd.R_lt (zFEAC_mvR HO224))) (Kd.R_lt (zFEAC_mvR HO235))) (below_size (zFEAC_mvH5 HB GE190 GE191 GE205 GE210 GE219)))
                 have n7_ := Aside0.mk (blk_below (g := gb190) (o := .cells #[.int .i64 a0_0, .slice A0_1 l0_1.length c0_1] 24 (0, 0)) (zFEAC_mvB BK190) hb)
                 have n8_ := Aside0.mk (blk_below (g := gb191) (o := .cells #[.int .i64 a1_0, .int .i64 a1_1, .int .i64 a1_2] 34 (0, 0)) (zFEAC_mvB BK191) hb)
                 have n9_ := Aside0.mk (blk_below (g := gb205) (o := .cells #[.int .i64 t200, .slice Ao52 t201.length co52] 29 (0, 0)) (zFEAC_mvB BK205) hb)
                 have n10_ := Aside0.mk (blk_below (g := gb210) (o := .cells #[.int .i64 t206, .slice Ao62 t207.length co62] 29 (0, 0)) (zFEAC_mvB BK210) hb)
                 have n11_ := Aside0.mk (blk_below (g := gb219) (o := .cells #[.int .i64 t214, .slice Ao70 t215.length co70] 29 (0, 0)) (zFEAC_mvB BK219) hb)
                 have n12_ := Aside0.mk (below_step (zFEAC_mvH5 HB GE190 GE191 GE205 GE210 GE219) hb)
                 clear HO196 HO203 HO209 HO217 HO224 HO235 BK190 BK191 BK205 BK210 BK219 HB
                 have HO196 := n0_
                 have HO203 := n1_
                 have HO209 := n2_
                 have HO217 := n3_
                 have HO224 := n4_
                 have HO235 := n5_
                 have HO242 := n6_
                 have BK190 := n7_
                 have BK191 := n8_
                 have BK205 := n9_
                 have BK210 := n10_
                 have BK219 := n11_
                 have HB := n12_
                 clear n0_ n1_ n2_ n3_ n4_ n5_ n6_ n7_ n8_ n9_ n10_ n11_ n12_
                 (try clear hb)
                 (try clear hb2)
                 (try clear hk)
                 (try clear hi)
                 (try clear ho0)
                 refine hK.out _ _ ⟨(blk_cell BK190.out 0).trans rfl, (blk_cell BK190.out 1).trans rfl, (blk_cell BK191.out 0).trans rfl, (blk_cell BK191.out 1).trans rfl, (blk_cell BK191.out 2).trans rfl⟩ (fun hHeld => ?_)
                 clear hK K
                 refine norm_ (a' := ?_) ?_ ?_
                 rotate_left
                 ·show Act.put _ (some 84) _ = _
                  simp only [Act.put, List.setIfInBounds_toArray, List.set_cons_zero, List.set_cons_succ, i64_w, i32_w]
                  rfl
                 refine pure_ (i := 5) (N := some 79) (v := ?_) (a' := ?_) #[true, true, true, true, true, true, false, false, false, false, false] rfl rfl (any_of HT_.out (by kernel_rfl)) (fun _ _ _ h => h) (Or.inl ⟨by rfl, ?_⟩) ?_ ?_
                 rotate_left
                 ·intro w'
                  go_simp
                  with_reducible rfl
                 rotate_left
                 ·simp only [Act.put, List.setIfInBounds_toArray, List.set_cons_zero, List.set_cons_succ, i64_w, i32_w]
                  rfl
                 refine pure_ (i := 6) (N := some 85) (v := ?_) (a' := ?_) #[true, true, true, true, true, true, true, false, false, false, false] rfl rfl (any_of HT_.out (by kernel_rfl)) (fun _ _ _ h => h) (Or.inl ⟨by rfl, ?_⟩) ?_ ?_
                 rotate_left
                 ·intro w'
                  go_simp
                  with_reducible rfl
                 rotate_left
                 ·simp only [Act.put, List.setIfInBounds_toArray, List.set_cons_zero, List.set_cons_succ, i64_w, i32_w]
                  rfl
                 refine pure_ (i := 7) (N := some 86) (v := ?_) (a' := ?_) #[true, true, true, true, true, true, true, true, false, false, false] rfl rfl (any_of HT_.out (by kernel_rfl)) (fun _ _ _ h => h) (Or.inl ⟨by rfl, ?_⟩) ?_ ?_
                 rotate_left
                 ·intro w'
                  go_simp
                  with_reducible rfl
                 rotate_left
                 ·simp only [Act.put, List.setIfInBounds_toArray, List.set_cons_zero, List.set_cons_succ, i64_w, i32_w]
                  rfl
                 refine one_ (i := 8) (N := some 14) #[true, true, true, true, true, true, true, true, true, false, false] rfl rfl (one_of HT_.out (by kernel_rfl)) (by decide) (fun K hK => ?_)
                 refine box_step ?hg (N := 14) ?hd (cs := #[.int .i64 0, .slice none 0 0]) (t := 29) ?hr ?_; (case hd => rfl); (case hg => rfl); (case hr => first | (go_simp; done) | (go_simp; rfl))
                 intro gb244 hg w98 hbox hb
                 have n0_ := Aside0.mk (Kd.R_below (zFEAC_mvR HO196) hb)
                 have n1_ := Aside0.mk (Kd.R_below (zFEAC_mvR HO203) hb)
                 have n2_ := Aside0.mk (Kd.R_below (zFEAC_mvR HO209) hb)
                 have n3_ := Aside0.mk (Kd.R_below (zFEAC_mvR HO217) hb)
                 have n4_ := Aside0.mk (Kd.R_below (zFEAC_mvR HO224) hb)
                 have n5_ := Aside0.mk (Kd.R_below (zFEAC_mvR HO235) hb)
                 have n6_ := Aside0.mk (Kd.R_below (zFEAC_mvR HO242) hb)
                 have n7_ := Aside0.mk (blk_below (g := gb190) (o := .cells #[.int .i64 a0_0, .slice A0_1 l0_1.length c0_1] 24 (0, 0)) (zFEAC_mvB BK190) hb)
                 have n8_ := Aside0.mk (blk_below (g := gb191) (o := .cells #[.int .i64 a1_0, .int .i64 a1_1, .int .i64 a1_2] 34 (0, 0)) (zFEAC_mvB BK191) hb)
                 have n9_ := Aside0.mk (blk_below (g := gb205) (o := .cells #[.int .i64 t200, .slice Ao52 t201.length co52] 29 (0, 0)) (zFEAC_mvB BK205) hb)
                 have n10_ := Aside0.mk (blk_below (g := gb210) (o := .cells #[.int .i64 t206, .slice Ao62 t207.length co62] 29 (0, 0)) (zFEAC_mvB BK210) hb)
                 have n11_ := Aside0.mk (blk_below (g := gb219) (o := .cells #[.int .i64 t214, .slice Ao70 t215.length co70] 29 (0, 0)) (zFEAC_mvB BK219) hb)
                 have n12_ := Aside0.mk (below_step (zFEAC_mvH5 HB GE190 GE191 GE205 GE210 GE219) hb)
                 have n13_ := Aside0.mk (hbox)
                 have n14_ := Aside0.mk ((by rw [hg]; exact (below_size (zFEAC_mvH5 HB GE190 GE191 GE205 GE210 GE219)) : w.heap.size ≤ gb244))
                 have n15_ := Aside0.mk ((by rw [hg]; exact (below_size (zFEAC_mvH5 HB GE190 GE191 GE205 GE210 GE219)) : w.heap.size ≤ gb244))
                 have n16_ := Aside0.mk ((by rw [hg]; exact Nat.ne_of_lt (blk_lt (g := gb190) (o := .cells #[.int .i64 a0_0, .slice A0_1 l0_1.length c0_1] 24 (0, 0)) (zFEAC_mvB BK190)) : gb190 ≠ gb244))
                 have n17_ := Aside0.mk ((by rw [hg]; exact Nat.ne_of_gt (blk_lt (g := gb190) (o := .cells #[.int .i64 a0_0, .slice A0_1 l0_1.length c0_1] 24 (0, 0)) (zFEAC_mvB BK190)) : gb244 ≠ gb190))
                 have n18_ := Aside0.mk ((by rw [hg]; exact Nat.ne_of_lt (blk_lt (g := gb191) (o := .cells #[.int .i64 a1_0, .int .i64 a1_1, .int .i64 a1_2] 34 (0, 0)) (zFEAC_mvB BK191)) : gb191 ≠ gb244))
                 have n19_ := Aside0.mk ((by rw [hg]; exact Nat.ne_of_gt (blk_lt (g := gb191) (o := .cells #[.int .i64 a1_0, .int .i64 a1_1, .int .i64 a1_2] 34 (0, 0)) (zFEAC_mvB BK191)) : gb244 ≠ gb191))
                 have n20_ := Aside0.mk ((by rw [hg]; exact Nat.ne_of_lt (blk_lt (g := gb205) (o := .cells #[.int .i64 t200, .slice Ao52 t201.length co52] 29 (0, 0)) (zFEAC_mvB BK205)) : gb205 ≠ gb244))
                 have n21_ := Aside0.mk ((by rw [hg]; exact Nat.ne_of_gt (blk_lt (g := gb205) (o := .cells #[.int .i64 t200, .slice Ao52 t201.length co52] 29 (0, 0)) (zFEAC_mvB BK205)) : gb244 ≠ gb205))
                 have n22_ := Aside0.mk ((by rw [hg]; exact Nat.ne_of_lt (blk_lt (g := gb210) (o := .cells #[.int .i64 t206, .slice Ao62 t207.length co62] 29 (0, 0)) (zFEAC_mvB BK210)) : gb210 ≠ gb244))
                 have n23_ := Aside0.mk ((by rw [hg]; exact Nat.ne_of_gt (blk_lt (g := gb210) (o := .cells #[.int .i64 t206, .slice Ao62 t207.length co62] 29 (0, 0)) (zFEAC_mvB BK210)) : gb244 ≠ gb210))
                 have n24_ := Aside0.mk ((by rw [hg]; exact Nat.ne_of_lt (blk_lt (g := gb219) (o := .cells #[.int .i64 t214, .slice Ao70 t215.length co70] 29 (0, 0)) (zFEAC_mvB BK219)) : gb219 ≠ gb244))
                 have n25_ := Aside0.mk ((by rw [hg]; exact Nat.ne_of_gt (blk_lt (g := gb219) (o := .cells #[.int .i64 t214, .slice Ao70 t215.length co70] 29 (0, 0)) (zFEAC_mvB BK219)) : gb244 ≠ gb219))
                 clear HO196 HO203 HO209 HO217 HO224 HO235 HO242 BK190 BK191 BK205 BK210 BK219 HB
                 have HO196 := n0_
                 have HO203 := n1_
                 have HO209 := n2_
                 have HO217 := n3_
                 have HO224 := n4_
                 have HO235 := n5_
                 have HO242 := n6_
                 have BK190 := n7_
                 have BK191 := n8_
                 have BK205 := n9_
                 have BK210 := n10_
                 have BK219 := n11_
                 have HB := n12_
                 have BK244 := n13_
                 have GW244 := n14_
                 have GE244 := n15_
                 have NB190_244 := n16_
                 have NB244_190 := n17_
                 have NB191_244 := n18_
                 have NB244_191 := n19_
                 have NB205_244 := n20_
                 have NB244_205 := n21_
                 have NB210_244 := n22_
                 have NB244_210 := n23_
                 have NB219_244 := n24_
                 have NB244_219 := n25_
                 clear n0_ n1_ n2_ n3_ n4_ n5_ n6_ n7_ n8_ n9_ n10_ n11_ n12_ n13_ n14_ n15_ n16_ n17_ n18_ n19_ n20_ n21_ n22_ n23_ n24_ n25_
                 clear hb hbox hg
                 refine hK.out _ _ ⟨(blk_cell BK190.out 0).trans rfl, (blk_cell BK190.out 1).trans rfl, (blk_cell BK191.out 0).trans rfl, (blk_cell BK191.out 1).trans rfl, (blk_cell BK191.out 2).trans rfl⟩ (fun hHeld => ?_)
                 clear hK K
                 refine norm_ (a' := ?_) ?_ ?_
                 rotate_left
                 ·show Act.put _ (some 14) _ = _
                  simp only [Act.put, List.setIfInBounds_toArray, List.set_cons_zero, List.set_cons_succ, i64_w, i32_w]
                  rfl
                 exact norm_ (by simp only [putAll, Act.put, List.setIfInBounds_toArray, List.set_cons_zero, List.set_cons_succ]) (hCont (.slice Ao96 t233.length co96, v241, gb244) _ ⟨hHeld, (by (with_reducible repeat (first | apply Kd.R_alloc | apply Kd.R_drewN | apply Kd.R_drew)); exact Kd.R_mono HO196.out (fun _ hk => ⟨hk.1.1.1, ⟨hk.1.1.2.1, ⟨hk.1.1.2.2.1, ⟨hk.1.1.2.2.2, ⟨hk.1.2, hk.2⟩⟩⟩⟩⟩)), (by (with_reducible repeat (first | apply Kd.R_alloc | apply Kd.R_drewN | apply Kd.R_drew)); exact Kd.R_mono HO203.out (fun _ hk => ⟨hk.1.1.1, ⟨hk.1.1.2.1, ⟨hk.1.1.2.2.1, ⟨hk.1.1.2.2.2, ⟨hk.1.2, hk.2⟩⟩⟩⟩⟩)), (by (with_reducible repeat (first | apply Kd.R_alloc | apply Kd.R_drewN | apply Kd.R_drew)); exact Kd.R_mono HO209.out (fun _ hk => ⟨hk.1.1.1, ⟨hk.1.1.2.1, ⟨hk.1.1.2.2.1, ⟨hk.1.1.2.2.2, ⟨hk.1.2, hk.2⟩⟩⟩⟩⟩)), (by (with_reducible repeat (first | apply Kd.R_alloc | apply Kd.R_drewN | apply Kd.R_drew)); exact Kd.R_mono HO217.out (fun _ hk => ⟨hk.1.1.1, ⟨hk.1.1.2.1, ⟨hk.1.1.2.2.1, ⟨hk.1.1.2.2.2, ⟨hk.1.2, hk.2⟩⟩⟩⟩⟩)), (by (with_reducible repeat (first | apply Kd.R_alloc | apply Kd.R_drewN | apply Kd.R_drew)); exact Kd.R_mono HO224.out (fun _ hk => ⟨hk.1.1.1, ⟨hk.1.1.2.1, ⟨hk.1.1.2.2.1, ⟨hk.1.1.2.2.2, ⟨hk.1.2, hk.2⟩⟩⟩⟩⟩)), (by (with_reducible repeat (first | apply Kd.R_alloc | apply Kd.R_drewN | apply Kd.R_drew)); exact Kd.R_mono HO235.out (fun _ hk => ⟨hk.1.1.1.1.1.2, ⟨hk.1.1.1.1.2, ⟨hk.1.1.1.2, ⟨hk.1.1.2, ⟨hk.1.2, hk.2⟩⟩⟩⟩⟩)), (by (with_reducible repeat (first | apply Kd.R_alloc | apply Kd.R_drewN | apply Kd.R_drew)); exact Kd.R_mono HO242.out (fun _ hk => ⟨hk.1.1.1.1.1.2, ⟨hk.1.1.1.1.2, ⟨hk.1.1.1.2, ⟨hk.1.1.2, ⟨hk.1.2, hk.2⟩⟩⟩⟩⟩)), (zFEAC_mvB BK190), (zFEAC_mvB BK191), (zFEAC_mvB BK205), (zFEAC_mvB BK210), (zFEAC_mvB BK219), (zFEAC_mvB BK244), GW244.out, GE244.out, NB190_244.out, NB244_190.out, NB191_244.out, NB244_191.out, NB205_244.out, NB244_205.out, NB210_244.out, NB244_210.out, NB219_244.out, NB244_219.out, (zFEAC_mvH6 HB GE190 GE191 GE205 GE210 GE219 GE244)⟩)
                ·skip
                 refine box_step ?hg (N := 14) ?hd (cs := #[.int .i64 0, .slice none 0 0]) (t := 29) ?hr ?_; (case hd => rfl); (case hg => rfl); (case hr => first | (go_simp; done) | (go_simp; rfl))
                 intro gb244 hg w96 hbox hb
                 have n0_ := Aside0.mk (Kd.R_below (zFEAC_mvR HO196) hb)
                 have n1_ := Aside0.mk (Kd.R_below (zFEAC_mvR HO203) hb)
                 have n2_ := Aside0.mk (Kd.R_below (zFEAC_mvR HO209) hb)
                 have n3_ := Aside0.mk (Kd.R_below (zFEAC_mvR HO217) hb)
                 have n4_ := Aside0.mk (Kd.R_below (zFEAC_mvR HO224) hb)
                 have n5_ := Aside0.mk (Kd.R_below (zFEAC_mvR HO235) hb)
                 have n6_ := Aside0.mk (blk_below (g := gb190) (o := .cells #[.int .i64 a0_0, .slice A0_1 l0_1.length c0_1] 24 (0, 0)) (zFEAC_mvB BK190) hb)
                 have n7_ := Aside0.mk (blk_below (g := gb191) (o := .cells #[.int .i64 a1_0, .int .i64 a1_1, .int .i64 a1_2] 34 (0, 0)) (zFEAC_mvB BK191) hb)
                 have n8_ := Aside0.mk (blk_below (g := gb205) (o := .cells #[.int .i64 t200, .slice Ao52 t201.length co52] 29 (0, 0)) (zFEAC_mvB BK205) hb)
                 have n9_ := Aside0.mk (blk_below (g := gb210) (o := .cells #[.int .i64 t206, .slice Ao62 t207.length co62] 29 (0, 0)) (zFEAC_mvB BK210) hb)
                 have n10_ := Aside0.mk (blk_below (g := gb219) (o := .cells #[.int .i64 t214, .slice Ao70 t215.length co70] 29 (0, 0)) (zFEAC_mvB BK219) hb)
                 have n11_ := Aside0.mk (below_step (zFEAC_mvH5 HB GE190 GE191 GE205 GE210 GE219) hb)
                 have n12_ := Aside0.mk (hbox)
                 have n13_ := Aside0.mk ((by rw [hg]; exact (below_size (zFEAC_mvH5 HB GE190 GE191 GE205 GE210 GE219)) : w.heap.size ≤ gb244))
                 have n14_ := Aside0.mk ((by rw [hg]; exact (below_size (zFEAC_mvH5 HB GE190 GE191 GE205 GE210 GE219)) : w.heap.size ≤ gb244))
                 have n15_ := Aside0.mk ((by rw [hg]; exact Nat.ne_of_lt (blk_lt (g := gb190) (o := .cells #[.int .i64 a0_0, .slice A0_1 l0_1.length c0_1] 24 (0, 0)) (zFEAC_mvB BK190)) : gb190 ≠ gb244))
                 have n16_ := Aside0.mk ((by rw [hg]; exact Nat.ne_of_gt (blk_lt (g := gb190) (o := .cells #[.int .i64 a0_0, .slice A0_1 l0_1.length c0_1] 24 (0, 0)) (zFEAC_mvB BK190)) : gb244 ≠ gb190))
                 have n17_ := Aside0.mk ((by rw [hg]; exact Nat.ne_of_lt (blk_lt (g := gb191) (o := .cells #[.int .i64 a1_0, .int .i64 a1_1, .int .i64 a1_2] 34 (0, 0)) (zFEAC_mvB BK191)) : gb191 ≠ gb244))
                 have n18_ := Aside0.mk ((by rw [hg]; exact Nat.ne_of_gt (blk_lt (g := gb191) (o := .cells #[.int .i64 a1_0, .int .i64 a1_1, .int .i64 a1_2] 34 (0, 0)) (zFEAC_mvB BK191)) : gb244 ≠ gb191))
                 have n19_ := Aside0.mk ((by rw [hg]; exact Nat.ne_of_lt (blk_lt (g := gb205) (o := .cells #[.int .i64 t200, .slice Ao52 t201.length co52] 29 (0, 0)) (zFEAC_mvB BK205)) : gb205 ≠ gb244))
                 have n20_ := Aside0.mk ((by rw [hg]; exact Nat.ne_of_gt (blk_lt (g := gb205) (o := .cells #[.int .i64 t200, .slice Ao52 t201.length co52] 29 (0, 0)) (zFEAC_mvB BK205)) : gb244 ≠ gb205))
                 have n21_ := Aside0.mk ((by rw [hg]; exact Nat.ne_of_lt (blk_lt (g := gb210) (o := .cells #[.int .i64 t206, .slice Ao62 t207.length co62] 29 (0, 0)) (zFEAC_mvB BK210)) : gb210 ≠ gb244))
                 have n22_ := Aside0.mk ((by rw [hg]; exact Nat.ne_of_gt (blk_lt (g := gb210) (o := .cells #[.int .i64 t206, .slice Ao62 t207.length co62] 29 (0, 0)) (zFEAC_mvB BK210)) : gb244 ≠ gb210))
                 have n23_ := Aside0.mk ((by rw [hg]; exact Nat.ne_of_lt (blk_lt (g := gb219) (o := .cells #[.int .i64 t214, .slice Ao70 t215.length co70] 29 (0, 0)) (zFEAC_mvB BK219)) : gb219 ≠ gb244))
                 have n24_ := Aside0.mk ((by rw [hg]; exact Nat.ne_of_gt (blk_lt (g := gb219) (o := .cells #[.int .i64 t214, .slice Ao70 t215.length co70] 29 (0, 0)) (zFEAC_mvB BK219)) : gb244 ≠ gb219))
                 clear HO196 HO203 HO209 HO217 HO224 HO235 BK190 BK191 BK205 BK210 BK219 HB
                 have HO196 := n0_
                 have HO203 := n1_
                 have HO209 := n2_
                 have HO217 := n3_
                 have HO224 := n4_
                 have HO235 := n5_
                 have BK190 := n6_
                 have BK191 := n7_
                 have BK205 := n8_
                 have BK210 := n9_
                 have BK219 := n10_
                 have HB := n11_
                 have BK244 := n12_
                 have GW244 := n13_
                 have GE244 := n14_
                 have NB190_244 := n15_
                 have NB244_190 := n16_
                 have NB191_244 := n17_
                 have NB244_191 := n18_
                 have NB205_244 := n19_
                 have NB244_205 := n20_
                 have NB210_244 := n21_
                 have NB244_210 := n22_
                 have NB219_244 := n23_
                 have NB244_219 := n24_
                 clear n0_ n1_ n2_ n3_ n4_ n5_ n6_ n7_ n8_ n9_ n10_ n11_ n12_ n13_ n14_ n15_ n16_ n17_ n18_ n19_ n20_ n21_ n22_ n23_ n24_
                 clear hb hbox hg
                 obtain ⟨Ao97, co97, eo97⟩ := Kd.R_slice HO235.out
                 (first | subst eo97 | (injection eo97 with f1_ f2_ f3_; have f4_ := f1_.symm; have f5_ := f3_.symm; clear f1_ f2_ f3_; subst f4_; subst f5_))
                 refine hK.out _ _ ⟨(blk_cell BK190.out 0).trans rfl, (blk_cell BK190.out 1).trans rfl, (blk_cell BK191.out 0).trans rfl, (blk_cell BK191.out 1).trans rfl, (blk_cell BK191.out 2).trans rfl⟩ (fun hHeld => ?_)
                 clear hK K
                 refine norm_ (a' := ?_) ?_ ?_
                 rotate_left
                 ·show Act.put _ (some 14) _ = _
                  simp only [Act.put, List.setIfInBounds_toArray, List.set_cons_zero, List.set_cons_succ, i64_w, i32_w]
                  rfl
                 refine one_ (i := 4) (N := some 84) #[true, true, true, true, true, false, false, false, true, false, false] rfl rfl (one_of HT_.out (by kernel_rfl)) (by decide) (fun K hK => ?_)
                 refine goes_ Try.func13 (by kernel_rfl) rfl #[.agg #[.int .i64 t232, .slice Ao97 t233.length co97], .agg #[.int .i64 t236, .int .i64 t237, .int .i64 t238]] (by rfl) rfl rfl zFEAC_mvE ?_
                 with_reducible refine (impl_AddClue.calls k t232 _ _ t233 t236 t237 t238 t239 t240 t243 _ ?side1 ?side2 A32.out).mono ?_
                 (case side1 => repeat (first | exact (Kd.R_reads' HO235.out).2.2 | (with_reducible refine Kd.C_alloc ?_ _) | (with_reducible refine Kd.C_drewN ?_ _) | (with_reducible refine Kd.C_drew ?_)))
                 (case side2 => exact (Kd.R_reads' HO235.out).2.1)
                 rintro e w98 ⟨v241, rfl, ho0, hb⟩
                 refine ⟨_, rfl, ?_⟩
                 have n0_ := Aside0.mk (Kd.R_elder' (zFEAC_mvR HO196) (Kd.R_base ho0) hb)
                 have n1_ := Aside0.mk (Kd.R_elder' (zFEAC_mvR HO203) (Kd.R_base ho0) hb)
                 have n2_ := Aside0.mk (Kd.R_elder' (zFEAC_mvR HO209) (Kd.R_base ho0) hb)
                 have n3_ := Aside0.mk (Kd.R_elder' (zFEAC_mvR HO217) (Kd.R_base ho0) hb)
                 have n4_ := Aside0.mk (Kd.R_elder' (zFEAC_mvR HO224) (Kd.R_base ho0) hb)
                 have n5_ := Aside0.mk (Kd.R_elder' (zFEAC_mvR HO235) (Kd.R_base ho0) hb)
                 have n6_ := Aside0.mk (Kd.R_lower (Kd.R_new' (Kd.R_new' (Kd.R_new' (Kd.R_new' (Kd.R_new' (Kd.R_new' ho0 (Kd.R_lt (zFEAC_mvR HO196))) (Kd.R_lt (zFEAC_mvR HO203))) (Kd.R_lt (zFEAC_mvR HO209))) (Kd.R_lt (zFEAC_mvR HO217))) (Kd.R_lt (zFEAC_mvR HO224))) (Kd.R_lt (zFEAC_mvR HO235))) (below_size (zFEAC_mvH6 HB GE190 GE191 GE205 GE210 GE219 GE244)))
                 have n7_ := Aside0.mk (blk_below (g := gb190) (o := .cells #[.int .i64 a0_0, .slice A0_1 l0_1.length c0_1] 24 (0, 0)) (zFEAC_mvB BK190) hb)
                 have n8_ := Aside0.mk (blk_below (g := gb191) (o := .cells #[.int .i64 a1_0, .int .i64 a1_1, .int .i64 a1_2] 34 (0, 0)) (zFEAC_mvB BK191) hb)
                 have n9_ := Aside0.mk (blk_below (g := gb205) (o := .cells #[.int .i64 t200, .slice Ao52 t201.length co52] 29 (0, 0)) (zFEAC_mvB BK205) hb)
                 have n10_ := Aside0.mk (blk_below (g := gb210) (o := .cells #[.int .i64 t206, .slice Ao62 t207.length co62] 29 (0, 0)) (zFEAC_mvB BK210) hb)
                 have n11_ := Aside0.mk (blk_below (g := gb219) (o := .cells #[.int .i64 t214, .slice Ao70 t215.length co70] 29 (0, 0)) (zFEAC_mvB BK219) hb)
                 have n12_ := Aside0.mk (blk_below (g := gb244) (o := .cells #[.int .i64 0, .slice none 0 0] 29 (0, 0)) (zFEAC_mvB BK244) hb)
                 have n13_ := Aside0.mk (below_step (zFEAC_mvH6 HB GE190 GE191 GE205 GE210 GE219 GE244) hb)
                 clear HO196 HO203 HO209 HO217 HO224 HO235 BK190 BK191 BK205 BK210 BK219 BK244 HB
                 have HO196 := n0_
                 have HO203 := n1_
                 have HO209 := n2_
                 have HO217 := n3_
                 have HO224 := n4_
                 have HO235 := n5_
                 have HO242 := n6_
                 have BK190 := n7_
                 have BK191 := n8_
                 have BK205 := n9_
                 have BK210 := n10_
                 have BK219 := n11_
                 have BK244 := n12_
                 have HB := n13_
                 clear n0_ n1_ n2_ n3_ n4_ n5_ n6_ n7_ n8_ n9_ n10_ n11_ n12_ n13_
                 (try clear hb)
                 (try clear hb2)
                 (try clear hk)
                 (try clear hi)
                 (try clear ho0)
                 refine hK.out _ _ ⟨(blk_cell BK190.out 0).trans rfl, (blk_cell BK190.out 1).trans rfl, (blk_cell BK191.out 0).trans rfl, (blk_cell BK191.out 1).trans rfl, (blk_cell BK191.out 2).trans rfl⟩ (fun hHeld => ?_)
                 clear hK K
                 refine norm_ (a' := ?_) ?_ ?_
                 rotate_left
                 ·show Act.put _ (some 84) _ = _
                  simp only [Act.put, List.setIfInBounds_toArray, List.set_cons_zero, List.set_cons_succ, i64_w, i32_w]
                  rfl
                 refine pure_ (i := 5) (N := some 79) (v := ?_) (a' := ?_) #[true, true, true, true, true, true, false, false, true, false, false] rfl rfl (any_of HT_.out (by kernel_rfl)) (fun _ _ _ h => h) (Or.inl ⟨by rfl, ?_⟩) ?_ ?_
                 rotate_left
                 ·intro w'
                  go_simp
                  with_reducible rfl
                 rotate_left
                 ·simp only [Act.put, List.setIfInBounds_toArray, List.set_cons_zero, List.set_cons_succ, i64_w, i32_w]
                  rfl
                 refine pure_ (i := 6) (N := some 85) (v := ?_) (a' := ?_) #[true, true, true, true, true, true, true, false, true, false, false] rfl rfl (any_of HT_.out (by kernel_rfl)) (fun _ _ _ h => h) (Or.inl ⟨by rfl, ?_⟩) ?_ ?_
                 rotate_left
                 ·intro w'
                  go_simp
                  with_reducible rfl
                 rotate_left
                 ·simp only [Act.put, List.setIfInBounds_toArray, List.set_cons_zero, List.set_cons_succ, i64_w, i32_w]
                  rfl
                 refine pure_ (i := 7) (N := some 86) (v := ?_) (a' := ?_) #[true, true, true, true, true, true, true, true, true, false, false] rfl rfl (any_of HT_.out (by kernel_rfl)) (fun _ _ _ h => h) (Or.inl ⟨by rfl, ?_⟩) ?_ ?_
                 rotate_left
                 ·intro w'
                  go_simp
                  with_reducible rfl
                 rotate_left
                 ·simp only [Act.put, List.setIfInBounds_toArray, List.set_cons_zero, List.set_cons_succ, i64_w, i32_w]
                  rfl
                 exact norm_ (by simp only [putAll, Act.put, List.setIfInBounds_toArray, List.set_cons_zero, List.set_cons_succ]) (hCont (.slice Ao97 t233.length co97, v241, gb244) _ ⟨hHeld, (by (with_reducible repeat (first | apply Kd.R_alloc | apply Kd.R_drewN | apply Kd.R_drew)); exact Kd.R_mono HO196.out (fun _ hk => ⟨hk.1.1.1, ⟨hk.1.1.2.1, ⟨hk.1.1.2.2.1, ⟨hk.1.1.2.2.2, ⟨hk.1.2, hk.2⟩⟩⟩⟩⟩)), (by (with_reducible repeat (first | apply Kd.R_alloc | apply Kd.R_drewN | apply Kd.R_drew)); exact Kd.R_mono HO203.out (fun _ hk => ⟨hk.1.1.1, ⟨hk.1.1.2.1, ⟨hk.1.1.2.2.1, ⟨hk.1.1.2.2.2, ⟨hk.1.2, hk.2⟩⟩⟩⟩⟩)), (by (with_reducible repeat (first | apply Kd.R_alloc | apply Kd.R_drewN | apply Kd.R_drew)); exact Kd.R_mono HO209.out (fun _ hk => ⟨hk.1.1.1, ⟨hk.1.1.2.1, ⟨hk.1.1.2.2.1, ⟨hk.1.1.2.2.2, ⟨hk.1.2, hk.2⟩⟩⟩⟩⟩)), (by (with_reducible repeat (first | apply Kd.R_alloc | apply Kd.R_drewN | apply Kd.R_drew)); exact Kd.R_mono HO217.out (fun _ hk => ⟨hk.1.1.1, ⟨hk.1.1.2.1, ⟨hk.1.1.2.2.1, ⟨hk.1.1.2.2.2, ⟨hk.1.2, hk.2⟩⟩⟩⟩⟩)), (by (with_reducible repeat (first | apply Kd.R_alloc | apply Kd.R_drewN | apply Kd.R_drew)); exact Kd.R_mono HO224.out (fun _ hk => ⟨hk.1.1.1, ⟨hk.1.1.2.1, ⟨hk.1.1.2.2.1, ⟨hk.1.1.2.2.2, ⟨hk.1.2, hk.2⟩⟩⟩⟩⟩)), (by (with_reducible repeat (first | apply Kd.R_alloc | apply Kd.R_drewN | apply Kd.R_drew)); exact Kd.R_mono HO235.out (fun _ hk => ⟨hk.1.1.1.1.1.2, ⟨hk.1.1.1.1.2, ⟨hk.1.1.1.2, ⟨hk.1.1.2, ⟨hk.1.2, hk.2⟩⟩⟩⟩⟩)), (by (with_reducible repeat (first | apply Kd.R_alloc | apply Kd.R_drewN | apply Kd.R_drew)); exact Kd.R_mono HO242.out (fun _ hk => ⟨hk.1.1.1.1.1.2, ⟨hk.1.1.1.1.2, ⟨hk.1.1.1.2, ⟨hk.1.1.2, ⟨hk.1.2, hk.2⟩⟩⟩⟩⟩)), (zFEAC_mvB BK190), (zFEAC_mvB BK191), (zFEAC_mvB BK205), (zFEAC_mvB BK210), (zFEAC_mvB BK219), (zFEAC_mvB BK244), GW244.out, GE244.out, NB190_244.out, NB244_190.out, NB191_244.out, NB244_191.out, NB205_244.out, NB244_205.out, NB210_244.out, NB244_210.out, NB219_244.out, NB244_219.out, (zFEAC_mvH6 HB GE190 GE191 GE205 GE210 GE219 GE244)⟩)
               ·skip
                refine box_step ?hg (N := 14) ?hd (cs := #[.int .i64 0, .slice none 0 0]) (t := 29) ?hr ?_; (case hd => rfl); (case hg => rfl); (case hr => first | (go_simp; done) | (go_simp; rfl))
                intro gb244 hg w95 hbox hb
                have n0_ := Aside0.mk (Kd.R_below (zFEAC_mvR HO196) hb)
                have n1_ := Aside0.mk (Kd.R_below (zFEAC_mvR HO203) hb)
                have n2_ := Aside0.mk (Kd.R_below (zFEAC_mvR HO209) hb)
                have n3_ := Aside0.mk (Kd.R_below (zFEAC_mvR HO217) hb)
                have n4_ := Aside0.mk (Kd.R_below (zFEAC_mvR HO224) hb)
                have n5_ := Aside0.mk (Kd.R_below (zFEAC_mvR HO235) hb)
                have n6_ := Aside0.mk (blk_below (g := gb190) (o := .cells #[.int .i64 a0_0, .slice A0_1 l0_1.length c0_1] 24 (0, 0)) (zFEAC_mvB BK190) hb)
                have n7_ := Aside0.mk (blk_below (g := gb191) (o := .cells #[.int .i64 a1_0, .int .i64 a1_1, .int .i64 a1_2] 34 (0, 0)) (zFEAC_mvB BK191) hb)
                have n8_ := Aside0.mk (blk_below (g := gb205) (o := .cells #[.int .i64 t200, .slice Ao52 t201.length co52] 29 (0, 0)) (zFEAC_mvB BK205) hb)
                have n9_ := Aside0.mk (blk_below (g := gb210) (o := .cells #[.int .i64 t206, .slice Ao62 t207.length co62] 29 (0, 0)) (zFEAC_mvB BK210) hb)
                have n10_ := Aside0.mk (blk_below (g := gb219) (o := .cells #[.int .i64 t214, .slice Ao70 t215.length co70] 29 (0, 0)) (zFEAC_mvB BK219) hb)
                have n11_ := Aside0.mk (below_step (zFEAC_mvH5 HB GE190 GE191 GE205 GE210 GE219) hb)
                have n12_ := Aside0.mk (hbox)
                have n13_ := Aside0.mk ((by rw [hg]; exact (below_size (zFEAC_mvH5 HB GE190 GE191 GE205 GE210 GE219)) : w.heap.size ≤ gb244))
                have n14_ := Aside0.mk ((by rw [hg]; exact (below_size (zFEAC_mvH5 HB GE190 GE191 GE205 GE210 GE219)) : w.heap.size ≤ gb244))
                have n15_ := Aside0.mk ((by rw [hg]; exact Nat.ne_of_lt (blk_lt (g := gb190) (o := .cells #[.int .i64 a0_0, .slice A0_1 l0_1.length c0_1] 24 (0, 0)) (zFEAC_mvB BK190)) : gb190 ≠ gb244))
                have n16_ := Aside0.mk ((by rw [hg]; exact Nat.ne_of_gt (blk_lt (g := gb190) (o := .cells #[.int .i64 a0_0, .slice A0_1 l0_1.length c0_1] 24 (0, 0)) (zFEAC_mvB BK190)) : gb244 ≠ gb190))
                have n17_ := Aside0.mk ((by rw [hg]; exact Nat.ne_of_lt (blk_lt (g := gb191) (o := .cells #[.int .i64 a1_0, .int .i64 a1_1, .int .i64 a1_2] 34 (0, 0)) (zFEAC_mvB BK191)) : gb191 ≠ gb244))
                have n18_ := Aside0.mk ((by rw [hg]; exact Nat.ne_of_gt (blk_lt (g := gb191) (o := .cells #[.int .i64 a1_0, .int .i64 a1_1, .int .i64 a1_2] 34 (0, 0)) (zFEAC_mvB BK191)) : gb244 ≠ gb191))
                have n19_ := Aside0.mk ((by rw [hg]; exact Nat.ne_of_lt (blk_lt (g := gb205) (o := .cells #[.int .i64 t200, .slice Ao52 t201.length co52] 29 (0, 0)) (zFEAC_mvB BK205)) : gb205 ≠ gb244))
                have n20_ := Aside0.mk ((by rw [hg]; exact Nat.ne_of_gt (blk_lt (g := gb205) (o := .cells #[.int .i64 t200, .slice Ao52 t201.length co52] 29 (0, 0)) (zFEAC_mvB BK205)) : gb244 ≠ gb205))
                have n21_ := Aside0.mk ((by rw [hg]; exact Nat.ne_of_lt (blk_lt (g := gb210) (o := .cells #[.int .i64 t206, .slice Ao62 t207.length co62] 29 (0, 0)) (zFEAC_mvB BK210)) : gb210 ≠ gb244))
                have n22_ := Aside0.mk ((by rw [hg]; exact Nat.ne_of_gt (blk_lt (g := gb210) (o := .cells #[.int .i64 t206, .slice Ao62 t207.length co62] 29 (0, 0)) (zFEAC_mvB BK210)) : gb244 ≠ gb210))
                have n23_ := Aside0.mk ((by rw [hg]; exact Nat.ne_of_lt (blk_lt (g := gb219) (o := .cells #[.int .i64 t214, .slice Ao70 t215.length co70] 29 (0, 0)) (zFEAC_mvB BK219)) : gb219 ≠ gb244))
                have n24_ := Aside0.mk ((by rw [hg]; exact Nat.ne_of_gt (blk_lt (g := gb219) (o := .cells #[.int .i64 t214, .slice Ao70 t215.length co70] 29 (0, 0)) (zFEAC_mvB BK219)) : gb244 ≠ gb219))
                clear HO196 HO203 HO209 HO217 HO224 HO235 BK190 BK191 BK205 BK210 BK219 HB
                have HO196 := n0_
                have HO203 := n1_
                have HO209 := n2_
                have HO217 := n3_
                have HO224 := n4_
                have HO235 := n5_
                have BK190 := n6_
                have BK191 := n7_
                have BK205 := n8_
                have BK210 := n9_
                have BK219 := n10_
                have HB := n11_
                have BK244 := n12_
                have GW244 := n13_
                have GE244 := n14_
                have NB190_244 := n15_
                have NB244_190 := n16_
                have NB191_244 := n17_
                have NB244_191 := n18_
                have NB205_244 := n19_
                have NB244_205 := n20_
                have NB210_244 := n21_
                have NB244_210 := n22_
                have NB219_244 := n23_
                have NB244_219 := n24_
                clear n0_ n1_ n2_ n3_ n4_ n5_ n6_ n7_ n8_ n9_ n10_ n11_ n12_ n13_ n14_ n15_ n16_ n17_ n18_ n19_ n20_ n21_ n22_ n23_ n24_
                clear hb hbox hg
                refine hK.out _ _ ⟨(blk_cell BK190.out 0).trans rfl, (blk_cell BK190.out 1).trans rfl, (blk_cell BK191.out 0).trans rfl, (blk_cell BK191.out 1).trans rfl, (blk_cell BK191.out 2).trans rfl⟩ (fun hHeld => ?_)
                clear hK K
                refine norm_ (a' := ?_) ?_ ?_
                rotate_left
                ·show Act.put _ (some 14) _ = _
                 simp only [Act.put, List.setIfInBounds_toArray, List.set_cons_zero, List.set_cons_succ, i64_w, i32_w]
                 rfl
                refine one_ (i := 3) (N := some 83) #[true, true, true, true, false, false, false, false, true, false, false] rfl rfl (one_of HT_.out (by kernel_rfl)) (by decide) (fun K hK => ?_)
                refine goes_ Try.func12 (by kernel_rfl) rfl #[.agg #[.int .i64 a1_0, .int .i64 a1_1, .int .i64 a1_2]] (by rfl) rfl rfl zFEAC_mvE ?_
                with_reducible refine (laws_toClue.calls a1_0 a1_1 a1_2 t236 t237 t238 _ A31.out).mono ?_
                rintro e w96 ⟨rfl, hb⟩
                refine ⟨_, rfl, ?_⟩
                have n0_ := Aside0.mk (Kd.R_below (zFEAC_mvR HO196) hb)
                have n1_ := Aside0.mk (Kd.R_below (zFEAC_mvR HO203) hb)
                have n2_ := Aside0.mk (Kd.R_below (zFEAC_mvR HO209) hb)
                have n3_ := Aside0.mk (Kd.R_below (zFEAC_mvR HO217) hb)
                have n4_ := Aside0.mk (Kd.R_below (zFEAC_mvR HO224) hb)
                have n5_ := Aside0.mk (Kd.R_below (zFEAC_mvR HO235) hb)
                have n6_ := Aside0.mk (blk_below (g := gb190) (o := .cells #[.int .i64 a0_0, .slice A0_1 l0_1.length c0_1] 24 (0, 0)) (zFEAC_mvB BK190) hb)
                have n7_ := Aside0.mk (blk_below (g := gb191) (o := .cells #[.int .i64 a1_0, .int .i64 a1_1, .int .i64 a1_2] 34 (0, 0)) (zFEAC_mvB BK191) hb)
                have n8_ := Aside0.mk (blk_below (g := gb205) (o := .cells #[.int .i64 t200, .slice Ao52 t201.length co52] 29 (0, 0)) (zFEAC_mvB BK205) hb)
                have n9_ := Aside0.mk (blk_below (g := gb210) (o := .cells #[.int .i64 t206, .slice Ao62 t207.length co62] 29 (0, 0)) (zFEAC_mvB BK210) hb)
                have n10_ := Aside0.mk (blk_below (g := gb219) (o := .cells #[.int .i64 t214, .slice Ao70 t215.length co70] 29 (0, 0)) (zFEAC_mvB BK219) hb)
                have n11_ := Aside0.mk (blk_below (g := gb244) (o := .cells #[.int .i64 0, .slice none 0 0] 29 (0, 0)) (zFEAC_mvB BK244) hb)
                have n12_ := Aside0.mk (below_step (zFEAC_mvH6 HB GE190 GE191 GE205 GE210 GE219 GE244) hb)
                clear HO196 HO203 HO209 HO217 HO224 HO235 BK190 BK191 BK205 BK210 BK219 BK244 HB
                have HO196 := n0_
                have HO203 := n1_
                have HO209 := n2_
                have HO217 := n3_
                have HO224 := n4_
                have HO235 := n5_
                have BK190 := n6_
                have BK191 := n7_
                have BK205 := n8_
                have BK210 := n9_
                have BK219 := n10_
                have BK244 := n11_
                have HB := n12_
                clear n0_ n1_ n2_ n3_ n4_ n5_ n6_ n7_ n8_ n9_ n10_ n11_ n12_
                (try clear hb)
                (try clear hb2)
                (try clear hk)
                (try clear hi)
                obtain ⟨Ao97, co97, eo97⟩ := Kd.R_slice HO235.out
                (first | subst eo97 | (injection eo97 with f1_ f2_ f3_; have f4_ := f1_.symm; have f5_ := f3_.symm; clear f1_ f2_ f3_; subst f4_; subst f5_))
                refine hK.out _ _ ⟨(blk_cell BK190.out 0).trans rfl, (blk_cell BK190.out 1).trans rfl, (blk_cell BK191.out 0).trans rfl, (blk_cell BK191.out 1).trans rfl, (blk_cell BK191.out 2).trans rfl⟩ (fun hHeld => ?_)
                clear hK K
                refine norm_ (a' := ?_) ?_ ?_
                rotate_left
                ·show Act.put _ (some 83) _ = _
                 simp only [Act.put, List.setIfInBounds_toArray, List.set_cons_zero, List.set_cons_succ, i64_w, i32_w]
                 rfl
                refine one_ (i := 4) (N := some 84) #[true, true, true, true, true, false, false, false, true, false, false] rfl rfl (one_of HT_.out (by kernel_rfl)) (by decide) (fun K hK => ?_)
                refine goes_ Try.func13 (by kernel_rfl) rfl #[.agg #[.int .i64 t232, .slice Ao97 t233.length co97], .agg #[.int .i64 t236, .int .i64 t237, .int .i64 t238]] (by rfl) rfl rfl zFEAC_mvE ?_
                with_reducible refine (impl_AddClue.calls k t232 _ _ t233 t236 t237 t238 t239 t240 t243 _ ?side1 ?side2 A32.out).mono ?_
                (case side1 => repeat (first | exact (Kd.R_reads' HO235.out).2.2 | (with_reducible refine Kd.C_alloc ?_ _) | (with_reducible refine Kd.C_drewN ?_ _) | (with_reducible refine Kd.C_drew ?_)))
                (case side2 => exact (Kd.R_reads' HO235.out).2.1)
                rintro e w98 ⟨v241, rfl, ho0, hb⟩
                refine ⟨_, rfl, ?_⟩
                have n0_ := Aside0.mk (Kd.R_elder' (zFEAC_mvR HO196) (Kd.R_base ho0) hb)
                have n1_ := Aside0.mk (Kd.R_elder' (zFEAC_mvR HO203) (Kd.R_base ho0) hb)
                have n2_ := Aside0.mk (Kd.R_elder' (zFEAC_mvR HO209) (Kd.R_base ho0) hb)
                have n3_ := Aside0.mk (Kd.R_elder' (zFEAC_mvR HO217) (Kd.R_base ho0) hb)
                have n4_ := Aside0.mk (Kd.R_elder' (zFEAC_mvR HO224) (Kd.R_base ho0) hb)
                have n5_ := Aside0.mk (Kd.R_elder' (zFEAC_mvR HO235) (Kd.R_base ho0) hb)
                have n6_ := Aside0.mk (Kd.R_lower (Kd.R_new' (Kd.R_new' (Kd.R_new' (Kd.R_new' (Kd.R_new' (Kd.R_new' ho0 (Kd.R_lt (zFEAC_mvR HO196))) (Kd.R_lt (zFEAC_mvR HO203))) (Kd.R_lt (zFEAC_mvR HO209))) (Kd.R_lt (zFEAC_mvR HO217))) (Kd.R_lt (zFEAC_mvR HO224))) (Kd.R_lt (zFEAC_mvR HO235))) (below_size (zFEAC_mvH6 HB GE190 GE191 GE205 GE210 GE219 GE244)))
                have n7_ := Aside0.mk (blk_below (g := gb190) (o := .cells #[.int .i64 a0_0, .slice A0_1 l0_1.length c0_1] 24 (0, 0)) (zFEAC_mvB BK190) hb)
                have n8_ := Aside0.mk (blk_below (g := gb191) (o := .cells #[.int .i64 a1_0, .int .i64 a1_1, .int .i64 a1_2] 34 (0, 0)) (zFEAC_mvB BK191) hb)
                have n9_ := Aside0.mk (blk_below (g := gb205) (o := .cells #[.int .i64 t200, .slice Ao52 t201.length co52] 29 (0, 0)) (zFEAC_mvB BK205) hb)
                have n10_ := Aside0.mk (blk_below (g := gb210) (o := .cells #[.int .i64 t206, .slice Ao62 t207.length co62] 29 (0, 0)) (zFEAC_mvB BK210) hb)
                have n11_ := Aside0.mk (blk_below (g := gb219) (o := .cells #[.int .i64 t214, .slice Ao70 t215.length co70] 29 (0, 0)) (zFEAC_mvB BK219) hb)
                have n12_ := Aside0.mk (blk_below (g := gb244) (o := .cells #[.int .i64 0, .slice none 0 0] 29 (0, 0)) (zFEAC_mvB BK244) hb)
                have n13_ := Aside0.mk (below_step (zFEAC_mvH6 HB GE190 GE191 GE205 GE210 GE219 GE244) hb)
                clear HO196 HO203 HO209 HO217 HO224 HO235 BK190 BK191 BK205 BK210 BK219 BK244 HB
                have HO196 := n0_
                have HO203 := n1_
                have HO209 := n2_
                have HO217 := n3_
                have HO224 := n4_
                have HO235 := n5_
                have HO242 := n6_
                have BK190 := n7_
                have BK191 := n8_
                have BK205 := n9_
                have BK210 := n10_
                have BK219 := n11_
                have BK244 := n12_
                have HB := n13_
                clear n0_ n1_ n2_ n3_ n4_ n5_ n6_ n7_ n8_ n9_ n10_ n11_ n12_ n13_
                (try clear hb)
                (try clear hb2)
                (try clear hk)
                (try clear hi)
                (try clear ho0)
                refine hK.out _ _ ⟨(blk_cell BK190.out 0).trans rfl, (blk_cell BK190.out 1).trans rfl, (blk_cell BK191.out 0).trans rfl, (blk_cell BK191.out 1).trans rfl, (blk_cell BK191.out 2).trans rfl⟩ (fun hHeld => ?_)
                clear hK K
                refine norm_ (a' := ?_) ?_ ?_
                rotate_left
                ·show Act.put _ (some 84) _ = _
                 simp only [Act.put, List.setIfInBounds_toArray, List.set_cons_zero, List.set_cons_succ, i64_w, i32_w]
                 rfl
                refine pure_ (i := 5) (N := some 79) (v := ?_) (a' := ?_) #[true, true, true, true, true, true, false, false, true, false, false] rfl rfl (any_of HT_.out (by kernel_rfl)) (fun _ _ _ h => h) (Or.inl ⟨by rfl, ?_⟩) ?_ ?_
                rotate_left
                ·intro w'
                 go_simp
                 with_reducible rfl
                rotate_left
                ·simp only [Act.put, List.setIfInBounds_toArray, List.set_cons_zero, List.set_cons_succ, i64_w, i32_w]
                 rfl
                refine pure_ (i := 6) (N := some 85) (v := ?_) (a' := ?_) #[true, true, true, true, true, true, true, false, true, false, false] rfl rfl (any_of HT_.out (by kernel_rfl)) (fun _ _ _ h => h) (Or.inl ⟨by rfl, ?_⟩) ?_ ?_
                rotate_left
                ·intro w'
                 go_simp
                 with_reducible rfl
                rotate_left
                ·simp only [Act.put, List.setIfInBounds_toArray, List.set_cons_zero, List.set_cons_succ, i64_w, i32_w]
                 rfl
                refine pure_ (i := 7) (N := some 86) (v := ?_) (a' := ?_) #[true, true, true, true, true, true, true, true, true, false, false] rfl rfl (any_of HT_.out (by kernel_rfl)) (fun _ _ _ h => h) (Or.inl ⟨by rfl, ?_⟩) ?_ ?_
                rotate_left
                ·intro w'
                 go_simp
                 with_reducible rfl
                rotate_left
                ·simp only [Act.put, List.setIfInBounds_toArray, List.set_cons_zero, List.set_cons_succ, i64_w, i32_w]
                 rfl
                exact norm_ (by simp only [putAll, Act.put, List.setIfInBounds_toArray, List.set_cons_zero, List.set_cons_succ]) (hCont (.slice Ao97 t233.length co97, v241, gb244) _ ⟨hHeld, (by (with_reducible repeat (first | apply Kd.R_alloc | apply Kd.R_drewN | apply Kd.R_drew)); exact Kd.R_mono HO196.out (fun _ hk => ⟨hk.1.1.1, ⟨hk.1.1.2.1, ⟨hk.1.1.2.2.1, ⟨hk.1.1.2.2.2, ⟨hk.1.2, hk.2⟩⟩⟩⟩⟩)), (by (with_reducible repeat (first | apply Kd.R_alloc | apply Kd.R_drewN | apply Kd.R_drew)); exact Kd.R_mono HO203.out (fun _ hk => ⟨hk.1.1.1, ⟨hk.1.1.2.1, ⟨hk.1.1.2.2.1, ⟨hk.1.1.2.2.2, ⟨hk.1.2, hk.2⟩⟩⟩⟩⟩)), (by (with_reducible repeat (first | apply Kd.R_alloc | apply Kd.R_drewN | apply Kd.R_drew)); exact Kd.R_mono HO209.out (fun _ hk => ⟨hk.1.1.1, ⟨hk.1.1.2.1, ⟨hk.1.1.2.2.1, ⟨hk.1.1.2.2.2, ⟨hk.1.2, hk.2⟩⟩⟩⟩⟩)), (by (with_reducible repeat (first | apply Kd.R_alloc | apply Kd.R_drewN | apply Kd.R_drew)); exact Kd.R_mono HO217.out (fun _ hk => ⟨hk.1.1.1, ⟨hk.1.1.2.1, ⟨hk.1.1.2.2.1, ⟨hk.1.1.2.2.2, ⟨hk.1.2, hk.2⟩⟩⟩⟩⟩)), (by (with_reducible repeat (first | apply Kd.R_alloc | apply Kd.R_drewN | apply Kd.R_drew)); exact Kd.R_mono HO224.out (fun _ hk => ⟨hk.1.1.1, ⟨hk.1.1.2.1, ⟨hk.1.1.2.2.1, ⟨hk.1.1.2.2.2, ⟨hk.1.2, hk.2⟩⟩⟩⟩⟩)), (by (with_reducible repeat (first | apply Kd.R_alloc | apply Kd.R_drewN | apply Kd.R_drew)); exact Kd.R_mono HO235.out (fun _ hk => ⟨hk.1.1.1.1.1.2, ⟨hk.1.1.1.1.2, ⟨hk.1.1.1.2, ⟨hk.1.1.2, ⟨hk.1.2, hk.2⟩⟩⟩⟩⟩)), (by (with_reducible repeat (first | apply Kd.R_alloc | apply Kd.R_drewN | apply Kd.R_drew)); exact Kd.R_mono HO242.out (fun _ hk => ⟨hk.1.1.1.1.1.2, ⟨hk.1.1.1.1.2, ⟨hk.1.1.1.2, ⟨hk.1.1.2, ⟨hk.1.2, hk.2⟩⟩⟩⟩⟩)), (zFEAC_mvB BK190), (zFEAC_mvB BK191), (zFEAC_mvB BK205), (zFEAC_mvB BK210), (zFEAC_mvB BK219), (zFEAC_mvB BK244), GW244.out, GE244.out, NB190_244.out, NB244_190.out, NB191_244.out, NB244_191.out, NB205_244.out, NB244_205.out, NB210_244.out, NB244_210.out, NB219_244.out, NB244_219.out, (zFEAC_mvH6 HB GE190 GE191 GE205 GE210 GE219 GE244)⟩)
              ·skip
               refine box_step ?hg (N := 14) ?hd (cs := #[.int .i64 0, .slice none 0 0]) (t := 29) ?hr ?_; (case hd => rfl); (case hg => rfl); (case hr => first | (go_simp; done) | (go_simp; rfl))
               intro gb244 hg w94 hbox hb
               have n0_ := Aside0.mk (Kd.R_below (zFEAC_mvR HO196) hb)
               have n1_ := Aside0.mk (Kd.R_below (zFEAC_mvR HO203) hb)
               have n2_ := Aside0.mk (Kd.R_below (zFEAC_mvR HO209) hb)
               have n3_ := Aside0.mk (Kd.R_below (zFEAC_mvR HO217) hb)
               have n4_ := Aside0.mk (Kd.R_below (zFEAC_mvR HO224) hb)
               have n5_ := Aside0.mk (blk_below (g := gb190) (o := .cells #[.int .i64 a0_0, .slice A0_1 l0_1.length c0_1] 24 (0, 0)) (zFEAC_mvB BK190) hb)
               have n6_ := Aside0.mk (blk_below (g := gb191) (o := .cells #[.int .i64 a1_0, .int .i64 a1_1, .int .i64 a1_2] 34 (0, 0)) (zFEAC_mvB BK191) hb)
               have n7_ := Aside0.mk (blk_below (g := gb205) (o := .cells #[.int .i64 t200, .slice Ao52 t201.length co52] 29 (0, 0)) (zFEAC_mvB BK205) hb)
               have n8_ := Aside0.mk (blk_below (g := gb210) (o := .cells #[.int .i64 t206, .slice Ao62 t207.length co62] 29 (0, 0)) (zFEAC_mvB BK210) hb)
               have n9_ := Aside0.mk (blk_below (g := gb219) (o := .cells #[.int .i64 t214, .slice Ao70 t215.length co70] 29 (0, 0)) (zFEAC_mvB BK219) hb)
               have n10_ := Aside0.mk (below_step (zFEAC_mvH5 HB GE190 GE191 GE205 GE210 GE219) hb)
               have n11_ := Aside0.mk (hbox)
               have n12_ := Aside0.mk ((by rw [hg]; exact (below_size (zFEAC_mvH5 HB GE190 GE191 GE205 GE210 GE219)) : w.heap.size ≤ gb244))
               have n13_ := Aside0.mk ((by rw [hg]; exact (below_size (zFEAC_mvH5 HB GE190 GE191 GE205 GE210 GE219)) : w.heap.size ≤ gb244))
               have n14_ := Aside0.mk ((by rw [hg]; exact Nat.ne_of_lt (blk_lt (g := gb190) (o := .cells #[.int .i64 a0_0, .slice A0_1 l0_1.length c0_1] 24 (0, 0)) (zFEAC_mvB BK190)) : gb190 ≠ gb244))
               have n15_ := Aside0.mk ((by rw [hg]; exact Nat.ne_of_gt (blk_lt (g := gb190) (o := .cells #[.int .i64 a0_0, .slice A0_1 l0_1.length c0_1] 24 (0, 0)) (zFEAC_mvB BK190)) : gb244 ≠ gb190))
               have n16_ := Aside0.mk ((by rw [hg]; exact Nat.ne_of_lt (blk_lt (g := gb191) (o := .cells #[.int .i64 a1_0, .int .i64 a1_1, .int .i64 a1_2] 34 (0, 0)) (zFEAC_mvB BK191)) : gb191 ≠ gb244))
               have n17_ := Aside0.mk ((by rw [hg]; exact Nat.ne_of_gt (blk_lt (g := gb191) (o := .cells #[.int .i64 a1_0, .int .i64 a1_1, .int .i64 a1_2] 34 (0, 0)) (zFEAC_mvB BK191)) : gb244 ≠ gb191))
               have n18_ := Aside0.mk ((by rw [hg]; exact Nat.ne_of_lt (blk_lt (g := gb205) (o := .cells #[.int .i64 t200, .slice Ao52 t201.length co52] 29 (0, 0)) (zFEAC_mvB BK205)) : gb205 ≠ gb244))
               have n19_ := Aside0.mk ((by rw [hg]; exact Nat.ne_of_gt (blk_lt (g := gb205) (o := .cells #[.int .i64 t200, .slice Ao52 t201.length co52] 29 (0, 0)) (zFEAC_mvB BK205)) : gb244 ≠ gb205))
               have n20_ := Aside0.mk ((by rw [hg]; exact Nat.ne_of_lt (blk_lt (g := gb210) (o := .cells #[.int .i64 t206, .slice Ao62 t207.length co62] 29 (0, 0)) (zFEAC_mvB BK210)) : gb210 ≠ gb244))
               have n21_ := Aside0.mk ((by rw [hg]; exact Nat.ne_of_gt (blk_lt (g := gb210) (o := .cells #[.int .i64 t206, .slice Ao62 t207.length co62] 29 (0, 0)) (zFEAC_mvB BK210)) : gb244 ≠ gb210))
               have n22_ := Aside0.mk ((by rw [hg]; exact Nat.ne_of_lt (blk_lt (g := gb219) (o := .cells #[.int .i64 t214, .slice Ao70 t215.length co70] 29 (0, 0)) (zFEAC_mvB BK219)) : gb219 ≠ gb244))
               have n23_ := Aside0.mk ((by rw [hg]; exact Nat.ne_of_gt (blk_lt (g := gb219) (o := .cells #[.int .i64 t214, .slice Ao70 t215.length co70] 29 (0, 0)) (zFEAC_mvB BK219)) : gb244 ≠ gb219))
               clear HO196 HO203 HO209 HO217 HO224 BK190 BK191 BK205 BK210 BK219 HB
               have HO196 := n0_
               have HO203 := n1_
               have HO209 := n2_
               have HO217 := n3_
               have HO224 := n4_
               have BK190 := n5_
               have BK191 := n6_
               have BK205 := n7_
               have BK210 := n8_
               have BK219 := n9_
               have HB := n10_
               have BK244 := n11_
               have GW244 := n12_
               have GE244 := n13_
               have NB190_244 := n14_
               have NB244_190 := n15_
               have NB191_244 := n16_
               have NB244_191 := n17_
               have NB205_244 := n18_
               have NB244_205 := n19_
               have NB210_244 := n20_
               have NB244_210 := n21_
               have NB219_244 := n22_
               have NB244_219 := n23_
               clear n0_ n1_ n2_ n3_ n4_ n5_ n6_ n7_ n8_ n9_ n10_ n11_ n12_ n13_ n14_ n15_ n16_ n17_ n18_ n19_ n20_ n21_ n22_ n23_
               clear hb hbox hg
               refine hK.out _ _ ⟨(blk_cell BK190.out 0).trans rfl, (blk_cell BK190.out 1).trans rfl, (blk_cell BK191.out 0).trans rfl, (blk_cell BK191.out 1).trans rfl, (blk_cell BK191.out 2).trans rfl⟩ (fun hHeld => ?_)
               clear hK K
               refine norm_ (a' := ?_) ?_ ?_
               rotate_left
               ·show Act.put _ (some 14) _ = _
                simp only [Act.put, List.setIfInBounds_toArray, List.set_cons_zero, List.set_cons_succ, i64_w, i32_w]
                rfl
               refine one_ (i := 1) (N := some 81) #[true, true, true, false, false, false, false, false, true, false, false] rfl rfl (one_of HT_.out (by kernel_rfl)) (by decide) (fun K hK => ?_)
               refine goes_ Try.func8 (by kernel_rfl) rfl #[.agg #[.int .i64 a0_0, .slice A0_1 l0_1.length c0_1]] (by rfl) rfl rfl zFEAC_mvE ?_
               with_reducible refine (laws_toPuzzle.calls k a0_0 _ _ l0_1 t232 t233 _ ?side1 ?side2 A30.out).mono ?_
               (case side1 => repeat (first | exact (Kd.C_below HR0_1.out HB.out) | (with_reducible refine Kd.C_alloc ?_ _) | (with_reducible refine Kd.C_drewN ?_ _) | (with_reducible refine Kd.C_drew ?_)))
               (case side2 => exact HC0_1.out)
               rintro e w95 ⟨v234, rfl, ho0, hb⟩
               refine ⟨_, rfl, ?_⟩
               have n0_ := Aside0.mk (Kd.R_elder' (zFEAC_mvR HO196) (Kd.R_base ho0) hb)
               have n1_ := Aside0.mk (Kd.R_elder' (zFEAC_mvR HO203) (Kd.R_base ho0) hb)
               have n2_ := Aside0.mk (Kd.R_elder' (zFEAC_mvR HO209) (Kd.R_base ho0) hb)
               have n3_ := Aside0.mk (Kd.R_elder' (zFEAC_mvR HO217) (Kd.R_base ho0) hb)
               have n4_ := Aside0.mk (Kd.R_elder' (zFEAC_mvR HO224) (Kd.R_base ho0) hb)
               have n5_ := Aside0.mk (Kd.R_lower (Kd.R_new' (Kd.R_new' (Kd.R_new' (Kd.R_new' (Kd.R_new' ho0 (Kd.R_lt (zFEAC_mvR HO196))) (Kd.R_lt (zFEAC_mvR HO203))) (Kd.R_lt (zFEAC_mvR HO209))) (Kd.R_lt (zFEAC_mvR HO217))) (Kd.R_lt (zFEAC_mvR HO224))) (below_size (zFEAC_mvH6 HB GE190 GE191 GE205 GE210 GE219 GE244)))
               have n6_ := Aside0.mk (blk_below (g := gb190) (o := .cells #[.int .i64 a0_0, .slice A0_1 l0_1.length c0_1] 24 (0, 0)) (zFEAC_mvB BK190) hb)
               have n7_ := Aside0.mk (blk_below (g := gb191) (o := .cells #[.int .i64 a1_0, .int .i64 a1_1, .int .i64 a1_2] 34 (0, 0)) (zFEAC_mvB BK191) hb)
               have n8_ := Aside0.mk (blk_below (g := gb205) (o := .cells #[.int .i64 t200, .slice Ao52 t201.length co52] 29 (0, 0)) (zFEAC_mvB BK205) hb)
               have n9_ := Aside0.mk (blk_below (g := gb210) (o := .cells #[.int .i64 t206, .slice Ao62 t207.length co62] 29 (0, 0)) (zFEAC_mvB BK210) hb)
               have n10_ := Aside0.mk (blk_below (g := gb219) (o := .cells #[.int .i64 t214, .slice Ao70 t215.length co70] 29 (0, 0)) (zFEAC_mvB BK219) hb)
               have n11_ := Aside0.mk (blk_below (g := gb244) (o := .cells #[.int .i64 0, .slice none 0 0] 29 (0, 0)) (zFEAC_mvB BK244) hb)
               have n12_ := Aside0.mk (below_step (zFEAC_mvH6 HB GE190 GE191 GE205 GE210 GE219 GE244) hb)
               clear HO196 HO203 HO209 HO217 HO224 BK190 BK191 BK205 BK210 BK219 BK244 HB
               have HO196 := n0_
               have HO203 := n1_
               have HO209 := n2_
               have HO217 := n3_
               have HO224 := n4_
               have HO235 := n5_
               have BK190 := n6_
               have BK191 := n7_
               have BK205 := n8_
               have BK210 := n9_
               have BK219 := n10_
               have BK244 := n11_
               have HB := n12_
               clear n0_ n1_ n2_ n3_ n4_ n5_ n6_ n7_ n8_ n9_ n10_ n11_ n12_
               (try clear hb)
               (try clear hb2)
               (try clear hk)
               (try clear hi)
               (try clear ho0)
               refine hK.out _ _ ⟨(blk_cell BK190.out 0).trans rfl, (blk_cell BK190.out 1).trans rfl, (blk_cell BK191.out 0).trans rfl, (blk_cell BK191.out 1).trans rfl, (blk_cell BK191.out 2).trans rfl⟩ (fun hHeld => ?_)
               clear hK K
               refine norm_ (a' := ?_) ?_ ?_
               rotate_left
               ·show Act.put _ (some 81) _ = _
                simp only [Act.put, List.setIfInBounds_toArray, List.set_cons_zero, List.set_cons_succ, i64_w, i32_w]
                rfl
               refine one_ (i := 3) (N := some 83) #[true, true, true, true, false, false, false, false, true, false, false] rfl rfl (one_of HT_.out (by kernel_rfl)) (by decide) (fun K hK => ?_)
               refine goes_ Try.func12 (by kernel_rfl) rfl #[.agg #[.int .i64 a1_0, .int .i64 a1_1, .int .i64 a1_2]] (by rfl) rfl rfl zFEAC_mvE ?_
               with_reducible refine (laws_toClue.calls a1_0 a1_1 a1_2 t236 t237 t238 _ A31.out).mono ?_
               rintro e w96 ⟨rfl, hb⟩
               refine ⟨_, rfl, ?_⟩
               have n0_ := Aside0.mk (Kd.R_below (zFEAC_mvR HO196) hb)
               have n1_ := Aside0.mk (Kd.R_below (zFEAC_mvR HO203) hb)
               have n2_ := Aside0.mk (Kd.R_below (zFEAC_mvR HO209) hb)
               have n3_ := Aside0.mk (Kd.R_below (zFEAC_mvR HO217) hb)
               have n4_ := Aside0.mk (Kd.R_below (zFEAC_mvR HO224) hb)
               have n5_ := Aside0.mk (Kd.R_below (zFEAC_mvR HO235) hb)
               have n6_ := Aside0.mk (blk_below (g := gb190) (o := .cells #[.int .i64 a0_0, .slice A0_1 l0_1.length c0_1] 24 (0, 0)) (zFEAC_mvB BK190) hb)
               have n7_ := Aside0.mk (blk_below (g := gb191) (o := .cells #[.int .i64 a1_0, .int .i64 a1_1, .int .i64 a1_2] 34 (0, 0)) (zFEAC_mvB BK191) hb)
               have n8_ := Aside0.mk (blk_below (g := gb205) (o := .cells #[.int .i64 t200, .slice Ao52 t201.length co52] 29 (0, 0)) (zFEAC_mvB BK205) hb)
               have n9_ := Aside0.mk (blk_below (g := gb210) (o := .cells #[.int .i64 t206, .slice Ao62 t207.length co62] 29 (0, 0)) (zFEAC_mvB BK210) hb)
               have n10_ := Aside0.mk (blk_below (g := gb219) (o := .cells #[.int .i64 t214, .slice Ao70 t215.length co70] 29 (0, 0)) (zFEAC_mvB BK219) hb)
               have n11_ := Aside0.mk (blk_below (g := gb244) (o := .cells #[.int .i64 0, .slice none 0 0] 29 (0, 0)) (zFEAC_mvB BK244) hb)
               have n12_ := Aside0.mk (below_step (zFEAC_mvH6 HB GE190 GE191 GE205 GE210 GE219 GE244) hb)
               clear HO196 HO203 HO209 HO217 HO224 HO235 BK190 BK191 BK205 BK210 BK219 BK244 HB
               have HO196 := n0_
               have HO203 := n1_
               have HO209 := n2_
               have HO217 := n3_
               have HO224 := n4_
               have HO235 := n5_
               have BK190 := n6_
               have BK191 := n7_
               have BK205 := n8_
               have BK210 := n9_
               have BK219 := n10_
               have BK244 := n11_
               have HB := n12_
               clear n0_ n1_ n2_ n3_ n4_ n5_ n6_ n7_ n8_ n9_ n10_ n11_ n12_
               (try clear hb)
               (try clear hb2)
               (try clear hk)
               (try clear hi)
               obtain ⟨Ao97, co97, eo97⟩ := Kd.R_slice HO235.out
               (first | subst eo97 | (injection eo97 with f1_ f2_ f3_; have f4_ := f1_.symm; have f5_ := f3_.symm; clear f1_ f2_ f3_; subst f4_; subst f5_))
               refine hK.out _ _ ⟨(blk_cell BK190.out 0).trans rfl, (blk_cell BK190.out 1).trans rfl, (blk_cell BK191.out 0).trans rfl, (blk_cell BK191.out 1).trans rfl, (blk_cell BK191.out 2).trans rfl⟩ (fun hHeld => ?_)
               clear hK K
               refine norm_ (a' := ?_) ?_ ?_
               rotate_left
               ·show Act.put _ (some 83) _ = _
                simp only [Act.put, List.setIfInBounds_toArray, List.set_cons_zero, List.set_cons_succ, i64_w, i32_w]
                rfl
               refine one_ (i := 4) (N := some 84) #[true, true, true, true, true, false, false, false, true, false, false] rfl rfl (one_of HT_.out (by kernel_rfl)) (by decide) (fun K hK => ?_)
               refine goes_ Try.func13 (by kernel_rfl) rfl #[.agg #[.int .i64 t232, .slice Ao97 t233.length co97], .agg #[.int .i64 t236, .int .i64 t237, .int .i64 t238]] (by rfl) rfl rfl zFEAC_mvE ?_
               with_reducible refine (impl_AddClue.calls k t232 _ _ t233 t236 t237 t238 t239 t240 t243 _ ?side1 ?side2 A32.out).mono ?_
               (case side1 => repeat (first | exact (Kd.R_reads' HO235.out).2.2 | (with_reducible refine Kd.C_alloc ?_ _) | (with_reducible refine Kd.C_drewN ?_ _) | (with_reducible refine Kd.C_drew ?_)))
               (case side2 => exact (Kd.R_reads' HO235.out).2.1)
               rintro e w98 ⟨v241, rfl, ho0, hb⟩
               refine ⟨_, rfl, ?_⟩
               have n0_ := Aside0.mk (Kd.R_elder' (zFEAC_mvR HO196) (Kd.R_base ho0) hb)
               have n1_ := Aside0.mk (Kd.R_elder' (zFEAC_mvR HO203) (Kd.R_base ho0) hb)
               have n2_ := Aside0.mk (Kd.R_elder' (zFEAC_mvR HO209) (Kd.R_base ho0) hb)
               have n3_ := Aside0.mk (Kd.R_elder' (zFEAC_mvR HO217) (Kd.R_base ho0) hb)
               have n4_ := Aside0.mk (Kd.R_elder' (zFEAC_mvR HO224) (Kd.R_base ho0) hb)
               have n5_ := Aside0.mk (Kd.R_elder' (zFEAC_mvR HO235) (Kd.R_base ho0) hb)
               have n6_ := Aside0.mk (Kd.R_lower (Kd.R_new' (Kd.R_new' (Kd.R_new' (Kd.R_new' (Kd.R_new' (Kd.R_new' ho0 (Kd.R_lt (zFEAC_mvR HO196))) (Kd.R_lt (zFEAC_mvR HO203))) (Kd.R_lt (zFEAC_mvR HO209))) (Kd.R_lt (zFEAC_mvR HO217))) (Kd.R_lt (zFEAC_mvR HO224))) (Kd.R_lt (zFEAC_mvR HO235))) (below_size (zFEAC_mvH6 HB GE190 GE191 GE205 GE210 GE219 GE244)))
               have n7_ := Aside0.mk (blk_below (g := gb190) (o := .cells #[.int .i64 a0_0, .slice A0_1 l0_1.length c0_1] 24 (0, 0)) (zFEAC_mvB BK190) hb)
               have n8_ := Aside0.mk (blk_below (g := gb191) (o := .cells #[.int .i64 a1_0, .int .i64 a1_1, .int .i64 a1_2] 34 (0, 0)) (zFEAC_mvB BK191) hb)
               have n9_ := Aside0.mk (blk_below (g := gb205) (o := .cells #[.int .i64 t200, .slice Ao52 t201.length co52] 29 (0, 0)) (zFEAC_mvB BK205) hb)
               have n10_ := Aside0.mk (blk_below (g := gb210) (o := .cells #[.int .i64 t206, .slice Ao62 t207.length co62] 29 (0, 0)) (zFEAC_mvB BK210) hb)
               have n11_ := Aside0.mk (blk_below (g := gb219) (o := .cells #[.int .i64 t214, .slice Ao70 t215.length co70] 29 (0, 0)) (zFEAC_mvB BK219) hb)
               have n12_ := Aside0.mk (blk_below (g := gb244) (o := .cells #[.int .i64 0, .slice none 0 0] 29 (0, 0)) (zFEAC_mvB BK244) hb)
               have n13_ := Aside0.mk (below_step (zFEAC_mvH6 HB GE190 GE191 GE205 GE210 GE219 GE244) hb)
               clear HO196 HO203 HO209 HO217 HO224 HO235 BK190 BK191 BK205 BK210 BK219 BK244 HB
               have HO196 := n0_
               have HO203 := n1_
               have HO209 := n2_
               have HO217 := n3_
               have HO224 := n4_
               have HO235 := n5_
               have HO242 := n6_
               have BK190 := n7_
               have BK191 := n8_
               have BK205 := n9_
               have BK210 := n10_
               have BK219 := n11_
               have BK244 := n12_
               have HB := n13_
               clear n0_ n1_ n2_ n3_ n4_ n5_ n6_ n7_ n8_ n9_ n10_ n11_ n12_ n13_
               (try clear hb)
               (try clear hb2)
               (try clear hk)
               (try clear hi)
               (try clear ho0)
               refine hK.out _ _ ⟨(blk_cell BK190.out 0).trans rfl, (blk_cell BK190.out 1).trans rfl, (blk_cell BK191.out 0).trans rfl, (blk_cell BK191.out 1).trans rfl, (blk_cell BK191.out 2).trans rfl⟩ (fun hHeld => ?_)
               clear hK K
               refine norm_ (a' := ?_) ?_ ?_
               rotate_left
               ·show Act.put _ (some 84) _ = _
                simp only [Act.put, List.setIfInBounds_toArray, List.set_cons_zero, List.set_cons_succ, i64_w, i32_w]
                rfl
               refine pure_ (i := 5) (N := some 79) (v := ?_) (a' := ?_) #[true, true, true, true, true, true, false, false, true, false, false] rfl rfl (any_of HT_.out (by kernel_rfl)) (fun _ _ _ h => h) (Or.inl ⟨by rfl, ?_⟩) ?_ ?_
               rotate_left
               ·intro w'
                go_simp
                with_reducible rfl
               rotate_left
               ·simp only [Act.put, List.setIfInBounds_toArray, List.set_cons_zero, List.set_cons_succ, i64_w, i32_w]
                rfl
               refine pure_ (i := 6) (N := some 85) (v := ?_) (a' := ?_) #[true, true, true, true, true, true, true, false, true, false, false] rfl rfl (any_of HT_.out (by kernel_rfl)) (fun _ _ _ h => h) (Or.inl ⟨by rfl, ?_⟩) ?_ ?_
               rotate_left
               ·intro w'
                go_simp
                with_reducible rfl
               rotate_left
               ·simp only [Act.put, List.setIfInBounds_toArray, List.set_cons_zero, List.set_cons_succ, i64_w, i32_w]
                rfl
               refine pure_ (i := 7) (N := some 86) (v := ?_) (a' := ?_) #[true, true, true, true, true, true, true, true, true, false, false] rfl rfl (any_of HT_.out (by kernel_rfl)) (fun _ _ _ h => h) (Or.inl ⟨by rfl, ?_⟩) ?_ ?_
               rotate_left
               ·intro w'
                go_simp
                with_reducible rfl
               rotate_left
               ·simp only [Act.put, List.setIfInBounds_toArray, List.set_cons_zero, List.set_cons_succ, i64_w, i32_w]
                rfl
               exact norm_ (by simp only [putAll, Act.put, List.setIfInBounds_toArray, List.set_cons_zero, List.set_cons_succ]) (hCont (.slice Ao97 t233.length co97, v241, gb244) _ ⟨hHeld, (by (with_reducible repeat (first | apply Kd.R_alloc | apply Kd.R_drewN | apply Kd.R_drew)); exact Kd.R_mono HO196.out (fun _ hk => ⟨hk.1.1.1, ⟨hk.1.1.2.1, ⟨hk.1.1.2.2.1, ⟨hk.1.1.2.2.2, ⟨hk.1.2, hk.2⟩⟩⟩⟩⟩)), (by (with_reducible repeat (first | apply Kd.R_alloc | apply Kd.R_drewN | apply Kd.R_drew)); exact Kd.R_mono HO203.out (fun _ hk => ⟨hk.1.1.1, ⟨hk.1.1.2.1, ⟨hk.1.1.2.2.1, ⟨hk.1.1.2.2.2, ⟨hk.1.2, hk.2⟩⟩⟩⟩⟩)), (by (with_reducible repeat (first | apply Kd.R_alloc | apply Kd.R_drewN | apply Kd.R_drew)); exact Kd.R_mono HO209.out (fun _ hk => ⟨hk.1.1.1, ⟨hk.1.1.2.1, ⟨hk.1.1.2.2.1, ⟨hk.1.1.2.2.2, ⟨hk.1.2, hk.2⟩⟩⟩⟩⟩)), (by (with_reducible repeat (first | apply Kd.R_alloc | apply Kd.R_drewN | apply Kd.R_drew)); exact Kd.R_mono HO217.out (fun _ hk => ⟨hk.1.1.1, ⟨hk.1.1.2.1, ⟨hk.1.1.2.2.1, ⟨hk.1.1.2.2.2, ⟨hk.1.2, hk.2⟩⟩⟩⟩⟩)), (by (with_reducible repeat (first | apply Kd.R_alloc | apply Kd.R_drewN | apply Kd.R_drew)); exact Kd.R_mono HO224.out (fun _ hk => ⟨hk.1.1.1, ⟨hk.1.1.2.1, ⟨hk.1.1.2.2.1, ⟨hk.1.1.2.2.2, ⟨hk.1.2, hk.2⟩⟩⟩⟩⟩)), (by (with_reducible repeat (first | apply Kd.R_alloc | apply Kd.R_drewN | apply Kd.R_drew)); exact Kd.R_mono HO235.out (fun _ hk => ⟨hk.1.1.1.1.1.2, ⟨hk.1.1.1.1.2, ⟨hk.1.1.1.2, ⟨hk.1.1.2, ⟨hk.1.2, hk.2⟩⟩⟩⟩⟩)), (by (with_reducible repeat (first | apply Kd.R_alloc | apply Kd.R_drewN | apply Kd.R_drew)); exact Kd.R_mono HO242.out (fun _ hk => ⟨hk.1.1.1.1.1.2, ⟨hk.1.1.1.1.2, ⟨hk.1.1.1.2, ⟨hk.1.1.2, ⟨hk.1.2, hk.2⟩⟩⟩⟩⟩)), (zFEAC_mvB BK190), (zFEAC_mvB BK191), (zFEAC_mvB BK205), (zFEAC_mvB BK210), (zFEAC_mvB BK219), (zFEAC_mvB BK244), GW244.out, GE244.out, NB190_244.out, NB244_190.out, NB191_244.out, NB244_191.out, NB205_244.out, NB244_205.out, NB210_244.out, NB244_210.out, NB219_244.out, NB244_219.out, (zFEAC_mvH6 HB GE190 GE191 GE205 GE210 GE219 GE244)⟩)
             rintro ⟨v234, v241, gb244⟩ w99 ⟨hS_, h0_, h1_, h2_, h3_, h4_, h5_, h6_, h7_, h8_, h9_, h10_, h11_, h12_, h13_, h14_, h15_, h16_, h17_, h18_, h19_, h20_, h21_, h22_, h23_, h24_, h25_⟩
             have n0_ : Aside0 (Kd.R k37 37 w99 w.heap.size (fun k_ => some k_ ≠ (.slice Ao52 t201.length co52 : Value).ownBlock ∧ some k_ ≠ (.slice Ao62 t207.length co62 : Value).ownBlock ∧ some k_ ≠ (.slice Ao70 t215.length co70 : Value).ownBlock ∧ some k_ ≠ (.slice Ao82 t222.length co82 : Value).ownBlock ∧ some k_ ≠ (v234 : Value).ownBlock ∧ some k_ ≠ (v241 : Value).ownBlock) v195 t194) := ⟨h0_⟩
             have n1_ : Aside0 (Kd.R k37 37 w99 w.heap.size (fun k_ => some k_ ≠ (v195 : Value).ownBlock ∧ some k_ ≠ (.slice Ao62 t207.length co62 : Value).ownBlock ∧ some k_ ≠ (.slice Ao70 t215.length co70 : Value).ownBlock ∧ some k_ ≠ (.slice Ao82 t222.length co82 : Value).ownBlock ∧ some k_ ≠ (v234 : Value).ownBlock ∧ some k_ ≠ (v241 : Value).ownBlock) (.slice Ao52 t201.length co52) t201) := ⟨h1_⟩
             have n2_ : Aside0 (Kd.R k37 37 w99 w.heap.size (fun k_ => some k_ ≠ (v195 : Value).ownBlock ∧ some k_ ≠ (.slice Ao52 t201.length co52 : Value).ownBlock ∧ some k_ ≠ (.slice Ao70 t215.length co70 : Value).ownBlock ∧ some k_ ≠ (.slice Ao82 t222.length co82 : Value).ownBlock ∧ some k_ ≠ (v234 : Value).ownBlock ∧ some k_ ≠ (v241 : Value).ownBlock) (.slice Ao62 t207.length co62) t227) := ⟨h2_⟩
             have n3_ : Aside0 (Kd.R k37 37 w99 w.heap.size (fun k_ => some k_ ≠ (v195 : Value).ownBlock ∧ some k_ ≠ (.slice Ao52 t201.length co52 : Value).ownBlock ∧ some k_ ≠ (.slice Ao62 t207.length co62 : Value).ownBlock ∧ some k_ ≠ (.slice Ao82 t222.length co82 : Value).ownBlock ∧ some k_ ≠ (v234 : Value).ownBlock ∧ some k_ ≠ (v241 : Value).ownBlock) (.slice Ao70 t215.length co70) t230) := ⟨h3_⟩
             have n4_ : Aside0 (Kd.R k37 37 w99 w.heap.size (fun k_ => some k_ ≠ (v195 : Value).ownBlock ∧ some k_ ≠ (.slice Ao52 t201.length co52 : Value).ownBlock ∧ some k_ ≠ (.slice Ao62 t207.length co62 : Value).ownBlock ∧ some k_ ≠ (.slice Ao70 t215.length co70 : Value).ownBlock ∧ some k_ ≠ (v234 : Value).ownBlock ∧ some k_ ≠ (v241 : Value).ownBlock) (.slice Ao82 t222.length co82) t222) := ⟨h4_⟩
             have n5_ : Aside0 (Kd.R k37 37 w99 w.heap.size (fun k_ => some k_ ≠ (v195 : Value).ownBlock ∧ some k_ ≠ (.slice Ao52 t201.length co52 : Value).ownBlock ∧ some k_ ≠ (.slice Ao62 t207.length co62 : Value).ownBlock ∧ some k_ ≠ (.slice Ao70 t215.length co70 : Value).ownBlock ∧ some k_ ≠ (.slice Ao82 t222.length co82 : Value).ownBlock ∧ some k_ ≠ (v241 : Value).ownBlock) v234 t233) := ⟨h5_⟩
             have n6_ : Aside0 (Kd.R k37 37 w99 w.heap.size (fun k_ => some k_ ≠ (v195 : Value).ownBlock ∧ some k_ ≠ (.slice Ao52 t201.length co52 : Value).ownBlock ∧ some k_ ≠ (.slice Ao62 t207.length co62 : Value).ownBlock ∧ some k_ ≠ (.slice Ao70 t215.length co70 : Value).ownBlock ∧ some k_ ≠ (.slice Ao82 t222.length co82 : Value).ownBlock ∧ some k_ ≠ (v234 : Value).ownBlock) v241 t240) := ⟨h6_⟩
             have n7_ : Aside0 (w99.heap[gb190]? = some (.cells #[.int .i64 a0_0, .slice A0_1 l0_1.length c0_1] 24 (0, 0))) := ⟨h7_⟩
             have n8_ : Aside0 (w99.heap[gb191]? = some (.cells #[.int .i64 a1_0, .int .i64 a1_1, .int .i64 a1_2] 34 (0, 0))) := ⟨h8_⟩
             have n9_ : Aside0 (w99.heap[gb205]? = some (.cells #[.int .i64 t200, .slice Ao52 t201.length co52] 29 (0, 0))) := ⟨h9_⟩
             have n10_ : Aside0 (w99.heap[gb210]? = some (.cells #[.int .i64 t206, .slice Ao62 t207.length co62] 29 (0, 0))) := ⟨h10_⟩
             have n11_ : Aside0 (w99.heap[gb219]? = some (.cells #[.int .i64 t214, .slice Ao70 t215.length co70] 29 (0, 0))) := ⟨h11_⟩
             have n12_ : Aside0 (w99.heap[gb244]? = some (.cells #[.int .i64 0, .slice none 0 0] 29 (0, 0))) := ⟨h12_⟩
             have n13_ : Aside0 (w.heap.size ≤ gb244) := ⟨h13_⟩
             have n14_ : Aside0 (w.heap.size ≤ gb244) := ⟨h14_⟩
             have n15_ : Aside0 (gb190 ≠ gb244) := ⟨h15_⟩
             have n16_ : Aside0 (gb244 ≠ gb190) := ⟨h16_⟩
             have n17_ : Aside0 (gb191 ≠ gb244) := ⟨h17_⟩
             have n18_ : Aside0 (gb244 ≠ gb191) := ⟨h18_⟩
             have n19_ : Aside0 (gb205 ≠ gb244) := ⟨h19_⟩
             have n20_ : Aside0 (gb244 ≠ gb205) := ⟨h20_⟩
             have n21_ : Aside0 (gb210 ≠ gb244) := ⟨h21_⟩
             have n22_ : Aside0 (gb244 ≠ gb210) := ⟨h22_⟩
             have n23_ : Aside0 (gb219 ≠ gb244) := ⟨h23_⟩
             have n24_ : Aside0 (gb244 ≠ gb219) := ⟨h24_⟩
             have n25_ : Aside0 (Below w.heap.size w w99) := ⟨h25_⟩
             clear HO196 HO203 HO209 HO217 HO224 BK190 BK191 BK205 BK210 BK219 HB
             clear h0_ h1_ h2_ h3_ h4_ h5_ h6_ h7_ h8_ h9_ h10_ h11_ h12_ h13_ h14_ h15_ h16_ h17_ h18_ h19_ h20_ h21_ h22_ h23_ h24_ h25_
             have HO196 := n0_
             have HO203 := n1_
             have HO209 := n2_
             have HO217 := n3_
             have HO224 := n4_
             have HO235 := n5_
             have HO242 := n6_
             have BK190 := n7_
             have BK191 := n8_
             have BK205 := n9_
             have BK210 := n10_
             have BK219 := n11_
             have BK244 := n12_
             have GW244 := n13_
             have GE244 := n14_
             have NB190_244 := n15_
             have NB244_190 := n16_
             have NB191_244 := n17_
             have NB244_191 := n18_
             have NB205_244 := n19_
             have NB244_205 := n20_
             have NB210_244 := n21_
             have NB244_210 := n22_
             have NB219_244 := n23_
             have NB244_219 := n24_
             have HB := n25_
             clear n0_ n1_ n2_ n3_ n4_ n5_ n6_ n7_ n8_ n9_ n10_ n11_ n12_ n13_ n14_ n15_ n16_ n17_ n18_ n19_ n20_ n21_ n22_ n23_ n24_ n25_
             have hHeld : w99.cell? ⟨gb190, 0, none⟩ = some (.int .i64 a0_0) ∧ w99.cell? ⟨gb190, 1, none⟩ = some (.slice A0_1 l0_1.length c0_1) ∧ w99.cell? ⟨gb191, 0, none⟩ = some (.int .i64 a1_0) ∧ w99.cell? ⟨gb191, 1, none⟩ = some (.int .i64 a1_1) ∧ w99.cell? ⟨gb191, 2, none⟩ = some (.int .i64 a1_2) := hS_
             obtain ⟨Ao101, co101, eo101⟩ := Kd.R_slice HO242.out
             (first | subst eo101 | (injection eo101 with f1_ f2_ f3_; have f4_ := f1_.symm; have f5_ := f3_.symm; clear f1_ f2_ f3_; subst f4_; subst f5_))
             refine norm_ (a' := ?_) ?_ ?_
             rotate_left
             ·simp only [putAll, Act.put, List.setIfInBounds_toArray, List.set_cons_zero, List.set_cons_succ]
              rfl
             refine one_ (i := 9) (N := none) #[true, true, true, true, true, true, true, true, true, true, false] rfl rfl (one_of HT_.out (by kernel_rfl)) (by decide) (fun K hK => ?_)
             have hs100 : w99.cell? ⟨gb244, 0, none⟩ = some (.int .i64 0) := (blk_cell BK244.out 0).trans rfl
             have hfs100 := blk_frozen BK244.out 0
             have hns100_0 := NB190_244.out
             have hns100_1 := NB191_244.out
             have hns100_2 := NB205_244.out
             have hns100_3 := NB210_244.out
             have hns100_4 := NB219_244.out
             have hms100_0 := NB244_190.out
             have hms100_1 := NB244_191.out
             have hms100_2 := NB244_205.out
             have hms100_3 := NB244_210.out
             have hms100_4 := NB244_219.out
             have hs102 : w99.cell? ⟨gb244, 1, none⟩ = some (.slice none 0 0) := (blk_cell BK244.out 1).trans rfl
             have hfs102 := blk_frozen BK244.out 1
             have hns102_0 := NB190_244.out
             have hns102_1 := NB191_244.out
             have hns102_2 := NB205_244.out
             have hns102_3 := NB210_244.out
             have hns102_4 := NB219_244.out
             have hms102_0 := NB244_190.out
             have hms102_1 := NB244_191.out
             have hms102_2 := NB244_205.out
             have hms102_3 := NB244_210.out
             have hms102_4 := NB244_219.out
             refine skip_ (w1 := ?_) (by rfl) rfl ?_ ?_
             rotate_left
             ·go_simp
              rfl
             refine hK.out _ _ ⟨((cell_far (p := ⟨gb244, _, none⟩) NB190_244.out _).trans (((cell_far (p := ⟨gb244, _, none⟩) NB190_244.out _).trans (hHeld.1)))), ((cell_far (p := ⟨gb244, _, none⟩) NB190_244.out _).trans (((cell_far (p := ⟨gb244, _, none⟩) NB190_244.out _).trans (hHeld.2.1)))), ((cell_far (p := ⟨gb244, _, none⟩) NB191_244.out _).trans (((cell_far (p := ⟨gb244, _, none⟩) NB191_244.out _).trans (hHeld.2.2.1)))), ((cell_far (p := ⟨gb244, _, none⟩) NB191_244.out _).trans (((cell_far (p := ⟨gb244, _, none⟩) NB191_244.out _).trans (hHeld.2.2.2.1)))), ((cell_far (p := ⟨gb244, _, none⟩) NB191_244.out _).trans (((cell_far (p := ⟨gb244, _, none⟩) NB191_244.out _).trans (hHeld.2.2.2.2))))⟩ (fun hHeld => ?_)
             clear hK K
             refine pure_ (i := 10) (N := some 15) (v := ?_) (a' := ?_) #[true, true, true, true, true, true, true, true, true, true, true] rfl rfl (any_of HT_.out (by kernel_rfl)) (fun _ _ _ h => h) (Or.inl ⟨by rfl, ?_⟩) ?_ ?_
             rotate_left
             ·intro w'
              go_simp
              with_reducible rfl
             rotate_left
             ·simp only [Act.put, List.setIfInBounds_toArray, List.set_cons_zero, List.set_cons_succ, i64_w, i32_w]
              rfl
             refine done_ (done_of HT_.out (by kernel_rfl)) ?_
             have hnb103 := NB244_190.out
             have hnc103 := NB190_244.out
             have hnb104 := NB244_191.out
             have hnc104 := NB191_244.out
             have hnb105 := NB244_205.out
             have hnc105 := NB205_244.out
             have hnb106 := NB244_210.out
             have hnc106 := NB210_244.out
             have hnb107 := NB244_219.out
             have hnc107 := NB219_244.out
             have hcz108_0 : w99.cell? ⟨gb244, 0, none⟩ = some (.int .i64 0) := (blk_cell BK244.out 0).trans rfl
             have hcz108_1 : w99.cell? ⟨gb244, 1, none⟩ = some (.slice none 0 0) := (blk_cell BK244.out 1).trans rfl
             have hfz108_0 := blk_frozen BK244.out 0
             have hfz108_1 := blk_frozen BK244.out 1
             have hcz109_0 : w99.cell? ⟨gb205, 0, none⟩ = some (.int .i64 t200) := (blk_cell BK205.out 0).trans rfl
             have hcz109_1 : w99.cell? ⟨gb205, 1, none⟩ = some (.slice Ao52 t201.length co52) := (blk_cell BK205.out 1).trans rfl
             have hfz109_0 := blk_frozen BK205.out 0
             have hfz109_1 := blk_frozen BK205.out 1
             try go_wp2_with (first | ((with_reducible refine gate_callee (f := 10) rfl ?_); refine goesL_ (some 89) rfl rfl Try.func10 (by kernel_rfl) rfl #[.agg #[.int .i64 t239, .slice Ao101 t240.length co101], .agg #[.int .i64 t200, .slice Ao52 t201.length co52]] rfl zFEAC_mvE ?_; (with_reducible refine (laws_eqPuzzle.calls k t239 _ _ t240 t200 _ _ t201 true _ ?side1 ?side2 ?side3 ?side4 A33.out).mono ?_); (case side1 => refine (Kd.R_reads' (e := 37) (base := w.heap.size) (ok := fun k_ => (some k_ ≠ (v195 : Value).ownBlock ∧ (some k_ ≠ (.slice Ao52 t201.length co52 : Value).ownBlock ∧ (some k_ ≠ (.slice Ao62 t207.length co62 : Value).ownBlock ∧ (some k_ ≠ (.slice Ao70 t215.length co70 : Value).ownBlock ∧ (some k_ ≠ (.slice Ao82 t222.length co82 : Value).ownBlock ∧ some k_ ≠ (v234 : Value).ownBlock)))))) (n := t240.length) (c := co101) ?_).2.2; exact (by (with_reducible repeat (first | apply Kd.R_alloc | apply Kd.R_drewN | apply Kd.R_drew)); exact (Kd.R_mono (Kd.R_far (p := ⟨gb244, 1, none⟩) (Kd.R_far (p := ⟨gb244, 0, none⟩) (Kd.R_types HO242.out BK244.out (by decide)) (fun _ hk => hk.2) (.int .i64 t239)) (fun _ hk => hk.2) (.slice Ao101 t240.length co101)) (fun _ h_ => h_.1)))); (case side2 => exact (Kd.R_reads' HO242.out).2.1); (case side3 => refine (Kd.R_reads' (e := 37) (base := w.heap.size) (ok := fun k_ => (some k_ ≠ (v195 : Value).ownBlock ∧ (some k_ ≠ (.slice Ao62 t207.length co62 : Value).ownBlock ∧ (some k_ ≠ (.slice Ao70 t215.length co70 : Value).ownBlock ∧ (some k_ ≠ (.slice Ao82 t222.length co82 : Value).ownBlock ∧ (some k_ ≠ (v234 : Value).ownBlock ∧ some k_ ≠ (.slice Ao101 t240.length co101 : Value).ownBlock)))))) (n := t201.length) (c := co52) ?_).2.2; exact (by (with_reducible repeat (first | apply Kd.R_alloc | apply Kd.R_drewN | apply Kd.R_drew)); exact (Kd.R_mono (Kd.R_far (p := ⟨gb244, 1, none⟩) (Kd.R_far (p := ⟨gb244, 0, none⟩) (Kd.R_types HO203.out BK244.out (by decide)) (fun _ hk => hk.2) (.int .i64 t239)) (fun _ hk => hk.2) (.slice Ao101 t240.length co101)) (fun _ h_ => h_.1)))); (case side4 => exact (Kd.R_reads' HO203.out).2.1); rintro e w110 ⟨rfl, hb⟩; refine ⟨_, rfl, ?_⟩; have n0_ := Aside0.mk (Kd.R_below (by (with_reducible repeat (first | apply Kd.R_alloc | apply Kd.R_drewN | apply Kd.R_drew)); exact (Kd.R_mono (Kd.R_far (p := ⟨gb244, 1, none⟩) (Kd.R_far (p := ⟨gb244, 0, none⟩) (Kd.R_types HO196.out BK244.out (by decide)) (fun _ hk => hk.2) (.int .i64 t239)) (fun _ hk => hk.2) (.slice Ao101 t240.length co101)) (fun _ h_ => h_.1))) hb); have n1_ := Aside0.mk (Kd.R_below (by (with_reducible repeat (first | apply Kd.R_alloc | apply Kd.R_drewN | apply Kd.R_drew)); exact (Kd.R_mono (Kd.R_far (p := ⟨gb244, 1, none⟩) (Kd.R_far (p := ⟨gb244, 0, none⟩) (Kd.R_types HO203.out BK244.out (by decide)) (fun _ hk => hk.2) (.int .i64 t239)) (fun _ hk => hk.2) (.slice Ao101 t240.length co101)) (fun _ h_ => h_.1))) hb); have n2_ := Aside0.mk (Kd.R_below (by (with_reducible repeat (first | apply Kd.R_alloc | apply Kd.R_drewN | apply Kd.R_drew)); exact (Kd.R_mono (Kd.R_far (p := ⟨gb244, 1, none⟩) (Kd.R_far (p := ⟨gb244, 0, none⟩) (Kd.R_types HO209.out BK244.out (by decide)) (fun _ hk => hk.2) (.int .i64 t239)) (fun _ hk => hk.2) (.slice Ao101 t240.length co101)) (fun _ h_ => h_.1))) hb); have n3_ := Aside0.mk (Kd.R_below (by (with_reducible repeat (first | apply Kd.R_alloc | apply Kd.R_drewN | apply Kd.R_drew)); exact (Kd.R_mono (Kd.R_far (p := ⟨gb244, 1, none⟩) (Kd.R_far (p := ⟨gb244, 0, none⟩) (Kd.R_types HO217.out BK244.out (by decide)) (fun _ hk => hk.2) (.int .i64 t239)) (fun _ hk => hk.2) (.slice Ao101 t240.length co101)) (fun _ h_ => h_.1))) hb); have n4_ := Aside0.mk (Kd.R_below (by (with_reducible repeat (first | apply Kd.R_alloc | apply Kd.R_drewN | apply Kd.R_drew)); exact (Kd.R_mono (Kd.R_far (p := ⟨gb244, 1, none⟩) (Kd.R_far (p := ⟨gb244, 0, none⟩) (Kd.R_types HO224.out BK244.out (by decide)) (fun _ hk => hk.2) (.int .i64 t239)) (fun _ hk => hk.2) (.slice Ao101 t240.length co101)) (fun _ h_ => h_.1))) hb); have n5_ := Aside0.mk (Kd.R_below (by (with_reducible repeat (first | apply Kd.R_alloc | apply Kd.R_drewN | apply Kd.R_drew)); exact (Kd.R_mono (Kd.R_far (p := ⟨gb244, 1, none⟩) (Kd.R_far (p := ⟨gb244, 0, none⟩) (Kd.R_types HO235.out BK244.out (by decide)) (fun _ hk => hk.2) (.int .i64 t239)) (fun _ hk => hk.2) (.slice Ao101 t240.length co101)) (fun _ h_ => h_.1))) hb); have n6_ := Aside0.mk (Kd.R_below (by (with_reducible repeat (first | apply Kd.R_alloc | apply Kd.R_drewN | apply Kd.R_drew)); exact (Kd.R_mono (Kd.R_far (p := ⟨gb244, 1, none⟩) (Kd.R_far (p := ⟨gb244, 0, none⟩) (Kd.R_types HO242.out BK244.out (by decide)) (fun _ hk => hk.2) (.int .i64 t239)) (fun _ hk => hk.2) (.slice Ao101 t240.length co101)) (fun _ h_ => h_.1))) hb); have n7_ := Aside0.mk (blk_below (g := gb190) (o := .cells #[.int .i64 a0_0, .slice A0_1 l0_1.length c0_1] 24 (0, 0)) (by (with_reducible repeat (first | refine blk_drewN ?_ _ | refine blk_drew ?_ | refine blk_alloc ?_ _)); refine blk_far ?_ NB190_244.out _; (with_reducible repeat (first | refine blk_drewN ?_ _ | refine blk_drew ?_ | refine blk_alloc ?_ _)); refine blk_far ?_ NB190_244.out _; (with_reducible repeat (first | refine blk_drewN ?_ _ | refine blk_drew ?_ | refine blk_alloc ?_ _)); exact BK190.out) hb); have n8_ := Aside0.mk (blk_below (g := gb191) (o := .cells #[.int .i64 a1_0, .int .i64 a1_1, .int .i64 a1_2] 34 (0, 0)) (by (with_reducible repeat (first | refine blk_drewN ?_ _ | refine blk_drew ?_ | refine blk_alloc ?_ _)); refine blk_far ?_ NB191_244.out _; (with_reducible repeat (first | refine blk_drewN ?_ _ | refine blk_drew ?_ | refine blk_alloc ?_ _)); refine blk_far ?_ NB191_244.out _; (with_reducible repeat (first | refine blk_drewN ?_ _ | refine blk_drew ?_ | refine blk_alloc ?_ _)); exact BK191.out) hb); have n9_ := Aside0.mk (blk_below (g := gb205) (o := .cells #[.int .i64 t200, .slice Ao52 t201.length co52] 29 (0, 0)) (by (with_reducible repeat (first | refine blk_drewN ?_ _ | refine blk_drew ?_ | refine blk_alloc ?_ _)); refine blk_far ?_ NB205_244.out _; (with_reducible repeat (first | refine blk_drewN ?_ _ | refine blk_drew ?_ | refine blk_alloc ?_ _)); refine blk_far ?_ NB205_244.out _; (with_reducible repeat (first | refine blk_drewN ?_ _ | refine blk_drew ?_ | refine blk_alloc ?_ _)); exact BK205.out) hb); have n10_ := Aside0.mk (blk_below (g := gb210) (o := .cells #[.int .i64 t206, .slice Ao62 t207.length co62] 29 (0, 0)) (by (with_reducible repeat (first | refine blk_drewN ?_ _ | refine blk_drew ?_ | refine blk_alloc ?_ _)); refine blk_far ?_ NB210_244.out _; (with_reducible repeat (first | refine blk_drewN ?_ _ | refine blk_drew ?_ | refine blk_alloc ?_ _)); refine blk_far ?_ NB210_244.out _; (with_reducible repeat (first | refine blk_drewN ?_ _ | refine blk_drew ?_ | refine blk_alloc ?_ _)); exact BK210.out) hb); have n11_ := Aside0.mk (blk_below (g := gb219) (o := .cells #[.int .i64 t214, .slice Ao70 t215.length co70] 29 (0, 0)) (by (with_reducible repeat (first | refine blk_drewN ?_ _ | refine blk_drew ?_ | refine blk_alloc ?_ _)); refine blk_far ?_ NB219_244.out _; (with_reducible repeat (first | refine blk_drewN ?_ _ | refine blk_drew ?_ | refine blk_alloc ?_ _)); refine blk_far ?_ NB219_244.out _; (with_reducible repeat (first | refine blk_drewN ?_ _ | refine blk_drew ?_ | refine blk_alloc ?_ _)); exact BK219.out) hb); have n12_ := Aside0.mk (blk_below (g := gb244) (o := .cells #[.int .i64 t239, .slice Ao101 t240.length co101] 29 (0, 0)) (by (with_reducible repeat (first | refine blk_drewN ?_ _ | refine blk_drew ?_ | refine blk_alloc ?_ _)); refine blk_put (cs := #[.int .i64 t239, .slice none 0 0]) ?_ 1 _ rfl; (with_reducible repeat (first | refine blk_drewN ?_ _ | refine blk_drew ?_ | refine blk_alloc ?_ _)); refine blk_put (cs := #[.int .i64 0, .slice none 0 0]) ?_ 0 _ rfl; (with_reducible repeat (first | refine blk_drewN ?_ _ | refine blk_drew ?_ | refine blk_alloc ?_ _)); exact BK244.out) hb); have n13_ := Aside0.mk (below_step (zFEAC_mvH6 HB GE190 GE191 GE205 GE210 GE219 GE244) hb); clear HO196; clear HO203; clear HO209; clear HO217; clear HO224; clear HO235; clear HO242; clear BK190; clear BK191; clear BK205; clear BK210; clear BK219; clear BK244; clear HB; have HO196 := n0_; have HO203 := n1_; have HO209 := n2_; have HO217 := n3_; have HO224 := n4_; have HO235 := n5_; have HO242 := n6_; have BK190 := n7_; have BK191 := n8_; have BK205 := n9_; have BK210 := n10_; have BK219 := n11_; have BK244 := n12_; have HB := n13_; clear n0_ n1_ n2_ n3_ n4_ n5_ n6_ n7_ n8_ n9_ n10_ n11_ n12_ n13_; (try clear hb); (try clear hb2); (try clear hk); (try clear hi); have hcz111_0 : w110.cell? ⟨gb219, 0, none⟩ = some (.int .i64 t214) := (blk_cell BK219.out 0).trans rfl; have hcz111_1 : w110.cell? ⟨gb219, 1, none⟩ = some (.slice Ao70 t215.length co70) := (blk_cell BK219.out 1).trans rfl; have hfz111_0 := blk_frozen BK219.out 0; have hfz111_1 := blk_frozen BK219.out 1) | ((with_reducible refine gate_callee (f := 15) rfl ?_); refine goesL_ (some 98) rfl rfl Try.func15 (by kernel_rfl) rfl #[.agg #[.int .i64 t214, .slice Ao70 t230.length co70], .int .i64 1] rfl (by (try simp only [List.map_toArray, List.map_cons, List.map_nil]); first | done | (rw [show t230.length = t215.length from (Kd.R_reads' HO217.out).1.symm] <;> rfl) | rfl | (simp only [List.length_drop, List.length_take]; rfl)) ?_; (with_reducible refine (laws_heldPuzzle.calls k t214 _ _ t230 1 t246 _ ?side1 ?side2 A36.out).mono ?_); (case side1 => repeat (first | exact (Kd.R_reads' HO217.out).2.2 | (with_reducible refine Kd.C_alloc ?_ _) | (with_reducible refine Kd.C_drewN ?_ _) | (with_reducible refine Kd.C_drew ?_))); (case side2 => rw [show t230.length = t215.length from (Kd.R_reads' HO217.out).1.symm]; exact (Kd.R_reads' HO217.out).2.1); rintro e w112 ⟨rfl, hb⟩; refine ⟨_, rfl, ?_⟩; have n0_ := Aside0.mk (Kd.R_below (zFEAC_mvR HO196) hb); have n1_ := Aside0.mk (Kd.R_below (zFEAC_mvR HO203) hb); have n2_ := Aside0.mk (Kd.R_below (zFEAC_mvR HO209) hb); have n3_ := Aside0.mk (Kd.R_below (zFEAC_mvR HO217) hb); have n4_ := Aside0.mk (Kd.R_below (zFEAC_mvR HO224) hb); have n5_ := Aside0.mk (Kd.R_below (zFEAC_mvR HO235) hb); have n6_ := Aside0.mk (Kd.R_below (zFEAC_mvR HO242) hb); have n7_ := Aside0.mk (blk_below (g := gb190) (o := .cells #[.int .i64 a0_0, .slice A0_1 l0_1.length c0_1] 24 (0, 0)) (zFEAC_mvB BK190) hb); have n8_ := Aside0.mk (blk_below (g := gb191) (o := .cells #[.int .i64 a1_0, .int .i64 a1_1, .int .i64 a1_2] 34 (0, 0)) (zFEAC_mvB BK191) hb); have n9_ := Aside0.mk (blk_below (g := gb205) (o := .cells #[.int .i64 t200, .slice Ao52 t201.length co52] 29 (0, 0)) (zFEAC_mvB BK205) hb); have n10_ := Aside0.mk (blk_below (g := gb210) (o := .cells #[.int .i64 t206, .slice Ao62 t207.length co62] 29 (0, 0)) (zFEAC_mvB BK210) hb); have n11_ := Aside0.mk (blk_below (g := gb219) (o := .cells #[.int .i64 t214, .slice Ao70 t215.length co70] 29 (0, 0)) (zFEAC_mvB BK219) hb); have n12_ := Aside0.mk (blk_below (g := gb244) (o := .cells #[.int .i64 t239, .slice Ao101 t240.length co101] 29 (0, 0)) (zFEAC_mvB BK244) hb); have n13_ := Aside0.mk (below_step (zFEAC_mvH6 HB GE190 GE191 GE205 GE210 GE219 GE244) hb); clear HO196; clear HO203; clear HO209; clear HO217; clear HO224; clear HO235; clear HO242; clear BK190; clear BK191; clear BK205; clear BK210; clear BK219; clear BK244; clear HB; have HO196 := n0_; have HO203 := n1_; have HO209 := n2_; have HO217 := n3_; have HO224 := n4_; have HO235 := n5_; have HO242 := n6_; have BK190 := n7_; have BK191 := n8_; have BK205 := n9_; have BK210 := n10_; have BK219 := n11_; have BK244 := n12_; have HB := n13_; clear n0_ n1_ n2_ n3_ n4_ n5_ n6_ n7_ n8_ n9_ n10_ n11_ n12_ n13_; (try clear hb); (try clear hb2); (try clear hk); (try clear hi)))
             go_ret
             exact ⟨by first | rfl | (simp [errW_none, errW_some] <;> rfl) | (simp [*, errW_none, errW_some] <;> rfl), by repeat (first | (with_reducible first | exact HB.out | apply below_alloc | apply pw_below_drewN | apply below_drew1 | refine below_set ?_ GE190.out | refine below_set ?_ GE191.out | refine below_set ?_ GE205.out | refine below_set ?_ GE210.out | refine below_set ?_ GE219.out | refine below_set ?_ GE244.out) | exact HB.out)⟩
            ·rw [if_neg c38] at H
             exact absurd H (by simp)
         ·replace c34 := Bool.eq_false_iff.mpr c34
          subst c34
          have H1 : (none) = some r := by rw [if_neg (show ¬ (false = true) by decide)] at H; exact H
          clear H
          have H := H1
          clear H1
          exact absurd H (by simp)
        ·rw [if_neg c29] at H
         exact absurd H (by simp)
      ·replace c25 := Bool.eq_false_iff.mpr c25
       subst c25
       have H1 : (none) = some r := by rw [if_neg (show ¬ (false = true) by decide)] at H; exact H
       clear H
       have H := H1
       clear H1
       exact absurd H (by simp)
    ·replace c21 := Bool.eq_false_iff.mpr c21
     subst c21
     have H1 : (none) = some r := by rw [if_neg (show ¬ (false = true) by decide)] at H; exact H
     clear H
     have H := H1
     clear H1
     exact absurd H (by simp)
  ·replace c17 := Bool.eq_false_iff.mpr c17
   subst c17
   have H1 : (none) = some r := by rw [if_neg (show ¬ (false = true) by decide)] at H; exact H
   clear H
   have H := H1
   clear H1
   exact absurd H (by simp)

/-- THE ONE PURE STATEMENT of laws_FnExactAddClue. -/
def laws_FnExactAddClue.Pure : Prop := ∀ (a0_0 : Int) (l0_1 : List (S34)) (a1_0 : Int) (a1_1 : Int) (a1_2 : Int), ((Lit.int .i64 a0_0).wf = true) → l0_1.length ≤ 9223372036854775807 → (∀ y ∈ l0_1, ((Lit.int .i64 y.f0).wf = true) ∧ ((Lit.int .i64 y.f1).wf = true) ∧ ((Lit.int .i64 y.f2).wf = true)) → ((Lit.int .i64 a1_0).wf = true) → ((Lit.int .i64 a1_1).wf = true) → ((Lit.int .i64 a1_2).wf = true) → ∃ k, laws_FnExactAddClue.f k a0_0 l0_1 a1_0 a1_1 a1_2 = some true
theorem laws_FnExactAddClue.walk (P : laws_FnExactAddClue.Pure) (a0_0 : Int) (A0_1 : Option Addr) (c0_1 : Nat) (l0_1 : List (S34)) (a1_0 : Int) (a1_1 : Int) (a1_2 : Int) (w : World) (hr0_1 : Kd.C k34 w A0_1 l0_1.length l0_1) (hc0_1 : l0_1.length ≤ c0_1) (h0_ : ((Lit.int .i64 a0_0).wf = true)) (h1_ : l0_1.length ≤ 9223372036854775807) (h2_ : (∀ y ∈ l0_1, ((Lit.int .i64 y.f0).wf = true) ∧ ((Lit.int .i64 y.f1).wf = true) ∧ ((Lit.int .i64 y.f2).wf = true))) (h3_ : ((Lit.int .i64 a1_0).wf = true)) (h4_ : ((Lit.int .i64 a1_1).wf = true)) (h5_ : ((Lit.int .i64 a1_2).wf = true)) :
  Calls Try.prog 4 #[.agg #[.int .i64 a0_0, .slice A0_1 l0_1.length c0_1], .agg #[.int .i64 a1_0, .int .i64 a1_1, .int .i64 a1_2]] w fun e w' => e = .returned (.bool true) ∧ Below w.heap.size w w' := by
 obtain ⟨k, h⟩ := P a0_0 l0_1 a1_0 a1_1 a1_2 h0_ h1_ h2_ h3_ h4_ h5_
 refine (laws_FnExactAddClue.calls k a0_0 A0_1 c0_1 l0_1 a1_0 a1_1 a1_2 true w hr0_1 hc0_1 h).mono ?_
 rintro e w' ⟨rfl, hd⟩
 exact ⟨rfl, hd⟩

end Go.Proofs.Ytoblnhlgfpbkeaa.Y
