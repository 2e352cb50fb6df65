/- Laid by xp.py, a program of this session, over the kit's print: plain Lean functions with the answers of the Go functions, and proofs that the Go calls come to these answers; no condition beside those that each theorem names. -/
import Derived.Test.YtciobmjmincpdaaX0
import Derived.Test.YtciobmjmincpdaaX1
import Derived.Test.YtciobmjmincpdaaX2
namespace Go.Proofs.Ytciobmjmincpdaa.X
open Go.RowKit Go.Proofs.YtciobmjmincpdaaW.PrintWords Go.Proofs.YtciobmjmincpdaaW.PrintLast Go.Proofs.YtciobmjmincpdaaW.PrintMore
attribute [local go_sem] max2_int min2_int max_two min_two max_three min_three max_four min_four   -- for this text's walks alone
set_option linter.unusedVariables false
set_option linter.unusedSimpArgs false

/-! ### laws_FnExactSquaresInField: function 3 -/
def laws_FnExactSquaresInField.f (k : Nat) (a0 : Int) (a1 : Int) : Option (Bool) := (spec_SquaresInField.f k a0 a1).bind fun bt123 => ((impl_SquaresInField.f k a0 a1).bind fun bt127 => ((laws_eqIntS.f k bt127.1 bt123.1).bind fun t131 => (if t131 = true then (if (bt127.2 != bt123.2) = true then (none) else ((laws_markIntS.f k bt127.1 1).bind fun bt132 => ((laws_heldIntS.f k bt132.2 1).bind fun t134 => (if t134 < 0 then (none) else (if t134 = bt132.1 then ((impl_SquaresInField.f k a0 a1).bind fun bt135 => ((laws_eqIntS.f k bt135.1 bt123.1).bind fun t139 => (if t139 = true then (if (bt135.2 != bt123.2) = true then (none) else ((laws_heldIntS.f k bt132.2 1).bind fun t140 => (if t140 < 0 then (none) else (if t140 = bt132.1 then (some true) else (none))))) else (none)))) else (none)))))) else (none))))
theorem laws_FnExactSquaresInField.mono : ∀ a0 a1 k, LeO (laws_FnExactSquaresInField.f k a0 a1) (laws_FnExactSquaresInField.f (k + 1) a0 a1) := by
  intro a0 a1 k
  unfold laws_FnExactSquaresInField.f
  repeat' first
      | (with_reducible exact impl_SquaresInField.mono _ _ _)
      | (with_reducible exact laws_eqIntS.mono _ _ _)
      | (with_reducible exact laws_heldIntS.mono _ _ _)
      | (with_reducible exact laws_markIntS.mono _ _ _)
      | (with_reducible exact spec_SquaresInField.mono _ _ _)
      | (with_reducible exact LeO.refl _)
      | (with_reducible exact LeO.none _)
      | (with_reducible refine LeO.ite ?_ ?_)
      | (with_reducible refine LeO.bind ?_ (fun _ => ?_))
      | exact impl_SquaresInField.mono _ _ _
      | exact laws_eqIntS.mono _ _ _
      | exact laws_heldIntS.mono _ _ _
      | exact laws_markIntS.mono _ _ _
      | exact spec_SquaresInField.mono _ _ _
      | exact LeO.none _
      | refine LeO.ite ?_ ?_
      | refine LeO.bind ?_ (fun _ => ?_)
set_option maxHeartbeats 8000000 in
set_option maxRecDepth 100000 in
theorem laws_FnExactSquaresInField.calls (k : Nat) (a0 : Int) (a1 : Int) (r : Bool) (w : World) (h : laws_FnExactSquaresInField.f k a0 a1 = some r) :
    Calls Try.prog 3 #[.int .i64 a0, .int .i64 a1] w fun e w' => e = .returned (.bool r) ∧ Below w.heap.size w w' := by
  have HB := Aside0.mk (Below.refl w.heap.size w)
  have H : ((spec_SquaresInField.f k a0 a1).bind fun bt123 => ((impl_SquaresInField.f k a0 a1).bind fun bt127 => ((laws_eqIntS.f k bt127.1 bt123.1).bind fun t131 => (if t131 = true then (if (bt127.2 != bt123.2) = true then (none) else ((laws_markIntS.f k bt127.1 1).bind fun bt132 => ((laws_heldIntS.f k bt132.2 1).bind fun t134 => (if t134 < 0 then (none) else (if t134 = bt132.1 then ((impl_SquaresInField.f k a0 a1).bind fun bt135 => ((laws_eqIntS.f k bt135.1 bt123.1).bind fun t139 => (if t139 = true then (if (bt135.2 != bt123.2) = true then (none) else ((laws_heldIntS.f k bt132.2 1).bind fun t140 => (if t140 < 0 then (none) else (if t140 = bt132.1 then (some true) else (none))))) else (none)))) else (none)))))) else (none))))) = some r := h
  clear h
  replace H := Option.bind_eq_some_iff.mp H
  obtain ⟨⟨t123, t124⟩, A30, H⟩ := H
  replace H : ((impl_SquaresInField.f k a0 a1).bind fun bt127 => ((laws_eqIntS.f k bt127.1 t123).bind fun t131 => (if t131 = true then (if (bt127.2 != t124) = true then (none) else ((laws_markIntS.f k bt127.1 1).bind fun bt132 => ((laws_heldIntS.f k bt132.2 1).bind fun t134 => (if t134 < 0 then (none) else (if t134 = bt132.1 then ((impl_SquaresInField.f k a0 a1).bind fun bt135 => ((laws_eqIntS.f k bt135.1 t123).bind fun t139 => (if t139 = true then (if (bt135.2 != t124) = true then (none) else ((laws_heldIntS.f k bt132.2 1).bind fun t140 => (if t140 < 0 then (none) else (if t140 = bt132.1 then (some true) else (none))))) else (none)))) else (none)))))) else (none)))) = some r := H
  have A3 := Aside0.mk A30
  clear A30
  replace H := Option.bind_eq_some_iff.mp H
  obtain ⟨⟨t127, t128⟩, A40, H⟩ := H
  replace H : ((laws_eqIntS.f k t127 t123).bind fun t131 => (if t131 = true then (if (t128 != t124) = true then (none) else ((laws_markIntS.f k t127 1).bind fun bt132 => ((laws_heldIntS.f k bt132.2 1).bind fun t134 => (if t134 < 0 then (none) else (if t134 = bt132.1 then ((impl_SquaresInField.f k a0 a1).bind fun bt135 => ((laws_eqIntS.f k bt135.1 t123).bind fun t139 => (if t139 = true then (if (bt135.2 != t124) = true then (none) else ((laws_heldIntS.f k bt132.2 1).bind fun t140 => (if t140 < 0 then (none) else (if t140 = bt132.1 then (some true) else (none))))) else (none)))) else (none)))))) else (none))) = some r := H
  have A4 := Aside0.mk A40
  clear A40
  replace H := Option.bind_eq_some_iff.mp H
  obtain ⟨t131, A50, H⟩ := H
  replace H : (if t131 = true then (if (t128 != t124) = true then (none) else ((laws_markIntS.f k t127 1).bind fun bt132 => ((laws_heldIntS.f k bt132.2 1).bind fun t134 => (if t134 < 0 then (none) else (if t134 = bt132.1 then ((impl_SquaresInField.f k a0 a1).bind fun bt135 => ((laws_eqIntS.f k bt135.1 t123).bind fun t139 => (if t139 = true then (if (bt135.2 != t124) = true then (none) else ((laws_heldIntS.f k bt132.2 1).bind fun t140 => (if t140 < 0 then (none) else (if t140 = bt132.1 then (some true) else (none))))) else (none)))) else (none)))))) else (none)) = some r := H
  have A5 := Aside0.mk A50
  clear A50
  by_cases c6 : t131 = true
  · subst c6
    have H1 : (if (t128 != t124) = true then (none) else ((laws_markIntS.f k t127 1).bind fun bt132 => ((laws_heldIntS.f k bt132.2 1).bind fun t134 => (if t134 < 0 then (none) else (if t134 = bt132.1 then ((impl_SquaresInField.f k a0 a1).bind fun bt135 => ((laws_eqIntS.f k bt135.1 t123).bind fun t139 => (if t139 = true then (if (bt135.2 != t124) = true then (none) else ((laws_heldIntS.f k bt132.2 1).bind fun t140 => (if t140 < 0 then (none) else (if t140 = bt132.1 then (some true) else (none))))) else (none)))) else (none)))))) = some r := by rw [if_pos rfl] at H; exact H
    clear H
    have H := H1
    clear H1
    by_cases c7 : (t128 != t124) = true
    · rw [if_pos c7] at H
      exact absurd H (by simp)
    · rw [if_neg c7] at H
      have c7b0 : (t128 != t124) = false := by simpa using c7
      (try (have c7b1 : decide (t128 = t124) = true := by simpa using c7))
      (try (have c7b2 : (t128 == t124) = true := by simpa using c7))
      clear c7
      replace H := Option.bind_eq_some_iff.mp H
      obtain ⟨⟨t132, t133⟩, A80, H⟩ := H
      replace H : ((laws_heldIntS.f k t133 1).bind fun t134 => (if t134 < 0 then (none) else (if t134 = t132 then ((impl_SquaresInField.f k a0 a1).bind fun bt135 => ((laws_eqIntS.f k bt135.1 t123).bind fun t139 => (if t139 = true then (if (bt135.2 != t124) = true then (none) else ((laws_heldIntS.f k t133 1).bind fun t140 => (if t140 < 0 then (none) else (if t140 = t132 then (some true) else (none))))) else (none)))) else (none)))) = some r := H
      have A8 := Aside0.mk A80
      clear A80
      replace H := Option.bind_eq_some_iff.mp H
      obtain ⟨t134, A90, H⟩ := H
      replace H : (if t134 < 0 then (none) else (if t134 = t132 then ((impl_SquaresInField.f k a0 a1).bind fun bt135 => ((laws_eqIntS.f k bt135.1 t123).bind fun t139 => (if t139 = true then (if (bt135.2 != t124) = true then (none) else ((laws_heldIntS.f k t133 1).bind fun t140 => (if t140 < 0 then (none) else (if t140 = t132 then (some true) else (none))))) else (none)))) else (none))) = some r := H
      have A9 := Aside0.mk A90
      clear A90
      by_cases c10 : t134 < 0
      · rw [if_pos c10] at H
        exact absurd H (by simp)
      · rw [if_neg c10] at H
        have c10b0 : decide (t134 < 0) = false := decide_eq_false c10
        clear c10
        by_cases c11 : t134 = t132
        · rw [if_pos c11] at H
          have c11b0 : (t134 == t132) = true := beq_iff_eq.mpr c11
          have c11b1 : (t134 != t132) = false := bne_eq_false_iff_eq.mpr c11
          clear c11
          replace H := Option.bind_eq_some_iff.mp H
          obtain ⟨⟨t135, t136⟩, A120, H⟩ := H
          replace H : ((laws_eqIntS.f k t135 t123).bind fun t139 => (if t139 = true then (if (t136 != t124) = true then (none) else ((laws_heldIntS.f k t133 1).bind fun t140 => (if t140 < 0 then (none) else (if t140 = t132 then (some true) else (none))))) else (none))) = some r := H
          have A12 := Aside0.mk A120
          clear A120
          replace H := Option.bind_eq_some_iff.mp H
          obtain ⟨t139, A130, H⟩ := H
          replace H : (if t139 = true then (if (t136 != t124) = true then (none) else ((laws_heldIntS.f k t133 1).bind fun t140 => (if t140 < 0 then (none) else (if t140 = t132 then (some true) else (none))))) else (none)) = some r := H
          have A13 := Aside0.mk A130
          clear A130
          by_cases c14 : t139 = true
          · subst c14
            have H1 : (if (t136 != t124) = true then (none) else ((laws_heldIntS.f k t133 1).bind fun t140 => (if t140 < 0 then (none) else (if t140 = t132 then (some true) else (none))))) = some r := by rw [if_pos rfl] at H; exact H
            clear H
            have H := H1
            clear H1
            by_cases c15 : (t136 != t124) = true
            · rw [if_pos c15] at H
              exact absurd H (by simp)
            · rw [if_neg c15] at H
              have c15b0 : (t136 != t124) = false := by simpa using c15
              (try (have c15b1 : decide (t136 = t124) = true := by simpa using c15))
              (try (have c15b2 : (t136 == t124) = true := by simpa using c15))
              clear c15
              replace H := Option.bind_eq_some_iff.mp H
              obtain ⟨t140, A160, H⟩ := H
              replace H : (if t140 < 0 then (none) else (if t140 = t132 then (some true) else (none))) = some r := H
              have A16 := Aside0.mk A160
              clear A160
              by_cases c17 : t140 < 0
              · rw [if_pos c17] at H
                exact absurd H (by simp)
              · rw [if_neg c17] at H
                have c17b0 : decide (t140 < 0) = false := decide_eq_false c17
                clear c17
                by_cases c18 : t140 = t132
                · rw [if_pos c18] at H
                  have c18b0 : (t140 == t132) = true := beq_iff_eq.mpr c18
                  have c18b1 : (t140 != t132) = false := bne_eq_false_iff_eq.mpr c18
                  clear c18
                  obtain rfl := Option.some.inj H
                  go_enter Try.func3, Try.ntmps3
                  go_wp2_with (first | ((with_reducible refine gate_callee (f := 7) rfl ?_); refine goesL_ (some 16) rfl rfl Try.func7 (by kernel_rfl) rfl #[.int .i64 a0, .int .i64 a1] rfl (by (try simp only [List.map_toArray, List.map_cons, List.map_nil]); first | done | rfl | (simp only [List.length_drop, List.length_take]; rfl)) ?_; (with_reducible refine (spec_SquaresInField.calls k a0 a1 t123 t124 _ A3.out).mono ?_); rintro e w19 ⟨v125, rfl, ho0, hb⟩; refine ⟨_, rfl, ?_⟩; have n0_ := Aside0.mk (Kd.R_lower ho0 (below_size (by repeat (first | (with_reducible first | exact HB.out | apply below_alloc | apply pw_below_drewN | apply below_drew1) | exact HB.out)))); have n1_ := Aside0.mk (below_step (by repeat (first | (with_reducible first | exact HB.out | apply below_alloc | apply pw_below_drewN | apply below_drew1) | exact HB.out)) hb); clear HB; have HO126 := n0_; have HB := n1_; clear n0_ n1_; (try clear hb); (try clear hb2); (try clear hk); (try clear hi); (try clear ho0)) | ((with_reducible refine gate_callee (f := 8) rfl ?_); refine goesL_ (some 22) rfl rfl Try.func8 (by kernel_rfl) rfl #[.int .i64 a0, .int .i64 a1] rfl (by (try simp only [List.map_toArray, List.map_cons, List.map_nil]); first | done | rfl | (simp only [List.length_drop, List.length_take]; rfl)) ?_; (with_reducible refine (impl_SquaresInField.calls k a0 a1 t127 t128 _ A4.out).mono ?_); rintro e w20 ⟨v129, rfl, ho0, hb⟩; refine ⟨_, rfl, ?_⟩; have n0_ := Aside0.mk (Kd.R_elder' (by (with_reducible repeat (first | apply Kd.R_alloc | apply Kd.R_drewN | apply Kd.R_drew)); exact HO126.out) (Kd.R_base ho0) hb); have n1_ := Aside0.mk (Kd.R_lower (Kd.R_new' ho0 (Kd.R_lt (by (with_reducible repeat (first | apply Kd.R_alloc | apply Kd.R_drewN | apply Kd.R_drew)); exact HO126.out))) (below_size (by repeat (first | (with_reducible first | exact HB.out | apply below_alloc | apply pw_below_drewN | apply below_drew1) | exact HB.out)))); have n2_ := Aside0.mk (below_step (by repeat (first | (with_reducible first | exact HB.out | apply below_alloc | apply pw_below_drewN | apply below_drew1) | exact HB.out)) hb); clear HO126; clear HB; have HO126 := n0_; have HO130 := n1_; have HB := n2_; clear n0_ n1_ n2_; (try clear hb); (try clear hb2); (try clear hk); (try clear hi); (try clear ho0); obtain ⟨Ao21, co21, eo21⟩ := Kd.R_slice HO130.out; subst eo21; obtain ⟨Ao22, co22, eo22⟩ := Kd.R_slice HO126.out; subst eo22) | ((with_reducible refine gate_callee (f := 9) rfl ?_); refine goesL_ (some 27) rfl rfl Try.func9 (by kernel_rfl) rfl #[.slice Ao21 t127.length co21, .slice Ao22 t123.length co22] rfl (by (try simp only [List.map_toArray, List.map_cons, List.map_nil]); first | done | rfl | (simp only [List.length_drop, List.length_take]; rfl)) ?_; (with_reducible refine (laws_eqIntS.calls k _ _ t127 _ _ t123 true _ ?side1 ?side2 ?side3 ?side4 A5.out).mono ?_); (case side1 => repeat (first | exact (Kd.R_reads' HO130.out).2.2 | (with_reducible refine Kd.C_alloc ?_ _) | (with_reducible refine Kd.C_drewN ?_ _) | (with_reducible refine Kd.C_drew ?_))); (case side2 => exact (Kd.R_reads' HO130.out).2.1); (case side3 => repeat (first | exact (Kd.R_reads' HO126.out).2.2 | (with_reducible refine Kd.C_alloc ?_ _) | (with_reducible refine Kd.C_drewN ?_ _) | (with_reducible refine Kd.C_drew ?_))); (case side4 => exact (Kd.R_reads' HO126.out).2.1); rintro e w' ⟨rfl, ⟨nd, rfl⟩⟩; refine ⟨_, rfl, ?_⟩) | ((with_reducible refine gate_callee (f := 10) rfl ?_); refine goesL_ (some 36) rfl rfl Try.func10 (by kernel_rfl) rfl #[.slice Ao21 t127.length co21, .int .i64 1] rfl (by (try simp only [List.map_toArray, List.map_cons, List.map_nil]); first | done | rfl | (simp only [List.length_drop, List.length_take]; rfl)) ?_; (with_reducible refine (laws_markIntS.calls k (fun k_ => some k_ = (.slice Ao21 t127.length co21 : Value).ownBlock) (.slice Ao21 t127.length co21) t127 1 t132 t133 w _ ?side1 ?side2 A8.out).mono ?_); (case side1 => repeat (first | (with_reducible first | exact HB.out | apply below_alloc | apply pw_below_drewN | apply below_drew1) | exact HB.out)); (case side2 => exact Kd.R_tight rfl HO130.out); rintro e w23 ⟨rfl, hy0, hb, hkp⟩; refine ⟨_, rfl, ?_⟩; have n0_ := Aside0.mk (Kd.R_mono (ok' := fun k_ => some k_ ≠ (.slice Ao21 t127.length co21 : Value).ownBlock) (Kd.R_keptB (HO126.out) hkp (fun k_ hk_ hs_ => (hk_.2) hs_)) (fun k_ hk_ => hk_.1.2)); have n1_ := Aside0.mk (Kd.R_reok rfl hy0 (fun k_ e_ => HO130.out.1 k_ e_)); have n2_ := Aside0.mk (hb); clear HO126; clear HO130; clear HB; have HO126 := n0_; have HO130 := n1_; have HB := n2_; clear n0_ n1_ n2_; (try clear hb); (try clear hkp); (try clear hy0)) | ((with_reducible refine gate_callee (f := 11) rfl ?_); refine goesL_ (some 39) rfl rfl Try.func11 (by kernel_rfl) rfl #[.slice Ao21 t133.length co21, .int .i64 1] rfl (by (try simp only [List.map_toArray, List.map_cons, List.map_nil]); first | done | (rw [show t133.length = t127.length from (Kd.R_reads' HO130.out).1.symm] <;> rfl) | rfl | (simp only [List.length_drop, List.length_take]; rfl)) ?_; (with_reducible refine (laws_heldIntS.calls k _ _ t133 1 t134 _ ?side1 ?side2 A9.out).mono ?_); (case side1 => repeat (first | exact (Kd.R_reads' HO130.out).2.2 | (with_reducible refine Kd.C_alloc ?_ _) | (with_reducible refine Kd.C_drewN ?_ _) | (with_reducible refine Kd.C_drew ?_))); (case side2 => rw [show t133.length = t127.length from (Kd.R_reads' HO130.out).1.symm]; exact (Kd.R_reads' HO130.out).2.1); rintro e w' ⟨rfl, ⟨nd, rfl⟩⟩; refine ⟨_, rfl, ?_⟩) | ((with_reducible refine gate_callee (f := 8) rfl ?_); refine goesL_ (some 48) rfl rfl Try.func8 (by kernel_rfl) rfl #[.int .i64 a0, .int .i64 a1] rfl (by (try simp only [List.map_toArray, List.map_cons, List.map_nil]); first | done | rfl | (simp only [List.length_drop, List.length_take]; rfl)) ?_; (with_reducible refine (impl_SquaresInField.calls k a0 a1 t135 t136 _ A12.out).mono ?_); rintro e w24 ⟨v137, rfl, ho0, hb⟩; refine ⟨_, rfl, ?_⟩; have n0_ := Aside0.mk (Kd.R_elder' (by (with_reducible repeat (first | apply Kd.R_alloc | apply Kd.R_drewN | apply Kd.R_drew)); exact HO126.out) (Kd.R_base ho0) hb); have n1_ := Aside0.mk (Kd.R_elder' (by (with_reducible repeat (first | apply Kd.R_alloc | apply Kd.R_drewN | apply Kd.R_drew)); exact HO130.out) (Kd.R_base ho0) hb); have n2_ := Aside0.mk (Kd.R_lower (Kd.R_new' (Kd.R_new' ho0 (Kd.R_lt (by (with_reducible repeat (first | apply Kd.R_alloc | apply Kd.R_drewN | apply Kd.R_drew)); exact HO126.out))) (Kd.R_lt (by (with_reducible repeat (first | apply Kd.R_alloc | apply Kd.R_drewN | apply Kd.R_drew)); exact HO130.out))) (below_size (by repeat (first | (with_reducible first | exact HB.out | apply below_alloc | apply pw_below_drewN | apply below_drew1) | exact HB.out)))); have n3_ := Aside0.mk (below_step (by repeat (first | (with_reducible first | exact HB.out | apply below_alloc | apply pw_below_drewN | apply below_drew1) | exact HB.out)) hb); clear HO126; clear HO130; clear HB; have HO126 := n0_; have HO130 := n1_; have HO138 := n2_; have HB := n3_; clear n0_ n1_ n2_ n3_; (try clear hb); (try clear hb2); (try clear hk); (try clear hi); (try clear ho0); obtain ⟨Ao25, co25, eo25⟩ := Kd.R_slice HO138.out; subst eo25) | ((with_reducible refine gate_callee (f := 9) rfl ?_); refine goesL_ (some 53) rfl rfl Try.func9 (by kernel_rfl) rfl #[.slice Ao25 t135.length co25, .slice Ao22 t123.length co22] rfl (by (try simp only [List.map_toArray, List.map_cons, List.map_nil]); first | done | rfl | (simp only [List.length_drop, List.length_take]; rfl)) ?_; (with_reducible refine (laws_eqIntS.calls k _ _ t135 _ _ t123 true _ ?side1 ?side2 ?side3 ?side4 A13.out).mono ?_); (case side1 => repeat (first | exact (Kd.R_reads' HO138.out).2.2 | (with_reducible refine Kd.C_alloc ?_ _) | (with_reducible refine Kd.C_drewN ?_ _) | (with_reducible refine Kd.C_drew ?_))); (case side2 => exact (Kd.R_reads' HO138.out).2.1); (case side3 => repeat (first | exact (Kd.R_reads' HO126.out).2.2 | (with_reducible refine Kd.C_alloc ?_ _) | (with_reducible refine Kd.C_drewN ?_ _) | (with_reducible refine Kd.C_drew ?_))); (case side4 => exact (Kd.R_reads' HO126.out).2.1); rintro e w' ⟨rfl, ⟨nd, rfl⟩⟩; refine ⟨_, rfl, ?_⟩) | ((with_reducible refine gate_callee (f := 11) rfl ?_); refine goesL_ (some 62) rfl rfl Try.func11 (by kernel_rfl) rfl #[.slice Ao21 t133.length co21, .int .i64 1] rfl (by (try simp only [List.map_toArray, List.map_cons, List.map_nil]); first | done | (rw [show t133.length = t127.length from (Kd.R_reads' HO130.out).1.symm] <;> rfl) | rfl | (simp only [List.length_drop, List.length_take]; rfl)) ?_; (with_reducible refine (laws_heldIntS.calls k _ _ t133 1 t140 _ ?side1 ?side2 A16.out).mono ?_); (case side1 => repeat (first | exact (Kd.R_reads' HO130.out).2.2 | (with_reducible refine Kd.C_alloc ?_ _) | (with_reducible refine Kd.C_drewN ?_ _) | (with_reducible refine Kd.C_drew ?_))); (case side2 => rw [show t133.length = t127.length from (Kd.R_reads' HO130.out).1.symm]; exact (Kd.R_reads' HO130.out).2.1); rintro e w' ⟨rfl, ⟨nd, rfl⟩⟩; refine ⟨_, rfl, ?_⟩))
                  go_ret
                  exact ⟨by first | rfl | (simp [errW_none, errW_some] <;> rfl) | (simp [*, errW_none, errW_some] <;> rfl), by repeat (first | (with_reducible first | exact HB.out | apply below_alloc | apply pw_below_drewN | apply below_drew1) | exact HB.out)⟩
                · rw [if_neg c18] at H
                  exact absurd H (by simp)
          · replace c14 := Bool.eq_false_iff.mpr c14
            subst c14
            have H1 : (none) = some r := by rw [if_neg (show ¬ (false = true) by decide)] at H; exact H
            clear H
            have H := H1
            clear H1
            exact absurd H (by simp)
        · rw [if_neg c11] at H
          exact absurd H (by simp)
  · replace c6 := Bool.eq_false_iff.mpr c6
    subst c6
    have H1 : (none) = some r := by rw [if_neg (show ¬ (false = true) by decide)] at H; exact H
    clear H
    have H := H1
    clear H1
    exact absurd H (by simp)

/-- THE ONE PURE STATEMENT of laws_FnExactSquaresInField: yours. -/
def laws_FnExactSquaresInField.Pure : Prop := ∀ (a0 : Int) (a1 : Int), (Lit.int .i64 a0).wf = true → (Lit.int .i64 a1).wf = true → ∃ k, laws_FnExactSquaresInField.f k a0 a1 = some true
theorem laws_FnExactSquaresInField.walk (P : laws_FnExactSquaresInField.Pure) (a0 : Int) (a1 : Int) (w : World) (w0 : (Lit.int .i64 a0).wf = true) (w1 : (Lit.int .i64 a1).wf = true) :
    Calls Try.prog 3 #[.int .i64 a0, .int .i64 a1] w fun e w' => e = .returned (.bool true) ∧ Below w.heap.size w w' := by
  obtain ⟨k, h⟩ := P a0 a1 w0 w1
  refine (laws_FnExactSquaresInField.calls k a0 a1 true w h).mono ?_
  rintro e w' ⟨rfl, hd⟩
  exact ⟨rfl, hd⟩

end Go.Proofs.Ytciobmjmincpdaa.X
