/- Laid by xp.py, a program of this session, over the kit's print: plain Lean functions with the answers of the Go functions, and proofs that the Go calls come to these answers; no condition beside those that each theorem names. -/
import Derived.Test.YtihjikmpbbjbfaaX0
import Derived.Test.YtihjikmpbbjbfaaX3
import Derived.Test.YtihjikmpbbjbfaaX8
import Derived.Test.YtihjikmpbbjbfaaX9
namespace Go.Proofs.Ytihjikmpbbjbfaa.X
open Go.RowKit Go.Proofs.YtihjikmpbbjbfaaW.PrintWords Go.Proofs.YtihjikmpbbjbfaaW.PrintLast Go.Proofs.YtihjikmpbbjbfaaW.PrintMore
attribute [local go_sem] max2_int min2_int max_two min_two max_three min_three max_four min_four   -- for this text's walks alone
set_option linter.unusedVariables false
set_option linter.unusedSimpArgs false

/-! ### impl_PlantSquare: function 19 -/
def impl_PlantSquare.f (k : Nat) (l0 : List ByteArray) (a1 : Int) (a2 : Int) (a3 : ByteArray) : Option (List ByteArray × Bool) := (impl_IsLand.f k l0).bind fun t200 => (if t200 = true then ((impl_at.f l0 a1 a2).bind fun t201 => (if t201 = 32 then (some (([] : List ByteArray), false)) else (if a3.toList = ([46] : List UInt8) then ((slices_Clone_string_string.f l0).bind fun t202 => (if 0 ≤ a2 then (if a2 < (t202.length : Int) then (if 0 ≤ a1 then (if a1 ≤ ((rdOf ByteArray.empty t202 a2).size : Int) then (if ((rdOf ByteArray.empty t202 a2).extract 0 (a1 : Int).toNat).size + a3.size ≤ 9223372036854775807 then (if 0 ≤ (wrap64 (a1 + 1)) then (if (wrap64 (a1 + 1)) ≤ ((rdOf ByteArray.empty t202 a2).size : Int) then (if (((rdOf ByteArray.empty t202 a2).extract 0 (a1 : Int).toNat) ++ a3).size + ((rdOf ByteArray.empty t202 a2).extract ((wrap64 (a1 + 1)) : Int).toNat (rdOf ByteArray.empty t202 a2).size).size ≤ 9223372036854775807 then (some ((t202.set (a2 : Int).toNat ((((rdOf ByteArray.empty t202 a2).extract 0 (a1 : Int).toNat) ++ a3) ++ ((rdOf ByteArray.empty t202 a2).extract ((wrap64 (a1 + 1)) : Int).toNat (rdOf ByteArray.empty t202 a2).size))), true)) else (none)) else (none)) else (none)) else (none)) else (none)) else (none)) else (none)) else (none))) else ((impl_isColour.f a3).bind fun t208 => (if t208 = true then ((slices_Clone_string_string.f l0).bind fun t209 => (if 0 ≤ a2 then (if a2 < (t209.length : Int) then (if 0 ≤ a1 then (if a1 ≤ ((rdOf ByteArray.empty t209 a2).size : Int) then (if ((rdOf ByteArray.empty t209 a2).extract 0 (a1 : Int).toNat).size + a3.size ≤ 9223372036854775807 then (if 0 ≤ (wrap64 (a1 + 1)) then (if (wrap64 (a1 + 1)) ≤ ((rdOf ByteArray.empty t209 a2).size : Int) then (if (((rdOf ByteArray.empty t209 a2).extract 0 (a1 : Int).toNat) ++ a3).size + ((rdOf ByteArray.empty t209 a2).extract ((wrap64 (a1 + 1)) : Int).toNat (rdOf ByteArray.empty t209 a2).size).size ≤ 9223372036854775807 then (some ((t209.set (a2 : Int).toNat ((((rdOf ByteArray.empty t209 a2).extract 0 (a1 : Int).toNat) ++ a3) ++ ((rdOf ByteArray.empty t209 a2).extract ((wrap64 (a1 + 1)) : Int).toNat (rdOf ByteArray.empty t209 a2).size))), true)) else (none)) else (none)) else (none)) else (none)) else (none)) else (none)) else (none)) else (none))) else (some (([] : List ByteArray), false))))))) else (some (([] : List ByteArray), false)))
theorem impl_PlantSquare.mono : ∀ a0 a1 a2 a3 k, LeO (impl_PlantSquare.f k a0 a1 a2 a3) (impl_PlantSquare.f (k + 1) a0 a1 a2 a3) := by
  intro a0 a1 a2 a3 k
  unfold impl_PlantSquare.f
  repeat' first
      | (with_reducible exact impl_IsLand.mono _ _)
      | (with_reducible exact LeO.refl _)
      | (with_reducible exact LeO.none _)
      | (with_reducible refine LeO.ite ?_ ?_)
      | (with_reducible refine LeO.bind ?_ (fun _ => ?_))
      | exact impl_IsLand.mono _ _
      | exact LeO.none _
      | refine LeO.ite ?_ ?_
      | refine LeO.bind ?_ (fun _ => ?_)
def impl_PlantSquare.T4 : Bool × List (List Nat × List Nat) := (true, [([], []), ([], []), ([], []), ([], []), ([2, 3], [2, 3]), ([4], [4]), ([], []), ([5, 6], [5, 6]), ([], []), ([7, 8], [7, 8]), ([], []), ([], []), ([10, 11], [10, 11]), ([12], [12]), ([], []), ([14], [14]), ([13, 15], [13, 15]), ([9, 16], [9, 16]), ([0, 1, 0, 1, 2, 3, 4, 5, 6, 7, 8, 9, 10, 11, 12, 13, 14, 15, 16, 17], [0, 1]), ([18, 17, 0, 1, 2, 3, 4, 5, 6, 7, 8, 9, 10, 11, 12, 13, 14, 15, 16, 17], [17, 18])])
def impl_PlantSquare.B4 : List Nat := [0, 0, 0, 0, 12, 28, 0, 124, 0, 508, 0, 0, 3072, 7168, 0, 16384, 64512, 131068, 262143, 524287]
theorem impl_PlantSquare.tab4 : rtab .any (opsOf Try.f19 4) = impl_PlantSquare.T4 := by kernel_rfl
theorem impl_PlantSquare.bits4 : waitsOk impl_PlantSquare.T4.2 impl_PlantSquare.B4 = true := by kernel_rfl
set_option maxHeartbeats 8000000 in
set_option maxRecDepth 100000 in
theorem impl_PlantSquare.calls (k : Nat) (A0 : Option Addr) (c0 : Nat) (l0 : List ByteArray) (a1 : Int) (a2 : Int) (a3 : ByteArray) (r1 : List ByteArray) (r2 : Bool) (w : World) (hr0 : Kd.C Kd.string w A0 l0.length l0) (hc0 : l0.length ≤ c0) (h : impl_PlantSquare.f k l0 a1 a2 a3 = some (r1, r2)) :
    Calls Try.prog 19 #[.slice A0 l0.length c0, .int .i64 a1, .int .i64 a2, .string a3] w fun e w' => ∃ v0_ : Value, e = .returned (.tuple #[v0_, .bool r2]) ∧ Kd.R Kd.string 9 w' w.heap.size (fun _ => True) v0_ r1 ∧ Below w.heap.size w w' := by
  have hu49 := Try.underlying49
  have HR0 := Aside0.mk hr0
  have HC0 := Aside0.mk hc0
  clear hr0 hc0
  have HB := Aside0.mk (Below.refl w.heap.size w)
  have H : ((impl_IsLand.f k l0).bind fun t200 => (if t200 = true then ((impl_at.f l0 a1 a2).bind fun t201 => (if t201 = 32 then (some (([] : List ByteArray), false)) else (if a3.toList = ([46] : List UInt8) then ((slices_Clone_string_string.f l0).bind fun t202 => (if 0 ≤ a2 then (if a2 < (t202.length : Int) then (if 0 ≤ a1 then (if a1 ≤ ((rdOf ByteArray.empty t202 a2).size : Int) then (if ((rdOf ByteArray.empty t202 a2).extract 0 (a1 : Int).toNat).size + a3.size ≤ 9223372036854775807 then (if 0 ≤ (wrap64 (a1 + 1)) then (if (wrap64 (a1 + 1)) ≤ ((rdOf ByteArray.empty t202 a2).size : Int) then (if (((rdOf ByteArray.empty t202 a2).extract 0 (a1 : Int).toNat) ++ a3).size + ((rdOf ByteArray.empty t202 a2).extract ((wrap64 (a1 + 1)) : Int).toNat (rdOf ByteArray.empty t202 a2).size).size ≤ 9223372036854775807 then (some ((t202.set (a2 : Int).toNat ((((rdOf ByteArray.empty t202 a2).extract 0 (a1 : Int).toNat) ++ a3) ++ ((rdOf ByteArray.empty t202 a2).extract ((wrap64 (a1 + 1)) : Int).toNat (rdOf ByteArray.empty t202 a2).size))), true)) else (none)) else (none)) else (none)) else (none)) else (none)) else (none)) else (none)) else (none))) else ((impl_isColour.f a3).bind fun t208 => (if t208 = true then ((slices_Clone_string_string.f l0).bind fun t209 => (if 0 ≤ a2 then (if a2 < (t209.length : Int) then (if 0 ≤ a1 then (if a1 ≤ ((rdOf ByteArray.empty t209 a2).size : Int) then (if ((rdOf ByteArray.empty t209 a2).extract 0 (a1 : Int).toNat).size + a3.size ≤ 9223372036854775807 then (if 0 ≤ (wrap64 (a1 + 1)) then (if (wrap64 (a1 + 1)) ≤ ((rdOf ByteArray.empty t209 a2).size : Int) then (if (((rdOf ByteArray.empty t209 a2).extract 0 (a1 : Int).toNat) ++ a3).size + ((rdOf ByteArray.empty t209 a2).extract ((wrap64 (a1 + 1)) : Int).toNat (rdOf ByteArray.empty t209 a2).size).size ≤ 9223372036854775807 then (some ((t209.set (a2 : Int).toNat ((((rdOf ByteArray.empty t209 a2).extract 0 (a1 : Int).toNat) ++ a3) ++ ((rdOf ByteArray.empty t209 a2).extract ((wrap64 (a1 + 1)) : Int).toNat (rdOf ByteArray.empty t209 a2).size))), true)) else (none)) else (none)) else (none)) else (none)) else (none)) else (none)) else (none)) else (none))) else (some (([] : List ByteArray), false))))))) else (some (([] : List ByteArray), false)))) = some (r1, r2) := h
  clear h
  replace H := Option.bind_eq_some_iff.mp H
  obtain ⟨t200, A50, H⟩ := H
  replace H : (if t200 = true then ((impl_at.f l0 a1 a2).bind fun t201 => (if t201 = 32 then (some (([] : List ByteArray), false)) else (if a3.toList = ([46] : List UInt8) then ((slices_Clone_string_string.f l0).bind fun t202 => (if 0 ≤ a2 then (if a2 < (t202.length : Int) then (if 0 ≤ a1 then (if a1 ≤ ((rdOf ByteArray.empty t202 a2).size : Int) then (if ((rdOf ByteArray.empty t202 a2).extract 0 (a1 : Int).toNat).size + a3.size ≤ 9223372036854775807 then (if 0 ≤ (wrap64 (a1 + 1)) then (if (wrap64 (a1 + 1)) ≤ ((rdOf ByteArray.empty t202 a2).size : Int) then (if (((rdOf ByteArray.empty t202 a2).extract 0 (a1 : Int).toNat) ++ a3).size + ((rdOf ByteArray.empty t202 a2).extract ((wrap64 (a1 + 1)) : Int).toNat (rdOf ByteArray.empty t202 a2).size).size ≤ 9223372036854775807 then (some ((t202.set (a2 : Int).toNat ((((rdOf ByteArray.empty t202 a2).extract 0 (a1 : Int).toNat) ++ a3) ++ ((rdOf ByteArray.empty t202 a2).extract ((wrap64 (a1 + 1)) : Int).toNat (rdOf ByteArray.empty t202 a2).size))), true)) else (none)) else (none)) else (none)) else (none)) else (none)) else (none)) else (none)) else (none))) else ((impl_isColour.f a3).bind fun t208 => (if t208 = true then ((slices_Clone_string_string.f l0).bind fun t209 => (if 0 ≤ a2 then (if a2 < (t209.length : Int) then (if 0 ≤ a1 then (if a1 ≤ ((rdOf ByteArray.empty t209 a2).size : Int) then (if ((rdOf ByteArray.empty t209 a2).extract 0 (a1 : Int).toNat).size + a3.size ≤ 9223372036854775807 then (if 0 ≤ (wrap64 (a1 + 1)) then (if (wrap64 (a1 + 1)) ≤ ((rdOf ByteArray.empty t209 a2).size : Int) then (if (((rdOf ByteArray.empty t209 a2).extract 0 (a1 : Int).toNat) ++ a3).size + ((rdOf ByteArray.empty t209 a2).extract ((wrap64 (a1 + 1)) : Int).toNat (rdOf ByteArray.empty t209 a2).size).size ≤ 9223372036854775807 then (some ((t209.set (a2 : Int).toNat ((((rdOf ByteArray.empty t209 a2).extract 0 (a1 : Int).toNat) ++ a3) ++ ((rdOf ByteArray.empty t209 a2).extract ((wrap64 (a1 + 1)) : Int).toNat (rdOf ByteArray.empty t209 a2).size))), true)) else (none)) else (none)) else (none)) else (none)) else (none)) else (none)) else (none)) else (none))) else (some (([] : List ByteArray), false))))))) else (some (([] : List ByteArray), false))) = some (r1, r2) := H
  have A5 := Aside0.mk A50
  clear A50
  by_cases c6 : t200 = true
  · subst c6
    have H1 : ((impl_at.f l0 a1 a2).bind fun t201 => (if t201 = 32 then (some (([] : List ByteArray), false)) else (if a3.toList = ([46] : List UInt8) then ((slices_Clone_string_string.f l0).bind fun t202 => (if 0 ≤ a2 then (if a2 < (t202.length : Int) then (if 0 ≤ a1 then (if a1 ≤ ((rdOf ByteArray.empty t202 a2).size : Int) then (if ((rdOf ByteArray.empty t202 a2).extract 0 (a1 : Int).toNat).size + a3.size ≤ 9223372036854775807 then (if 0 ≤ (wrap64 (a1 + 1)) then (if (wrap64 (a1 + 1)) ≤ ((rdOf ByteArray.empty t202 a2).size : Int) then (if (((rdOf ByteArray.empty t202 a2).extract 0 (a1 : Int).toNat) ++ a3).size + ((rdOf ByteArray.empty t202 a2).extract ((wrap64 (a1 + 1)) : Int).toNat (rdOf ByteArray.empty t202 a2).size).size ≤ 9223372036854775807 then (some ((t202.set (a2 : Int).toNat ((((rdOf ByteArray.empty t202 a2).extract 0 (a1 : Int).toNat) ++ a3) ++ ((rdOf ByteArray.empty t202 a2).extract ((wrap64 (a1 + 1)) : Int).toNat (rdOf ByteArray.empty t202 a2).size))), true)) else (none)) else (none)) else (none)) else (none)) else (none)) else (none)) else (none)) else (none))) else ((impl_isColour.f a3).bind fun t208 => (if t208 = true then ((slices_Clone_string_string.f l0).bind fun t209 => (if 0 ≤ a2 then (if a2 < (t209.length : Int) then (if 0 ≤ a1 then (if a1 ≤ ((rdOf ByteArray.empty t209 a2).size : Int) then (if ((rdOf ByteArray.empty t209 a2).extract 0 (a1 : Int).toNat).size + a3.size ≤ 9223372036854775807 then (if 0 ≤ (wrap64 (a1 + 1)) then (if (wrap64 (a1 + 1)) ≤ ((rdOf ByteArray.empty t209 a2).size : Int) then (if (((rdOf ByteArray.empty t209 a2).extract 0 (a1 : Int).toNat) ++ a3).size + ((rdOf ByteArray.empty t209 a2).extract ((wrap64 (a1 + 1)) : Int).toNat (rdOf ByteArray.empty t209 a2).size).size ≤ 9223372036854775807 then (some ((t209.set (a2 : Int).toNat ((((rdOf ByteArray.empty t209 a2).extract 0 (a1 : Int).toNat) ++ a3) ++ ((rdOf ByteArray.empty t209 a2).extract ((wrap64 (a1 + 1)) : Int).toNat (rdOf ByteArray.empty t209 a2).size))), true)) else (none)) else (none)) else (none)) else (none)) else (none)) else (none)) else (none)) else (none))) else (some (([] : List ByteArray), false))))))) = some (r1, r2) := by rw [if_pos rfl] at H; exact H
    clear H
    have H := H1
    clear H1
    replace H := Option.bind_eq_some_iff.mp H
    obtain ⟨t201, A70, H⟩ := H
    replace H : (if t201 = 32 then (some (([] : List ByteArray), false)) else (if a3.toList = ([46] : List UInt8) then ((slices_Clone_string_string.f l0).bind fun t202 => (if 0 ≤ a2 then (if a2 < (t202.length : Int) then (if 0 ≤ a1 then (if a1 ≤ ((rdOf ByteArray.empty t202 a2).size : Int) then (if ((rdOf ByteArray.empty t202 a2).extract 0 (a1 : Int).toNat).size + a3.size ≤ 9223372036854775807 then (if 0 ≤ (wrap64 (a1 + 1)) then (if (wrap64 (a1 + 1)) ≤ ((rdOf ByteArray.empty t202 a2).size : Int) then (if (((rdOf ByteArray.empty t202 a2).extract 0 (a1 : Int).toNat) ++ a3).size + ((rdOf ByteArray.empty t202 a2).extract ((wrap64 (a1 + 1)) : Int).toNat (rdOf ByteArray.empty t202 a2).size).size ≤ 9223372036854775807 then (some ((t202.set (a2 : Int).toNat ((((rdOf ByteArray.empty t202 a2).extract 0 (a1 : Int).toNat) ++ a3) ++ ((rdOf ByteArray.empty t202 a2).extract ((wrap64 (a1 + 1)) : Int).toNat (rdOf ByteArray.empty t202 a2).size))), true)) else (none)) else (none)) else (none)) else (none)) else (none)) else (none)) else (none)) else (none))) else ((impl_isColour.f a3).bind fun t208 => (if t208 = true then ((slices_Clone_string_string.f l0).bind fun t209 => (if 0 ≤ a2 then (if a2 < (t209.length : Int) then (if 0 ≤ a1 then (if a1 ≤ ((rdOf ByteArray.empty t209 a2).size : Int) then (if ((rdOf ByteArray.empty t209 a2).extract 0 (a1 : Int).toNat).size + a3.size ≤ 9223372036854775807 then (if 0 ≤ (wrap64 (a1 + 1)) then (if (wrap64 (a1 + 1)) ≤ ((rdOf ByteArray.empty t209 a2).size : Int) then (if (((rdOf ByteArray.empty t209 a2).extract 0 (a1 : Int).toNat) ++ a3).size + ((rdOf ByteArray.empty t209 a2).extract ((wrap64 (a1 + 1)) : Int).toNat (rdOf ByteArray.empty t209 a2).size).size ≤ 9223372036854775807 then (some ((t209.set (a2 : Int).toNat ((((rdOf ByteArray.empty t209 a2).extract 0 (a1 : Int).toNat) ++ a3) ++ ((rdOf ByteArray.empty t209 a2).extract ((wrap64 (a1 + 1)) : Int).toNat (rdOf ByteArray.empty t209 a2).size))), true)) else (none)) else (none)) else (none)) else (none)) else (none)) else (none)) else (none)) else (none))) else (some (([] : List ByteArray), false)))))) = some (r1, r2) := H
    have A7 := Aside0.mk A70
    clear A70
    by_cases c8 : t201 = 32
    · rw [if_pos c8] at H
      have c8b0 : (t201 == 32) = true := beq_iff_eq.mpr c8
      have c8b1 : (t201 != 32) = false := bne_eq_false_iff_eq.mpr c8
      clear c8
      simp only [Option.some.injEq, Prod.mk.injEq] at H
      obtain ⟨rfl, rfl⟩ := H
      go_enter Try.func19, Try.ntmps19
      go_wp2_with (first | ((with_reducible refine gate_callee (f := 38) rfl ?_); refine goesL_ (some 12) rfl rfl Try.func38 (by kernel_rfl) rfl #[.slice A0 l0.length c0] rfl (by (try simp only [List.map_toArray, List.map_cons, List.map_nil]); first | done | rfl | (simp only [List.length_drop, List.length_take]; rfl)) ?_; (with_reducible refine (impl_IsLand.calls k _ _ l0 true _ ?side1 ?side2 A5.out).mono ?_); (case side1 => repeat (first | exact HR0.out | (with_reducible refine Kd.C_alloc ?_ _) | (with_reducible refine Kd.C_drewN ?_ _) | (with_reducible refine Kd.C_drew ?_))); (case side2 => exact HC0.out); rintro e w9 ⟨rfl, hb⟩; refine ⟨_, rfl, ?_⟩; have n0_ := Aside0.mk (below_step (by repeat (first | (with_reducible first | exact HB.out | apply below_alloc | apply pw_below_drewN | apply below_drew1) | exact HB.out)) hb); clear HB; have HB := n0_; clear n0_; (try clear hb); (try clear hb2); (try clear hk); (try clear hi)) | (go_at_call 42; (with_reducible refine (impl_at.calls _ _ l0 a1 a2 t201 _ ?side1 ?side2 A7.out).mono ?_); (case side1 => repeat (first | exact (Kd.C_below HR0.out HB.out) | (with_reducible refine Kd.C_alloc ?_ _) | (with_reducible refine Kd.C_drewN ?_ _) | (with_reducible refine Kd.C_drew ?_))); (case side2 => exact HC0.out); rintro e w10 ⟨rfl, hb⟩; have n0_ := Aside0.mk (below_step (by repeat (first | (with_reducible first | exact HB.out | apply below_alloc | apply pw_below_drewN | apply below_drew1) | exact HB.out)) hb); clear HB; have HB := n0_; clear n0_; (try clear hb); (try clear hb2); (try clear hk); (try clear hi)))
      go_ret2
      exact ⟨_, by first | rfl | (simp [errW_none, errW_some] <;> rfl) | (simp [*, errW_none, errW_some] <;> rfl), by first | exact Kd.R_nil _ _ _ _ _ | exact Kd.N_nil _ _ _ _ _ | exact Kd.V_nil _ _ _ _ _ | exact Kd.Q_nil _ _ _ _ _ | exact Kd.S_nil _ _ _ _ _, by repeat (first | (with_reducible first | exact HB.out | apply below_alloc | apply pw_below_drewN | apply below_drew1) | exact HB.out)⟩
    · rw [if_neg c8] at H
      have c8b0 : (t201 == 32) = false := beq_eq_false_iff_ne.mpr c8
      have c8b1 : (t201 != 32) = true := bne_iff_ne.mpr c8
      by_cases c11 : a3.toList = ([46] : List UInt8)
      · rw [if_pos c11] at H
        have c11b0 : (a3.toList == ([46] : List UInt8)) = true := beq_iff_eq.mpr c11
        have c11b1 : (a3.toList != ([46] : List UInt8)) = false := bne_eq_false_iff_eq.mpr c11
        clear c11
        replace H := Option.bind_eq_some_iff.mp H
        obtain ⟨t202, A120, H⟩ := H
        replace H : (if 0 ≤ a2 then (if a2 < (t202.length : Int) then (if 0 ≤ a1 then (if a1 ≤ ((rdOf ByteArray.empty t202 a2).size : Int) then (if ((rdOf ByteArray.empty t202 a2).extract 0 (a1 : Int).toNat).size + a3.size ≤ 9223372036854775807 then (if 0 ≤ (wrap64 (a1 + 1)) then (if (wrap64 (a1 + 1)) ≤ ((rdOf ByteArray.empty t202 a2).size : Int) then (if (((rdOf ByteArray.empty t202 a2).extract 0 (a1 : Int).toNat) ++ a3).size + ((rdOf ByteArray.empty t202 a2).extract ((wrap64 (a1 + 1)) : Int).toNat (rdOf ByteArray.empty t202 a2).size).size ≤ 9223372036854775807 then (some ((t202.set (a2 : Int).toNat ((((rdOf ByteArray.empty t202 a2).extract 0 (a1 : Int).toNat) ++ a3) ++ ((rdOf ByteArray.empty t202 a2).extract ((wrap64 (a1 + 1)) : Int).toNat (rdOf ByteArray.empty t202 a2).size))), true)) else (none)) else (none)) else (none)) else (none)) else (none)) else (none)) else (none)) else (none)) = some (r1, r2) := H
        have A12 := Aside0.mk A120
        clear A120
        by_cases c13 : 0 ≤ a2
        · rw [if_pos c13] at H
          have c13b0 : decide (0 ≤ a2) = true := decide_eq_true c13
          clear c13
          by_cases c14 : a2 < (t202.length : Int)
          · rw [if_pos c14] at H
            have c14b0 : decide (a2 < (t202.length : Int)) = true := decide_eq_true c14
            clear c14
            by_cases c15 : 0 ≤ a1
            · rw [if_pos c15] at H
              have c15b0 := eq_true c15
              have c15b1 : decide (0 ≤ a1) = true := decide_eq_true c15
              clear c15
              by_cases c16 : a1 ≤ ((rdOf ByteArray.empty t202 a2).size : Int)
              · rw [if_pos c16] at H
                have c16b0 := eq_true c16
                have c16b1 : decide (a1 ≤ ((rdOf ByteArray.empty t202 a2).size : Int)) = true := decide_eq_true c16
                clear c16
                by_cases c17 : ((rdOf ByteArray.empty t202 a2).extract 0 (a1 : Int).toNat).size + a3.size ≤ 9223372036854775807
                · rw [if_pos c17] at H
                  have c17b0 := eq_true c17
                  have c17b1 : decide (((rdOf ByteArray.empty t202 a2).extract 0 (a1 : Int).toNat).size + a3.size ≤ 9223372036854775807) = true := decide_eq_true c17
                  try have c17b2 : (9223372036854775807 < ((rdOf ByteArray.empty t202 a2).extract 0 (a1 : Int).toNat).size + a3.size) = False := eq_false (Nat.not_lt.2 c17)
                  have c17b3 : (9223372036854775807 < a1.toNat + a3.size) = False := eq_false (by have h_ := c17; have h1_ := of_eq_true c15b0; have h2_ := of_eq_true c16b0; rw [ByteArray.size_extract] at h_; omega)
                  obtain ⟨ji18, hji18⟩ : ∃ j_ : Int, (wrap64 (a1 + 1)) = j_ := ⟨_, rfl⟩
                  replace H : (if 0 ≤ (ji18) then (if (ji18) ≤ ((rdOf ByteArray.empty t202 a2).size : Int) then (if (((rdOf ByteArray.empty t202 a2).extract 0 (a1 : Int).toNat) ++ a3).size + ((rdOf ByteArray.empty t202 a2).extract ((ji18) : Int).toNat (rdOf ByteArray.empty t202 a2).size).size ≤ 9223372036854775807 then (some ((t202.set (a2 : Int).toNat ((((rdOf ByteArray.empty t202 a2).extract 0 (a1 : Int).toNat) ++ a3) ++ ((rdOf ByteArray.empty t202 a2).extract ((ji18) : Int).toNat (rdOf ByteArray.empty t202 a2).size))), true)) else (none)) else (none)) else (none)) = some (r1, r2) := by first | (rw [hji18] at H; exact H) | (simp only [hji18] at H ⊢; exact H)
                  (try rw [hji18] at A5)
                  (try rw [hji18] at A7)
                  (try rw [hji18] at A12)
                  have hji18w : (IntKind.i64.wrap (a1 + 1)) = ji18 := (i64_w _).trans hji18
                  by_cases c19 : 0 ≤ (ji18)
                  · rw [if_pos c19] at H
                    have c19b0 := eq_true c19
                    have c19b1 : decide (0 ≤ (ji18)) = true := decide_eq_true c19
                    clear c19
                    by_cases c20 : (ji18) ≤ ((rdOf ByteArray.empty t202 a2).size : Int)
                    · rw [if_pos c20] at H
                      have c20b0 := eq_true c20
                      have c20b1 : decide ((ji18) ≤ ((rdOf ByteArray.empty t202 a2).size : Int)) = true := decide_eq_true c20
                      clear c20
                      by_cases c21 : (((rdOf ByteArray.empty t202 a2).extract 0 (a1 : Int).toNat) ++ a3).size + ((rdOf ByteArray.empty t202 a2).extract ((ji18) : Int).toNat (rdOf ByteArray.empty t202 a2).size).size ≤ 9223372036854775807
                      · rw [if_pos c21] at H
                        have c21b0 := eq_true c21
                        have c21b1 : decide ((((rdOf ByteArray.empty t202 a2).extract 0 (a1 : Int).toNat) ++ a3).size + ((rdOf ByteArray.empty t202 a2).extract ((ji18) : Int).toNat (rdOf ByteArray.empty t202 a2).size).size ≤ 9223372036854775807) = true := decide_eq_true c21
                        try have c21b2 : (9223372036854775807 < (((rdOf ByteArray.empty t202 a2).extract 0 (a1 : Int).toNat) ++ a3).size + ((rdOf ByteArray.empty t202 a2).extract ((ji18) : Int).toNat (rdOf ByteArray.empty t202 a2).size).size) = False := eq_false (Nat.not_lt.2 c21)
                        have c21b3 : (9223372036854775807 < a1.toNat + a3.size + ((rdOf ByteArray.empty t202 a2).size - ji18.toNat)) = False := eq_false (by have h_ := c21; have h1_ := of_eq_true c15b0; have h2_ := of_eq_true c16b0; rw [ByteArray.size_append, ByteArray.size_extract, ByteArray.size_extract] at h_; omega)
                        obtain ⟨y207, hy207⟩ : ∃ y_ : List ByteArray, y_ = (t202.set (a2 : Int).toNat ((((rdOf ByteArray.empty t202 a2).extract 0 (a1 : Int).toNat) ++ a3) ++ ((rdOf ByteArray.empty t202 a2).extract ((ji18) : Int).toNat (rdOf ByteArray.empty t202 a2).size))) := ⟨_, rfl⟩
                        replace H : (some (y207, true)) = some (r1, r2) := by first | (rw [hy207]; with_reducible exact H) | (have H2_ := (Option.bind_some _ _).symm.trans H; rw [hy207]; with_reducible exact H2_) | (have H2_ := (Option.bind_some _ _).symm.trans H; with_reducible exact H2_) | with_reducible exact H | (rw [hy207]; exact H) | exact H
                        have Ny207 := Aside0.mk hy207
                        clear hy207
                        simp only [Option.some.injEq, Prod.mk.injEq] at H
                        obtain ⟨rfl, rfl⟩ := H
                        go_enter Try.func19, Try.ntmps19
                        try go_wp2_with (first | ((with_reducible refine gate_callee (f := 38) rfl ?_); refine goesL_ (some 12) rfl rfl Try.func38 (by kernel_rfl) rfl #[.slice A0 l0.length c0] rfl (by (try simp only [List.map_toArray, List.map_cons, List.map_nil]); first | done | rfl | (simp only [List.length_drop, List.length_take]; rfl)) ?_; (with_reducible refine (impl_IsLand.calls k _ _ l0 true _ ?side1 ?side2 A5.out).mono ?_); (case side1 => repeat (first | exact HR0.out | (with_reducible refine Kd.C_alloc ?_ _) | (with_reducible refine Kd.C_drewN ?_ _) | (with_reducible refine Kd.C_drew ?_))); (case side2 => exact HC0.out); rintro e w23 ⟨rfl, hb⟩; refine ⟨_, rfl, ?_⟩; have n0_ := Aside0.mk (below_step (by repeat (first | (with_reducible first | exact HB.out | apply below_alloc | apply pw_below_drewN | apply below_drew1) | exact HB.out)) hb); clear HB; have HB := n0_; clear n0_; (try clear hb); (try clear hb2); (try clear hk); (try clear hi)) | (go_at_call 42; (with_reducible refine (impl_at.calls _ _ l0 a1 a2 t201 _ ?side1 ?side2 A7.out).mono ?_); (case side1 => repeat (first | exact (Kd.C_below HR0.out HB.out) | (with_reducible refine Kd.C_alloc ?_ _) | (with_reducible refine Kd.C_drewN ?_ _) | (with_reducible refine Kd.C_drew ?_))); (case side2 => exact HC0.out); rintro e w24 ⟨rfl, hb⟩; have n0_ := Aside0.mk (below_step (by repeat (first | (with_reducible first | exact HB.out | apply below_alloc | apply pw_below_drewN | apply below_drew1) | exact HB.out)) hb); clear HB; have HB := n0_; clear n0_; (try clear hb); (try clear hb2); (try clear hk); (try clear hi)) | ((with_reducible refine gate_callee (f := 44) rfl ?_); refine goesL_ (some 32) rfl rfl Try.func44 (by kernel_rfl) rfl #[.slice A0 l0.length c0] rfl (by (try simp only [List.map_toArray, List.map_cons, List.map_nil]); first | done | rfl | (simp only [List.length_drop, List.length_take]; rfl)) ?_; (with_reducible refine (slices_Clone_string_string.calls _ _ l0 t202 _ ?side1 ?side2 A12.out).mono ?_); (case side1 => repeat (first | exact (Kd.C_below HR0.out HB.out) | (with_reducible refine Kd.C_alloc ?_ _) | (with_reducible refine Kd.C_drewN ?_ _) | (with_reducible refine Kd.C_drew ?_))); (case side2 => exact HC0.out); rintro e w25 ⟨v203, rfl, ho0, hb⟩; refine ⟨_, rfl, ?_⟩; have n0_ := Aside0.mk (Kd.R_lower ho0 (below_size (by repeat (first | (with_reducible first | exact HB.out | apply below_alloc | apply pw_below_drewN | apply below_drew1) | exact HB.out)))); have n1_ := Aside0.mk (below_step (by repeat (first | (with_reducible first | exact HB.out | apply below_alloc | apply pw_below_drewN | apply below_drew1) | exact HB.out)) hb); clear HB; have HO204 := n0_; have HB := n1_; clear n0_ n1_; (try clear hb); (try clear hb2); (try clear hk); (try clear hi); (try clear ho0)))
                        have n0_ := Aside0.mk (Kd.R_drew HO204.out)
                        have n1_ := Aside0.mk (below_drew1 HB.out)
                        clear HO204
                        clear HB
                        have HO204 := n0_
                        have HB := n1_
                        clear n0_ n1_
                        obtain ⟨Ao27, co27, eo27⟩ := Kd.R_slice HO204.out
                        (first | subst eo27 | (injection eo27 with f1_ f2_ f3_; have f4_ := f1_.symm; have f5_ := f3_.symm; clear f1_ f2_ f3_; subst f4_; subst f5_))
                        have p205 : 0 ≤ (a2 : Int) := of_decide_eq_true (by first | (with_reducible assumption) | assumption)
                        have q205 : a2 < (t202.length : Int) := of_decide_eq_true (by first | (with_reducible assumption) | assumption)
                        obtain ⟨ad205, e205, hx205_0⟩ := Kd.at_string (Kd.R_reads' HO204.out).2.2 a2 p205 q205
                        cases e205
                        replace p205 := eq_true p205
                        replace q205 := eq_true q205
                        have p206 : 0 ≤ (a2 : Int) := of_decide_eq_true (by first | (with_reducible assumption) | assumption)
                        have q206 : a2 < (t202.length : Int) := of_decide_eq_true (by first | (with_reducible assumption) | assumption)
                        obtain ⟨ad206, e206, hx206_0⟩ := Kd.at_string (Kd.R_reads' HO204.out).2.2 a2 p206 q206
                        obtain rfl : ad205 = ad206 := (by injection e206)
                        replace p206 := eq_true p206
                        replace q206 := eq_true q206
                        have p22 : 0 ≤ (a2 : Int) := of_decide_eq_true (by first | (with_reducible assumption) | assumption)
                        have q22 : (a2 : Int) < ((t202.length : Int) : Int) := of_decide_eq_true (by first | (with_reducible assumption) | assumption)
                        obtain ⟨go22, co22, eo22, gb22, gl22, cl22, HG22⟩ := Kd.R_form HO204.out (by omega)
                        (first | cases eo22 | (injection eo22 with ea_ en_ ec_; (first | subst ea_ | (injection ea_ with ea_; subst ea_)); subst ec_; clear en_))
                        have GB22 := Aside0.mk gb22
                        have GG22 := Aside0.mk HG22
                        clear gb22 gl22 HG22
                        (first | simp only [add_plain] at hx205_0 | skip)
                        (first | simp only [add_plain] at hx206_0 | skip)
                        obtain ⟨hx22_0, hf22_0⟩ := Kd.R_celln (⟨#[]⟩ : ByteArray) HO204.out (a2 : Int) p22 q22
                        replace p22 := eq_true p22
                        replace q22 := eq_true q22
                        have HP28 := Kd.R_putn HO204.out (a2 : Int) ((((rdOf ByteArray.empty t202 a2).extract 0 (a1 : Int).toNat) ++ a3) ++ ((rdOf ByteArray.empty t202 a2).extract ((ji18) : Int).toNat (rdOf ByteArray.empty t202 a2).size))
                        rw [← Ny207.out] at HP28
                        have HQ28 := Aside0.mk HP28
                        clear HP28
                        refine start_ (n := 20) (S := fun w' => w'.cell? ⟨go22, (a2).toNat, none⟩ = some (.string (rdOf ByteArray.empty t202 a2)) ∧ w'.cell? ⟨go22, (a2).toNat, none⟩ = some (.string (rdOf ByteArray.empty t202 a2))) (ds := [19]) #[false, false, false, false, false, false, false, false, false, false, false, false, false, false, false, false, false, false, false, false] (by kernel_rfl) rfl rfl ⟨hx205_0, hx206_0⟩ (fun hHeld => ?_); refine with_tabW impl_PlantSquare.tab4 impl_PlantSquare.bits4 (fun HT_ HW_ => ?_)
                        generalize w25.drew = w26 at HO204 HB GG22 HQ28 hf22_0 hx205_0 hx206_0 hx22_0 hHeld ⊢
                        refine pure_ (i := 0) (N := some 33) (v := ?_) (a' := ?_) #[true, false, false, false, false, false, false, false, false, false, false, false, false, false, false, false, false, false, false, false] rfl rfl (any_of HT_.out (by kernel_rfl)) (fun _ _ _ h => h) (Or.inl ⟨by rfl, ?_⟩) ?_ ?_
                        rotate_left
                        · intro w'
                          go_simp
                          with_reducible rfl
                        rotate_left
                        · simp only [Act.put, List.setIfInBounds_toArray, List.set_cons_zero, List.set_cons_succ, i64_w, i32_w]
                          rfl
                        refine pure_ (i := 1) (N := some 34) (v := ?_) (a' := ?_) #[true, true, false, false, false, false, false, false, false, false, false, false, false, false, false, false, false, false, false, false] rfl rfl (any_of HT_.out (by kernel_rfl)) (fun _ _ _ h => h) (Or.inl ⟨by rfl, ?_⟩) ?_ ?_
                        rotate_left
                        · intro w'
                          go_simp
                          with_reducible rfl
                        rotate_left
                        · simp only [Act.put, List.setIfInBounds_toArray, List.set_cons_zero, List.set_cons_succ, i64_w, i32_w]
                          rfl
                        refine pure_ (i := 2) (N := some 35) (v := ?_) (a' := ?_) #[true, true, true, false, false, false, false, false, false, false, false, false, false, false, false, false, false, false, false, false] rfl rfl (any_of HT_.out (by kernel_rfl)) (fun _ _ _ h => h) (Or.inl ⟨by rfl, ?_⟩) ?_ ?_
                        rotate_left
                        · intro w'
                          go_simp
                          with_reducible rfl
                        rotate_left
                        · simp only [Act.put, List.setIfInBounds_toArray, List.set_cons_zero, List.set_cons_succ, i64_w, i32_w]
                          rfl
                        refine pure_ (i := 3) (N := some 36) (v := ?_) (a' := ?_) #[true, true, true, true, false, false, false, false, false, false, false, false, false, false, false, false, false, false, false, false] rfl rfl (any_of HT_.out (by kernel_rfl)) (fun _ _ _ h => h) (Or.inl ⟨by rfl, ?_⟩) ?_ ?_
                        rotate_left
                        · intro w'
                          go_simp
                          with_reducible rfl
                        rotate_left
                        · simp only [Act.put, List.setIfInBounds_toArray, List.set_cons_zero, List.set_cons_succ, i64_w, i32_w]
                          rfl
                        refine pure_ (i := 4) (N := some 37) (v := ?_) (a' := ?_) #[true, true, true, true, true, false, false, false, false, false, false, false, false, false, false, false, false, false, false, false] rfl rfl (any_of HT_.out (by kernel_rfl)) (fun _ _ _ h => h) (Or.inl ⟨by rfl, ?_⟩) ?_ ?_
                        rotate_left
                        · intro w'
                          go_simp
                          with_reducible rfl
                        rotate_left
                        · simp only [Act.put, List.setIfInBounds_toArray, List.set_cons_zero, List.set_cons_succ, i64_w, i32_w]
                          rfl
                        refine pure_ (i := 6) (N := some 39) (v := ?_) (a' := ?_) #[true, true, true, true, true, false, true, false, false, false, false, false, false, false, false, false, false, false, false, false] rfl rfl (any_of HT_.out (by kernel_rfl)) (fun _ _ _ h => h) (Or.inl ⟨by rfl, ?_⟩) ?_ ?_
                        rotate_left
                        · intro w'
                          go_simp
                          with_reducible rfl
                        rotate_left
                        · simp only [Act.put, List.setIfInBounds_toArray, List.set_cons_zero, List.set_cons_succ, i64_w, i32_w]
                          rfl
                        refine pure_ (i := 8) (N := some 41) (v := ?_) (a' := ?_) #[true, true, true, true, true, false, true, false, true, false, false, false, false, false, false, false, false, false, false, false] rfl rfl (any_of HT_.out (by kernel_rfl)) (fun _ _ _ h => h) (Or.inl ⟨by rfl, ?_⟩) ?_ ?_
                        rotate_left
                        · intro w'
                          go_simp
                          with_reducible rfl
                        rotate_left
                        · simp only [Act.put, List.setIfInBounds_toArray, List.set_cons_zero, List.set_cons_succ, i64_w, i32_w]
                          rfl
                        refine pure_ (i := 10) (N := some 43) (v := ?_) (a' := ?_) #[true, true, true, true, true, false, true, false, true, false, true, false, false, false, false, false, false, false, false, false] rfl rfl (any_of HT_.out (by kernel_rfl)) (fun _ _ _ h => h) (Or.inl ⟨by rfl, ?_⟩) ?_ ?_
                        rotate_left
                        · intro w'
                          go_simp
                          with_reducible rfl
                        rotate_left
                        · simp only [Act.put, List.setIfInBounds_toArray, List.set_cons_zero, List.set_cons_succ, i64_w, i32_w]
                          rfl
                        refine pure_ (i := 11) (N := some 44) (v := ?_) (a' := ?_) #[true, true, true, true, true, false, true, false, true, false, true, true, false, false, false, false, false, false, false, false] rfl rfl (any_of HT_.out (by kernel_rfl)) (fun _ _ _ h => h) (Or.inl ⟨by rfl, ?_⟩) ?_ ?_
                        rotate_left
                        · intro w'
                          go_simp
                          with_reducible rfl
                        rotate_left
                        · simp only [Act.put, List.setIfInBounds_toArray, List.set_cons_zero, List.set_cons_succ, i64_w, i32_w]
                          rfl
                        refine pure_ (i := 12) (N := some 45) (v := ?_) (a' := ?_) #[true, true, true, true, true, false, true, false, true, false, true, true, true, false, false, false, false, false, false, false] rfl rfl (any_of HT_.out (by kernel_rfl)) (fun _ _ _ h => h) (Or.inl ⟨by rfl, ?_⟩) ?_ ?_
                        rotate_left
                        · intro w'
                          go_simp
                          with_reducible rfl
                        rotate_left
                        · simp only [Act.put, List.setIfInBounds_toArray, List.set_cons_zero, List.set_cons_succ, i64_w, i32_w]
                          rfl
                        refine pure_ (i := 14) (N := some 47) (v := ?_) (a' := ?_) #[true, true, true, true, true, false, true, false, true, false, true, true, true, false, true, false, false, false, false, false] rfl rfl (any_of HT_.out (by kernel_rfl)) (fun _ _ _ h => h) (Or.inl ⟨by rfl, ?_⟩) ?_ ?_
                        rotate_left
                        · intro w'
                          go_simp
                          with_reducible rfl
                        rotate_left
                        · simp only [Act.put, List.setIfInBounds_toArray, List.set_cons_zero, List.set_cons_succ, i64_w, i32_w]
                          rfl
                        refine pure_ (i := 15) (N := some 48) (v := ?_) (a' := ?_) #[true, true, true, true, true, false, true, false, true, false, true, true, true, false, true, true, false, false, false, false] rfl rfl (any_of HT_.out (by kernel_rfl)) (fun _ _ _ h => h) (Or.inl ⟨by rfl, ?_⟩) ?_ ?_
                        rotate_left
                        · intro w'
                          go_simp
                          with_reducible rfl
                        rotate_left
                        · simp only [Act.put, List.setIfInBounds_toArray, List.set_cons_zero, List.set_cons_succ, i64_w, i32_w]
                          rfl
                        refine take_ (i := 5) (N := some 38) (v := ?_) (a' := ?_) #[true, true, true, true, true, true, true, false, true, false, true, true, true, false, true, true, false, false, false, false] rfl rfl (take_ofW HT_.out HW_.out (by kernel_rfl)) (fun _ _ _ h => h) (Or.inl ⟨by rfl, ?_⟩) hHeld ?_ ?_
                        rotate_left
                        · rintro w' ⟨s0, s1⟩
                          go_simp
                          with_reducible rfl
                        rotate_left
                        · simp only [Act.put, List.setIfInBounds_toArray, List.set_cons_zero, List.set_cons_succ, i64_w, i32_w]
                          rfl
                        refine pure_ (i := 7) (N := some 40) (v := ?_) (a' := ?_) #[true, true, true, true, true, true, true, true, true, false, true, true, true, false, true, true, false, false, false, false] rfl rfl (any_of HT_.out (by kernel_rfl)) (fun _ _ _ h => h) (Or.inl ⟨by rfl, ?_⟩) ?_ ?_
                        rotate_left
                        · intro w'
                          go_simp
                          with_reducible rfl
                        rotate_left
                        · simp only [Act.put, List.setIfInBounds_toArray, List.set_cons_zero, List.set_cons_succ, i64_w, i32_w]
                          rfl
                        refine pure_ (i := 9) (N := some 42) (v := ?_) (a' := ?_) #[true, true, true, true, true, true, true, true, true, true, true, true, true, false, true, true, false, false, false, false] rfl rfl (any_of HT_.out (by kernel_rfl)) (fun _ _ _ h => h) (Or.inl ⟨by rfl, ?_⟩) ?_ ?_
                        rotate_left
                        · intro w'
                          go_simp
                          with_reducible rfl
                        rotate_left
                        · simp only [Act.put, List.setIfInBounds_toArray, List.set_cons_zero, List.set_cons_succ, i64_w, i32_w]
                          rfl
                        refine take_ (i := 13) (N := some 46) (v := ?_) (a' := ?_) #[true, true, true, true, true, true, true, true, true, true, true, true, true, true, true, true, false, false, false, false] rfl rfl (take_ofW HT_.out HW_.out (by kernel_rfl)) (fun _ _ _ h => h) (Or.inl ⟨by rfl, ?_⟩) hHeld ?_ ?_
                        rotate_left
                        · rintro w' ⟨s0, s1⟩
                          go_simp
                          with_reducible rfl
                        rotate_left
                        · simp only [Act.put, List.setIfInBounds_toArray, List.set_cons_zero, List.set_cons_succ, i64_w, i32_w]
                          rfl
                        refine pure_ (i := 16) (N := some 49) (v := ?_) (a' := ?_) #[true, true, true, true, true, true, true, true, true, true, true, true, true, true, true, true, true, false, false, false] rfl rfl (any_of HT_.out (by kernel_rfl)) (fun _ _ _ h => h) (Or.inl ⟨by rfl, ?_⟩) ?_ ?_
                        rotate_left
                        · intro w'
                          go_simp
                          with_reducible rfl
                        rotate_left
                        · simp only [Act.put, List.setIfInBounds_toArray, List.set_cons_zero, List.set_cons_succ, i64_w, i32_w]
                          rfl
                        refine pure_ (i := 17) (N := some 50) (v := ?_) (a' := ?_) #[true, true, true, true, true, true, true, true, true, true, true, true, true, true, true, true, true, true, false, false] rfl rfl (any_of HT_.out (by kernel_rfl)) (fun _ _ _ h => h) (Or.inl ⟨by rfl, ?_⟩) ?_ ?_
                        rotate_left
                        · intro w'
                          go_simp
                          with_reducible rfl
                        rotate_left
                        · simp only [Act.put, List.setIfInBounds_toArray, List.set_cons_zero, List.set_cons_succ, i64_w, i32_w]
                          rfl
                        refine pure_ (i := 18) (N := some 51) (v := ?_) (a' := ?_) #[true, true, true, true, true, true, true, true, true, true, true, true, true, true, true, true, true, true, true, false] rfl rfl (any_of HT_.out (by kernel_rfl)) (fun _ _ _ h => h) (Or.inl ⟨by rfl, ?_⟩) ?_ ?_
                        rotate_left
                        · intro w'
                          go_simp
                          with_reducible rfl
                        rotate_left
                        · simp only [Act.put, List.setIfInBounds_toArray, List.set_cons_zero, List.set_cons_succ, i64_w, i32_w]
                          rfl
                        refine last_ (i := 19) (N := none) #[true, true, true, true, true, true, true, true, true, true, true, true, true, true, true, true, true, true, true, true] rfl rfl (one_of HT_.out (by kernel_rfl)) (by decide) (fun K hK => ?_)
                        refine skip_ (w1 := ?_) (by rfl) rfl ?_ ?_
                        rotate_left
                        · go_simp
                          rfl
                        refine hK.out _ _ ?_
                        clear hK K
                        refine done_ (done_of HT_.out (by kernel_rfl)) ?_
                        try go_wp2
                        go_ret2
                        exact ⟨_, by first | rfl | (simp [errW_none, errW_some] <;> rfl) | (simp only [← hji18]; first | rfl | (simp [errW_none, errW_some] <;> rfl)) | (simp [*, errW_none, errW_some] <;> rfl), by (with_reducible repeat (first | apply Kd.R_alloc | apply Kd.R_drewN | apply Kd.R_drew)); exact HQ28.out, by repeat (first | (with_reducible first | exact HB.out | apply below_alloc | apply pw_below_drewN | apply below_drew1 | refine below_set ?_ GB22.out) | exact HB.out)⟩
                      · rw [if_neg c21] at H
                        exact absurd H (by simp)
                    · rw [if_neg c20] at H
                      exact absurd H (by simp)
                  · rw [if_neg c19] at H
                    exact absurd H (by simp)
                · rw [if_neg c17] at H
                  exact absurd H (by simp)
              · rw [if_neg c16] at H
                exact absurd H (by simp)
            · rw [if_neg c15] at H
              exact absurd H (by simp)
          · rw [if_neg c14] at H
            exact absurd H (by simp)
        · rw [if_neg c13] at H
          exact absurd H (by simp)
      · rw [if_neg c11] at H
        have c11b0 : (a3.toList == ([46] : List UInt8)) = false := beq_eq_false_iff_ne.mpr c11
        have c11b1 : (a3.toList != ([46] : List UInt8)) = true := bne_iff_ne.mpr c11
        replace H := Option.bind_eq_some_iff.mp H
        obtain ⟨t208, A290, H⟩ := H
        replace H : (if t208 = true then ((slices_Clone_string_string.f l0).bind fun t209 => (if 0 ≤ a2 then (if a2 < (t209.length : Int) then (if 0 ≤ a1 then (if a1 ≤ ((rdOf ByteArray.empty t209 a2).size : Int) then (if ((rdOf ByteArray.empty t209 a2).extract 0 (a1 : Int).toNat).size + a3.size ≤ 9223372036854775807 then (if 0 ≤ (wrap64 (a1 + 1)) then (if (wrap64 (a1 + 1)) ≤ ((rdOf ByteArray.empty t209 a2).size : Int) then (if (((rdOf ByteArray.empty t209 a2).extract 0 (a1 : Int).toNat) ++ a3).size + ((rdOf ByteArray.empty t209 a2).extract ((wrap64 (a1 + 1)) : Int).toNat (rdOf ByteArray.empty t209 a2).size).size ≤ 9223372036854775807 then (some ((t209.set (a2 : Int).toNat ((((rdOf ByteArray.empty t209 a2).extract 0 (a1 : Int).toNat) ++ a3) ++ ((rdOf ByteArray.empty t209 a2).extract ((wrap64 (a1 + 1)) : Int).toNat (rdOf ByteArray.empty t209 a2).size))), true)) else (none)) else (none)) else (none)) else (none)) else (none)) else (none)) else (none)) else (none))) else (some (([] : List ByteArray), false))) = some (r1, r2) := H
        have A29 := Aside0.mk A290
        clear A290
        by_cases c30 : t208 = true
        · subst c30
          have H1 : ((slices_Clone_string_string.f l0).bind fun t209 => (if 0 ≤ a2 then (if a2 < (t209.length : Int) then (if 0 ≤ a1 then (if a1 ≤ ((rdOf ByteArray.empty t209 a2).size : Int) then (if ((rdOf ByteArray.empty t209 a2).extract 0 (a1 : Int).toNat).size + a3.size ≤ 9223372036854775807 then (if 0 ≤ (wrap64 (a1 + 1)) then (if (wrap64 (a1 + 1)) ≤ ((rdOf ByteArray.empty t209 a2).size : Int) then (if (((rdOf ByteArray.empty t209 a2).extract 0 (a1 : Int).toNat) ++ a3).size + ((rdOf ByteArray.empty t209 a2).extract ((wrap64 (a1 + 1)) : Int).toNat (rdOf ByteArray.empty t209 a2).size).size ≤ 9223372036854775807 then (some ((t209.set (a2 : Int).toNat ((((rdOf ByteArray.empty t209 a2).extract 0 (a1 : Int).toNat) ++ a3) ++ ((rdOf ByteArray.empty t209 a2).extract ((wrap64 (a1 + 1)) : Int).toNat (rdOf ByteArray.empty t209 a2).size))), true)) else (none)) else (none)) else (none)) else (none)) else (none)) else (none)) else (none)) else (none))) = some (r1, r2) := by rw [if_pos rfl] at H; exact H
          clear H
          have H := H1
          clear H1
          replace H := Option.bind_eq_some_iff.mp H
          obtain ⟨t209, A310, H⟩ := H
          replace H : (if 0 ≤ a2 then (if a2 < (t209.length : Int) then (if 0 ≤ a1 then (if a1 ≤ ((rdOf ByteArray.empty t209 a2).size : Int) then (if ((rdOf ByteArray.empty t209 a2).extract 0 (a1 : Int).toNat).size + a3.size ≤ 9223372036854775807 then (if 0 ≤ (wrap64 (a1 + 1)) then (if (wrap64 (a1 + 1)) ≤ ((rdOf ByteArray.empty t209 a2).size : Int) then (if (((rdOf ByteArray.empty t209 a2).extract 0 (a1 : Int).toNat) ++ a3).size + ((rdOf ByteArray.empty t209 a2).extract ((wrap64 (a1 + 1)) : Int).toNat (rdOf ByteArray.empty t209 a2).size).size ≤ 9223372036854775807 then (some ((t209.set (a2 : Int).toNat ((((rdOf ByteArray.empty t209 a2).extract 0 (a1 : Int).toNat) ++ a3) ++ ((rdOf ByteArray.empty t209 a2).extract ((wrap64 (a1 + 1)) : Int).toNat (rdOf ByteArray.empty t209 a2).size))), true)) else (none)) else (none)) else (none)) else (none)) else (none)) else (none)) else (none)) else (none)) = some (r1, r2) := H
          have A31 := Aside0.mk A310
          clear A310
          by_cases c32 : 0 ≤ a2
          · rw [if_pos c32] at H
            have c32b0 : decide (0 ≤ a2) = true := decide_eq_true c32
            clear c32
            by_cases c33 : a2 < (t209.length : Int)
            · rw [if_pos c33] at H
              have c33b0 : decide (a2 < (t209.length : Int)) = true := decide_eq_true c33
              clear c33
              by_cases c34 : 0 ≤ a1
              · rw [if_pos c34] at H
                have c34b0 := eq_true c34
                have c34b1 : decide (0 ≤ a1) = true := decide_eq_true c34
                clear c34
                by_cases c35 : a1 ≤ ((rdOf ByteArray.empty t209 a2).size : Int)
                · rw [if_pos c35] at H
                  have c35b0 := eq_true c35
                  have c35b1 : decide (a1 ≤ ((rdOf ByteArray.empty t209 a2).size : Int)) = true := decide_eq_true c35
                  clear c35
                  by_cases c36 : ((rdOf ByteArray.empty t209 a2).extract 0 (a1 : Int).toNat).size + a3.size ≤ 9223372036854775807
                  · rw [if_pos c36] at H
                    have c36b0 := eq_true c36
                    have c36b1 : decide (((rdOf ByteArray.empty t209 a2).extract 0 (a1 : Int).toNat).size + a3.size ≤ 9223372036854775807) = true := decide_eq_true c36
                    try have c36b2 : (9223372036854775807 < ((rdOf ByteArray.empty t209 a2).extract 0 (a1 : Int).toNat).size + a3.size) = False := eq_false (Nat.not_lt.2 c36)
                    have c36b3 : (9223372036854775807 < a1.toNat + a3.size) = False := eq_false (by have h_ := c36; have h1_ := of_eq_true c34b0; have h2_ := of_eq_true c35b0; rw [ByteArray.size_extract] at h_; omega)
                    obtain ⟨ji37, hji37⟩ : ∃ j_ : Int, (wrap64 (a1 + 1)) = j_ := ⟨_, rfl⟩
                    replace H : (if 0 ≤ (ji37) then (if (ji37) ≤ ((rdOf ByteArray.empty t209 a2).size : Int) then (if (((rdOf ByteArray.empty t209 a2).extract 0 (a1 : Int).toNat) ++ a3).size + ((rdOf ByteArray.empty t209 a2).extract ((ji37) : Int).toNat (rdOf ByteArray.empty t209 a2).size).size ≤ 9223372036854775807 then (some ((t209.set (a2 : Int).toNat ((((rdOf ByteArray.empty t209 a2).extract 0 (a1 : Int).toNat) ++ a3) ++ ((rdOf ByteArray.empty t209 a2).extract ((ji37) : Int).toNat (rdOf ByteArray.empty t209 a2).size))), true)) else (none)) else (none)) else (none)) = some (r1, r2) := by first | (rw [hji37] at H; exact H) | (simp only [hji37] at H ⊢; exact H)
                    (try rw [hji37] at A5)
                    (try rw [hji37] at A7)
                    (try rw [hji37] at A29)
                    (try rw [hji37] at A31)
                    have hji37w : (IntKind.i64.wrap (a1 + 1)) = ji37 := (i64_w _).trans hji37
                    by_cases c38 : 0 ≤ (ji37)
                    · rw [if_pos c38] at H
                      have c38b0 := eq_true c38
                      have c38b1 : decide (0 ≤ (ji37)) = true := decide_eq_true c38
                      clear c38
                      by_cases c39 : (ji37) ≤ ((rdOf ByteArray.empty t209 a2).size : Int)
                      · rw [if_pos c39] at H
                        have c39b0 := eq_true c39
                        have c39b1 : decide ((ji37) ≤ ((rdOf ByteArray.empty t209 a2).size : Int)) = true := decide_eq_true c39
                        clear c39
                        by_cases c40 : (((rdOf ByteArray.empty t209 a2).extract 0 (a1 : Int).toNat) ++ a3).size + ((rdOf ByteArray.empty t209 a2).extract ((ji37) : Int).toNat (rdOf ByteArray.empty t209 a2).size).size ≤ 9223372036854775807
                        · rw [if_pos c40] at H
                          have c40b0 := eq_true c40
                          have c40b1 : decide ((((rdOf ByteArray.empty t209 a2).extract 0 (a1 : Int).toNat) ++ a3).size + ((rdOf ByteArray.empty t209 a2).extract ((ji37) : Int).toNat (rdOf ByteArray.empty t209 a2).size).size ≤ 9223372036854775807) = true := decide_eq_true c40
                          try have c40b2 : (9223372036854775807 < (((rdOf ByteArray.empty t209 a2).extract 0 (a1 : Int).toNat) ++ a3).size + ((rdOf ByteArray.empty t209 a2).extract ((ji37) : Int).toNat (rdOf ByteArray.empty t209 a2).size).size) = False := eq_false (Nat.not_lt.2 c40)
                          have c40b3 : (9223372036854775807 < a1.toNat + a3.size + ((rdOf ByteArray.empty t209 a2).size - ji37.toNat)) = False := eq_false (by have h_ := c40; have h1_ := of_eq_true c34b0; have h2_ := of_eq_true c35b0; rw [ByteArray.size_append, ByteArray.size_extract, ByteArray.size_extract] at h_; omega)
                          obtain ⟨y214, hy214⟩ : ∃ y_ : List ByteArray, y_ = (t209.set (a2 : Int).toNat ((((rdOf ByteArray.empty t209 a2).extract 0 (a1 : Int).toNat) ++ a3) ++ ((rdOf ByteArray.empty t209 a2).extract ((ji37) : Int).toNat (rdOf ByteArray.empty t209 a2).size))) := ⟨_, rfl⟩
                          replace H : (some (y214, true)) = some (r1, r2) := by first | (rw [hy214]; with_reducible exact H) | (have H2_ := (Option.bind_some _ _).symm.trans H; rw [hy214]; with_reducible exact H2_) | (have H2_ := (Option.bind_some _ _).symm.trans H; with_reducible exact H2_) | with_reducible exact H | (rw [hy214]; exact H) | exact H
                          have Ny214 := Aside0.mk hy214
                          clear hy214
                          simp only [Option.some.injEq, Prod.mk.injEq] at H
                          obtain ⟨rfl, rfl⟩ := H
                          go_enter Try.func19, Try.ntmps19
                          try go_wp2_with (first | ((with_reducible refine gate_callee (f := 38) rfl ?_); refine goesL_ (some 12) rfl rfl Try.func38 (by kernel_rfl) rfl #[.slice A0 l0.length c0] rfl (by (try simp only [List.map_toArray, List.map_cons, List.map_nil]); first | done | rfl | (simp only [List.length_drop, List.length_take]; rfl)) ?_; (with_reducible refine (impl_IsLand.calls k _ _ l0 true _ ?side1 ?side2 A5.out).mono ?_); (case side1 => repeat (first | exact HR0.out | (with_reducible refine Kd.C_alloc ?_ _) | (with_reducible refine Kd.C_drewN ?_ _) | (with_reducible refine Kd.C_drew ?_))); (case side2 => exact HC0.out); rintro e w42 ⟨rfl, hb⟩; refine ⟨_, rfl, ?_⟩; have n0_ := Aside0.mk (below_step (by repeat (first | (with_reducible first | exact HB.out | apply below_alloc | apply pw_below_drewN | apply below_drew1) | exact HB.out)) hb); clear HB; have HB := n0_; clear n0_; (try clear hb); (try clear hb2); (try clear hk); (try clear hi)) | (go_at_call 42; (with_reducible refine (impl_at.calls _ _ l0 a1 a2 t201 _ ?side1 ?side2 A7.out).mono ?_); (case side1 => repeat (first | exact (Kd.C_below HR0.out HB.out) | (with_reducible refine Kd.C_alloc ?_ _) | (with_reducible refine Kd.C_drewN ?_ _) | (with_reducible refine Kd.C_drew ?_))); (case side2 => exact HC0.out); rintro e w43 ⟨rfl, hb⟩; have n0_ := Aside0.mk (below_step (by repeat (first | (with_reducible first | exact HB.out | apply below_alloc | apply pw_below_drewN | apply below_drew1) | exact HB.out)) hb); clear HB; have HB := n0_; clear n0_; (try clear hb); (try clear hb2); (try clear hk); (try clear hi)) | (go_at_call 43; (with_reducible refine (impl_isColour.calls a3 true _ A29.out).mono ?_); rintro e w' ⟨rfl, ⟨nd, rfl⟩⟩; (try (rw [drewN_self w43]; generalize hq_ : World.drewN w43 _ = w43; have n0_ : Aside0 (Below w.heap.size w w43) := ⟨by rw [← hq_]; exact (by repeat (first | (with_reducible first | exact HB.out | apply below_alloc | apply pw_below_drewN | apply below_drew1) | exact HB.out))⟩; clear HB hq_; have HB := n0_; clear n0_))) | ((with_reducible refine gate_callee (f := 44) rfl ?_); refine goesL_ (some 32) rfl rfl Try.func44 (by kernel_rfl) rfl #[.slice A0 l0.length c0] rfl (by (try simp only [List.map_toArray, List.map_cons, List.map_nil]); first | done | rfl | (simp only [List.length_drop, List.length_take]; rfl)) ?_; (with_reducible refine (slices_Clone_string_string.calls _ _ l0 t209 _ ?side1 ?side2 A31.out).mono ?_); (case side1 => repeat (first | exact (Kd.C_below HR0.out HB.out) | (with_reducible refine Kd.C_alloc ?_ _) | (with_reducible refine Kd.C_drewN ?_ _) | (with_reducible refine Kd.C_drew ?_))); (case side2 => exact HC0.out); rintro e w44 ⟨v210, rfl, ho0, hb⟩; refine ⟨_, rfl, ?_⟩; have n0_ := Aside0.mk (Kd.R_lower ho0 (below_size (by repeat (first | (with_reducible first | exact HB.out | apply below_alloc | apply pw_below_drewN | apply below_drew1) | exact HB.out)))); have n1_ := Aside0.mk (below_step (by repeat (first | (with_reducible first | exact HB.out | apply below_alloc | apply pw_below_drewN | apply below_drew1) | exact HB.out)) hb); clear HB; have HO211 := n0_; have HB := n1_; clear n0_ n1_; (try clear hb); (try clear hb2); (try clear hk); (try clear hi); (try clear ho0)))
                          have n0_ := Aside0.mk (Kd.R_drew HO211.out)
                          have n1_ := Aside0.mk (below_drew1 HB.out)
                          clear HO211
                          clear HB
                          have HO211 := n0_
                          have HB := n1_
                          clear n0_ n1_
                          obtain ⟨Ao46, co46, eo46⟩ := Kd.R_slice HO211.out
                          (first | subst eo46 | (injection eo46 with f1_ f2_ f3_; have f4_ := f1_.symm; have f5_ := f3_.symm; clear f1_ f2_ f3_; subst f4_; subst f5_))
                          have p212 : 0 ≤ (a2 : Int) := of_decide_eq_true (by first | (with_reducible assumption) | assumption)
                          have q212 : a2 < (t209.length : Int) := of_decide_eq_true (by first | (with_reducible assumption) | assumption)
                          obtain ⟨ad212, e212, hx212_0⟩ := Kd.at_string (Kd.R_reads' HO211.out).2.2 a2 p212 q212
                          cases e212
                          replace p212 := eq_true p212
                          replace q212 := eq_true q212
                          have p213 : 0 ≤ (a2 : Int) := of_decide_eq_true (by first | (with_reducible assumption) | assumption)
                          have q213 : a2 < (t209.length : Int) := of_decide_eq_true (by first | (with_reducible assumption) | assumption)
                          obtain ⟨ad213, e213, hx213_0⟩ := Kd.at_string (Kd.R_reads' HO211.out).2.2 a2 p213 q213
                          obtain rfl : ad212 = ad213 := (by injection e213)
                          replace p213 := eq_true p213
                          replace q213 := eq_true q213
                          have p41 : 0 ≤ (a2 : Int) := of_decide_eq_true (by first | (with_reducible assumption) | assumption)
                          have q41 : (a2 : Int) < ((t209.length : Int) : Int) := of_decide_eq_true (by first | (with_reducible assumption) | assumption)
                          obtain ⟨go41, co41, eo41, gb41, gl41, cl41, HG41⟩ := Kd.R_form HO211.out (by omega)
                          (first | cases eo41 | (injection eo41 with ea_ en_ ec_; (first | subst ea_ | (injection ea_ with ea_; subst ea_)); subst ec_; clear en_))
                          have GB41 := Aside0.mk gb41
                          have GG41 := Aside0.mk HG41
                          clear gb41 gl41 HG41
                          (first | simp only [add_plain] at hx212_0 | skip)
                          (first | simp only [add_plain] at hx213_0 | skip)
                          obtain ⟨hx41_0, hf41_0⟩ := Kd.R_celln (⟨#[]⟩ : ByteArray) HO211.out (a2 : Int) p41 q41
                          replace p41 := eq_true p41
                          replace q41 := eq_true q41
                          have HP47 := Kd.R_putn HO211.out (a2 : Int) ((((rdOf ByteArray.empty t209 a2).extract 0 (a1 : Int).toNat) ++ a3) ++ ((rdOf ByteArray.empty t209 a2).extract ((ji37) : Int).toNat (rdOf ByteArray.empty t209 a2).size))
                          rw [← Ny214.out] at HP47
                          have HQ47 := Aside0.mk HP47
                          clear HP47
                          refine start_ (n := 20) (S := fun w' => w'.cell? ⟨go41, (a2).toNat, none⟩ = some (.string (rdOf ByteArray.empty t209 a2)) ∧ w'.cell? ⟨go41, (a2).toNat, none⟩ = some (.string (rdOf ByteArray.empty t209 a2))) (ds := [19]) #[false, false, false, false, false, false, false, false, false, false, false, false, false, false, false, false, false, false, false, false] (by kernel_rfl) rfl rfl ⟨hx212_0, hx213_0⟩ (fun hHeld => ?_); refine with_tabW impl_PlantSquare.tab4 impl_PlantSquare.bits4 (fun HT_ HW_ => ?_)
                          generalize w44.drew = w45 at HO211 HB GG41 HQ47 hf41_0 hx212_0 hx213_0 hx41_0 hHeld ⊢
                          refine pure_ (i := 0) (N := some 33) (v := ?_) (a' := ?_) #[true, false, false, false, false, false, false, false, false, false, false, false, false, false, false, false, false, false, false, false] rfl rfl (any_of HT_.out (by kernel_rfl)) (fun _ _ _ h => h) (Or.inl ⟨by rfl, ?_⟩) ?_ ?_
                          rotate_left
                          · intro w'
                            go_simp
                            with_reducible rfl
                          rotate_left
                          · simp only [Act.put, List.setIfInBounds_toArray, List.set_cons_zero, List.set_cons_succ, i64_w, i32_w]
                            rfl
                          refine pure_ (i := 1) (N := some 34) (v := ?_) (a' := ?_) #[true, true, false, false, false, false, false, false, false, false, false, false, false, false, false, false, false, false, false, false] rfl rfl (any_of HT_.out (by kernel_rfl)) (fun _ _ _ h => h) (Or.inl ⟨by rfl, ?_⟩) ?_ ?_
                          rotate_left
                          · intro w'
                            go_simp
                            with_reducible rfl
                          rotate_left
                          · simp only [Act.put, List.setIfInBounds_toArray, List.set_cons_zero, List.set_cons_succ, i64_w, i32_w]
                            rfl
                          refine pure_ (i := 2) (N := some 35) (v := ?_) (a' := ?_) #[true, true, true, false, false, false, false, false, false, false, false, false, false, false, false, false, false, false, false, false] rfl rfl (any_of HT_.out (by kernel_rfl)) (fun _ _ _ h => h) (Or.inl ⟨by rfl, ?_⟩) ?_ ?_
                          rotate_left
                          · intro w'
                            go_simp
                            with_reducible rfl
                          rotate_left
                          · simp only [Act.put, List.setIfInBounds_toArray, List.set_cons_zero, List.set_cons_succ, i64_w, i32_w]
                            rfl
                          refine pure_ (i := 3) (N := some 36) (v := ?_) (a' := ?_) #[true, true, true, true, false, false, false, false, false, false, false, false, false, false, false, false, false, false, false, false] rfl rfl (any_of HT_.out (by kernel_rfl)) (fun _ _ _ h => h) (Or.inl ⟨by rfl, ?_⟩) ?_ ?_
                          rotate_left
                          · intro w'
                            go_simp
                            with_reducible rfl
                          rotate_left
                          · simp only [Act.put, List.setIfInBounds_toArray, List.set_cons_zero, List.set_cons_succ, i64_w, i32_w]
                            rfl
                          refine pure_ (i := 4) (N := some 37) (v := ?_) (a' := ?_) #[true, true, true, true, true, false, false, false, false, false, false, false, false, false, false, false, false, false, false, false] rfl rfl (any_of HT_.out (by kernel_rfl)) (fun _ _ _ h => h) (Or.inl ⟨by rfl, ?_⟩) ?_ ?_
                          rotate_left
                          · intro w'
                            go_simp
                            with_reducible rfl
                          rotate_left
                          · simp only [Act.put, List.setIfInBounds_toArray, List.set_cons_zero, List.set_cons_succ, i64_w, i32_w]
                            rfl
                          refine pure_ (i := 6) (N := some 39) (v := ?_) (a' := ?_) #[true, true, true, true, true, false, true, false, false, false, false, false, false, false, false, false, false, false, false, false] rfl rfl (any_of HT_.out (by kernel_rfl)) (fun _ _ _ h => h) (Or.inl ⟨by rfl, ?_⟩) ?_ ?_
                          rotate_left
                          · intro w'
                            go_simp
                            with_reducible rfl
                          rotate_left
                          · simp only [Act.put, List.setIfInBounds_toArray, List.set_cons_zero, List.set_cons_succ, i64_w, i32_w]
                            rfl
                          refine pure_ (i := 8) (N := some 41) (v := ?_) (a' := ?_) #[true, true, true, true, true, false, true, false, true, false, false, false, false, false, false, false, false, false, false, false] rfl rfl (any_of HT_.out (by kernel_rfl)) (fun _ _ _ h => h) (Or.inl ⟨by rfl, ?_⟩) ?_ ?_
                          rotate_left
                          · intro w'
                            go_simp
                            with_reducible rfl
                          rotate_left
                          · simp only [Act.put, List.setIfInBounds_toArray, List.set_cons_zero, List.set_cons_succ, i64_w, i32_w]
                            rfl
                          refine pure_ (i := 10) (N := some 43) (v := ?_) (a' := ?_) #[true, true, true, true, true, false, true, false, true, false, true, false, false, false, false, false, false, false, false, false] rfl rfl (any_of HT_.out (by kernel_rfl)) (fun _ _ _ h => h) (Or.inl ⟨by rfl, ?_⟩) ?_ ?_
                          rotate_left
                          · intro w'
                            go_simp
                            with_reducible rfl
                          rotate_left
                          · simp only [Act.put, List.setIfInBounds_toArray, List.set_cons_zero, List.set_cons_succ, i64_w, i32_w]
                            rfl
                          refine pure_ (i := 11) (N := some 44) (v := ?_) (a' := ?_) #[true, true, true, true, true, false, true, false, true, false, true, true, false, false, false, false, false, false, false, false] rfl rfl (any_of HT_.out (by kernel_rfl)) (fun _ _ _ h => h) (Or.inl ⟨by rfl, ?_⟩) ?_ ?_
                          rotate_left
                          · intro w'
                            go_simp
                            with_reducible rfl
                          rotate_left
                          · simp only [Act.put, List.setIfInBounds_toArray, List.set_cons_zero, List.set_cons_succ, i64_w, i32_w]
                            rfl
                          refine pure_ (i := 12) (N := some 45) (v := ?_) (a' := ?_) #[true, true, true, true, true, false, true, false, true, false, true, true, true, false, false, false, false, false, false, false] rfl rfl (any_of HT_.out (by kernel_rfl)) (fun _ _ _ h => h) (Or.inl ⟨by rfl, ?_⟩) ?_ ?_
                          rotate_left
                          · intro w'
                            go_simp
                            with_reducible rfl
                          rotate_left
                          · simp only [Act.put, List.setIfInBounds_toArray, List.set_cons_zero, List.set_cons_succ, i64_w, i32_w]
                            rfl
                          refine pure_ (i := 14) (N := some 47) (v := ?_) (a' := ?_) #[true, true, true, true, true, false, true, false, true, false, true, true, true, false, true, false, false, false, false, false] rfl rfl (any_of HT_.out (by kernel_rfl)) (fun _ _ _ h => h) (Or.inl ⟨by rfl, ?_⟩) ?_ ?_
                          rotate_left
                          · intro w'
                            go_simp
                            with_reducible rfl
                          rotate_left
                          · simp only [Act.put, List.setIfInBounds_toArray, List.set_cons_zero, List.set_cons_succ, i64_w, i32_w]
                            rfl
                          refine pure_ (i := 15) (N := some 48) (v := ?_) (a' := ?_) #[true, true, true, true, true, false, true, false, true, false, true, true, true, false, true, true, false, false, false, false] rfl rfl (any_of HT_.out (by kernel_rfl)) (fun _ _ _ h => h) (Or.inl ⟨by rfl, ?_⟩) ?_ ?_
                          rotate_left
                          · intro w'
                            go_simp
                            with_reducible rfl
                          rotate_left
                          · simp only [Act.put, List.setIfInBounds_toArray, List.set_cons_zero, List.set_cons_succ, i64_w, i32_w]
                            rfl
                          refine take_ (i := 5) (N := some 38) (v := ?_) (a' := ?_) #[true, true, true, true, true, true, true, false, true, false, true, true, true, false, true, true, false, false, false, false] rfl rfl (take_ofW HT_.out HW_.out (by kernel_rfl)) (fun _ _ _ h => h) (Or.inl ⟨by rfl, ?_⟩) hHeld ?_ ?_
                          rotate_left
                          · rintro w' ⟨s0, s1⟩
                            go_simp
                            with_reducible rfl
                          rotate_left
                          · simp only [Act.put, List.setIfInBounds_toArray, List.set_cons_zero, List.set_cons_succ, i64_w, i32_w]
                            rfl
                          refine pure_ (i := 7) (N := some 40) (v := ?_) (a' := ?_) #[true, true, true, true, true, true, true, true, true, false, true, true, true, false, true, true, false, false, false, false] rfl rfl (any_of HT_.out (by kernel_rfl)) (fun _ _ _ h => h) (Or.inl ⟨by rfl, ?_⟩) ?_ ?_
                          rotate_left
                          · intro w'
                            go_simp
                            with_reducible rfl
                          rotate_left
                          · simp only [Act.put, List.setIfInBounds_toArray, List.set_cons_zero, List.set_cons_succ, i64_w, i32_w]
                            rfl
                          refine pure_ (i := 9) (N := some 42) (v := ?_) (a' := ?_) #[true, true, true, true, true, true, true, true, true, true, true, true, true, false, true, true, false, false, false, false] rfl rfl (any_of HT_.out (by kernel_rfl)) (fun _ _ _ h => h) (Or.inl ⟨by rfl, ?_⟩) ?_ ?_
                          rotate_left
                          · intro w'
                            go_simp
                            with_reducible rfl
                          rotate_left
                          · simp only [Act.put, List.setIfInBounds_toArray, List.set_cons_zero, List.set_cons_succ, i64_w, i32_w]
                            rfl
                          refine take_ (i := 13) (N := some 46) (v := ?_) (a' := ?_) #[true, true, true, true, true, true, true, true, true, true, true, true, true, true, true, true, false, false, false, false] rfl rfl (take_ofW HT_.out HW_.out (by kernel_rfl)) (fun _ _ _ h => h) (Or.inl ⟨by rfl, ?_⟩) hHeld ?_ ?_
                          rotate_left
                          · rintro w' ⟨s0, s1⟩
                            go_simp
                            with_reducible rfl
                          rotate_left
                          · simp only [Act.put, List.setIfInBounds_toArray, List.set_cons_zero, List.set_cons_succ, i64_w, i32_w]
                            rfl
                          refine pure_ (i := 16) (N := some 49) (v := ?_) (a' := ?_) #[true, true, true, true, true, true, true, true, true, true, true, true, true, true, true, true, true, false, false, false] rfl rfl (any_of HT_.out (by kernel_rfl)) (fun _ _ _ h => h) (Or.inl ⟨by rfl, ?_⟩) ?_ ?_
                          rotate_left
                          · intro w'
                            go_simp
                            with_reducible rfl
                          rotate_left
                          · simp only [Act.put, List.setIfInBounds_toArray, List.set_cons_zero, List.set_cons_succ, i64_w, i32_w]
                            rfl
                          refine pure_ (i := 17) (N := some 50) (v := ?_) (a' := ?_) #[true, true, true, true, true, true, true, true, true, true, true, true, true, true, true, true, true, true, false, false] rfl rfl (any_of HT_.out (by kernel_rfl)) (fun _ _ _ h => h) (Or.inl ⟨by rfl, ?_⟩) ?_ ?_
                          rotate_left
                          · intro w'
                            go_simp
                            with_reducible rfl
                          rotate_left
                          · simp only [Act.put, List.setIfInBounds_toArray, List.set_cons_zero, List.set_cons_succ, i64_w, i32_w]
                            rfl
                          refine pure_ (i := 18) (N := some 51) (v := ?_) (a' := ?_) #[true, true, true, true, true, true, true, true, true, true, true, true, true, true, true, true, true, true, true, false] rfl rfl (any_of HT_.out (by kernel_rfl)) (fun _ _ _ h => h) (Or.inl ⟨by rfl, ?_⟩) ?_ ?_
                          rotate_left
                          · intro w'
                            go_simp
                            with_reducible rfl
                          rotate_left
                          · simp only [Act.put, List.setIfInBounds_toArray, List.set_cons_zero, List.set_cons_succ, i64_w, i32_w]
                            rfl
                          refine last_ (i := 19) (N := none) #[true, true, true, true, true, true, true, true, true, true, true, true, true, true, true, true, true, true, true, true] rfl rfl (one_of HT_.out (by kernel_rfl)) (by decide) (fun K hK => ?_)
                          refine skip_ (w1 := ?_) (by rfl) rfl ?_ ?_
                          rotate_left
                          · go_simp
                            rfl
                          refine hK.out _ _ ?_
                          clear hK K
                          refine done_ (done_of HT_.out (by kernel_rfl)) ?_
                          try go_wp2
                          go_ret2
                          exact ⟨_, by first | rfl | (simp [errW_none, errW_some] <;> rfl) | (simp only [← hji37]; first | rfl | (simp [errW_none, errW_some] <;> rfl)) | (simp [*, errW_none, errW_some] <;> rfl), by (with_reducible repeat (first | apply Kd.R_alloc | apply Kd.R_drewN | apply Kd.R_drew)); exact HQ47.out, by repeat (first | (with_reducible first | exact HB.out | apply below_alloc | apply pw_below_drewN | apply below_drew1 | refine below_set ?_ GB41.out) | exact HB.out)⟩
                        · rw [if_neg c40] at H
                          exact absurd H (by simp)
                      · rw [if_neg c39] at H
                        exact absurd H (by simp)
                    · rw [if_neg c38] at H
                      exact absurd H (by simp)
                  · rw [if_neg c36] at H
                    exact absurd H (by simp)
                · rw [if_neg c35] at H
                  exact absurd H (by simp)
              · rw [if_neg c34] at H
                exact absurd H (by simp)
            · rw [if_neg c33] at H
              exact absurd H (by simp)
          · rw [if_neg c32] at H
            exact absurd H (by simp)
        · replace c30 := Bool.eq_false_iff.mpr c30
          subst c30
          have H1 : (some (([] : List ByteArray), false)) = some (r1, r2) := by rw [if_neg (show ¬ (false = true) by decide)] at H; exact H
          clear H
          have H := H1
          clear H1
          simp only [Option.some.injEq, Prod.mk.injEq] at H
          obtain ⟨rfl, rfl⟩ := H
          go_enter Try.func19, Try.ntmps19
          go_wp2_with (first | ((with_reducible refine gate_callee (f := 38) rfl ?_); refine goesL_ (some 12) rfl rfl Try.func38 (by kernel_rfl) rfl #[.slice A0 l0.length c0] rfl (by (try simp only [List.map_toArray, List.map_cons, List.map_nil]); first | done | rfl | (simp only [List.length_drop, List.length_take]; rfl)) ?_; (with_reducible refine (impl_IsLand.calls k _ _ l0 true _ ?side1 ?side2 A5.out).mono ?_); (case side1 => repeat (first | exact HR0.out | (with_reducible refine Kd.C_alloc ?_ _) | (with_reducible refine Kd.C_drewN ?_ _) | (with_reducible refine Kd.C_drew ?_))); (case side2 => exact HC0.out); rintro e w48 ⟨rfl, hb⟩; refine ⟨_, rfl, ?_⟩; have n0_ := Aside0.mk (below_step (by repeat (first | (with_reducible first | exact HB.out | apply below_alloc | apply pw_below_drewN | apply below_drew1) | exact HB.out)) hb); clear HB; have HB := n0_; clear n0_; (try clear hb); (try clear hb2); (try clear hk); (try clear hi)) | (go_at_call 42; (with_reducible refine (impl_at.calls _ _ l0 a1 a2 t201 _ ?side1 ?side2 A7.out).mono ?_); (case side1 => repeat (first | exact (Kd.C_below HR0.out HB.out) | (with_reducible refine Kd.C_alloc ?_ _) | (with_reducible refine Kd.C_drewN ?_ _) | (with_reducible refine Kd.C_drew ?_))); (case side2 => exact HC0.out); rintro e w49 ⟨rfl, hb⟩; have n0_ := Aside0.mk (below_step (by repeat (first | (with_reducible first | exact HB.out | apply below_alloc | apply pw_below_drewN | apply below_drew1) | exact HB.out)) hb); clear HB; have HB := n0_; clear n0_; (try clear hb); (try clear hb2); (try clear hk); (try clear hi)) | (go_at_call 43; (with_reducible refine (impl_isColour.calls a3 false _ A29.out).mono ?_); rintro e w' ⟨rfl, ⟨nd, rfl⟩⟩))
          go_ret2
          exact ⟨_, by first | rfl | (simp [errW_none, errW_some] <;> rfl) | (simp [*, errW_none, errW_some] <;> rfl), by first | exact Kd.R_nil _ _ _ _ _ | exact Kd.N_nil _ _ _ _ _ | exact Kd.V_nil _ _ _ _ _ | exact Kd.Q_nil _ _ _ _ _ | exact Kd.S_nil _ _ _ _ _, by repeat (first | (with_reducible first | exact HB.out | apply below_alloc | apply pw_below_drewN | apply below_drew1) | exact HB.out)⟩
  · replace c6 := Bool.eq_false_iff.mpr c6
    subst c6
    have H1 : (some (([] : List ByteArray), false)) = some (r1, r2) := by rw [if_neg (show ¬ (false = true) by decide)] at H; exact H
    clear H
    have H := H1
    clear H1
    simp only [Option.some.injEq, Prod.mk.injEq] at H
    obtain ⟨rfl, rfl⟩ := H
    go_enter Try.func19, Try.ntmps19
    go_wp2_with (first | ((with_reducible refine gate_callee (f := 38) rfl ?_); refine goesL_ (some 12) rfl rfl Try.func38 (by kernel_rfl) rfl #[.slice A0 l0.length c0] rfl (by (try simp only [List.map_toArray, List.map_cons, List.map_nil]); first | done | rfl | (simp only [List.length_drop, List.length_take]; rfl)) ?_; (with_reducible refine (impl_IsLand.calls k _ _ l0 false _ ?side1 ?side2 A5.out).mono ?_); (case side1 => repeat (first | exact HR0.out | (with_reducible refine Kd.C_alloc ?_ _) | (with_reducible refine Kd.C_drewN ?_ _) | (with_reducible refine Kd.C_drew ?_))); (case side2 => exact HC0.out); rintro e w50 ⟨rfl, hb⟩; refine ⟨_, rfl, ?_⟩; have n0_ := Aside0.mk (below_step (by repeat (first | (with_reducible first | exact HB.out | apply below_alloc | apply pw_below_drewN | apply below_drew1) | exact HB.out)) hb); clear HB; have HB := n0_; clear n0_; (try clear hb); (try clear hb2); (try clear hk); (try clear hi)))
    go_ret2
    exact ⟨_, by first | rfl | (simp [errW_none, errW_some] <;> rfl) | (simp [*, errW_none, errW_some] <;> rfl), by first | exact Kd.R_nil _ _ _ _ _ | exact Kd.N_nil _ _ _ _ _ | exact Kd.V_nil _ _ _ _ _ | exact Kd.Q_nil _ _ _ _ _ | exact Kd.S_nil _ _ _ _ _, by repeat (first | (with_reducible first | exact HB.out | apply below_alloc | apply pw_below_drewN | apply below_drew1) | exact HB.out)⟩

end Go.Proofs.Ytihjikmpbbjbfaa.X
