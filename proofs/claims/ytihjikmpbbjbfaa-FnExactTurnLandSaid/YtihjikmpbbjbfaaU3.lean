/- Laid by xp.py, a program of this session, over the kit's print: plain Lean functions with the answers of the Go functions, and proofs that the Go calls come to these answers; no condition beside those that each theorem names. -/
import Derived.Test.YtihjikmpbbjbfaaU0
import Derived.Test.YtihjikmpbbjbfaaU2
namespace Go.Proofs.Ytihjikmpbbjbfaa.U
open Go.RowKit Go.Proofs.YtihjikmpbbjbfaaW.PrintWords Go.Proofs.YtihjikmpbbjbfaaW.PrintLast Go.Proofs.YtihjikmpbbjbfaaW.PrintMore
attribute [local go_sem] max2_int min2_int max_two min_two max_three min_three max_four min_four   -- for this text's walks alone
set_option linter.unusedVariables false
set_option linter.unusedSimpArgs false

/-! ### spec_fiGood: function 36 -/
mutual
def spec_fiGood.j0 : Nat → List ByteArray → Bool → Option (Bool)
  | 0, _, _ => none
  | k + 1, x0, x17 => if x17 = true then (some false) else (spec_fiGood.l0 k x0 x0 (x0.length : Int) 0)
def spec_fiGood.l0 : Nat → List ByteArray → List ByteArray → Int → Int → Option (Bool)
  | 0, _, _, _, _ => none
  | k + 1, x0, x18, x19, x20 => if x20 < x19 then (if 0 ≤ x20 then (if x20 < (x18.length : Int) then (if 0 < (x0.length : Int) then (if ((rdOf ByteArray.empty x18 x20).size : Int) = ((rdOf ByteArray.empty x0 0).size : Int) then (spec_fiGood.l1 k x0 (rdOf ByteArray.empty x18 x20) 0 x18 x19 x20) else (some false)) else (none)) else (none)) else (none)) else (some true)
def spec_fiGood.l1 : Nat → List ByteArray → ByteArray → Int → List ByteArray → Int → Int → Option (Bool)
  | 0, _, _, _, _, _, _ => none
  | k + 1, x0, x4, x5, x18, x19, x20 => if x5 < (x4.size : Int) then (if 0 ≤ x5 then (if (bt x4 x5) = 46 then (spec_fiGood.l1 k x0 x4 (wrap64 (x5 + 1)) x18 x19 x20) else ((spec_fiLetter.f (bt x4 x5)).bind fun t121 => (if t121 = true then (spec_fiGood.l1 k x0 x4 (wrap64 (x5 + 1)) x18 x19 x20) else (some false)))) else (none)) else (spec_fiGood.l0 k x0 x18 x19 (wrap64 (x20 + 1)))
end
def spec_fiGood.f (k : Nat) (l0 : List ByteArray) : Option (Bool) := (spec_l1In.f (l0.length : Int) 1 12).bind fun t116 => (if t116 = true then (if 0 < (l0.length : Int) then ((spec_l1In.f ((rdOf ByteArray.empty l0 0).size : Int) 1 12).bind fun t118 => (spec_fiGood.j0 k l0 (!t118))) else (none)) else (spec_fiGood.j0 k l0 true))
theorem spec_fiGood.mono_l : ∀ k, (∀ y0 y1, LeO (spec_fiGood.j0 k y0 y1) (spec_fiGood.j0 (k + 1) y0 y1)) ∧ (∀ y0 y1 y2 y3, LeO (spec_fiGood.l0 k y0 y1 y2 y3) (spec_fiGood.l0 (k + 1) y0 y1 y2 y3)) ∧ (∀ y0 y1 y2 y3 y4 y5, LeO (spec_fiGood.l1 k y0 y1 y2 y3 y4 y5) (spec_fiGood.l1 (k + 1) y0 y1 y2 y3 y4 y5))
  | 0 => ⟨fun _ _ r h => by simp [spec_fiGood.j0] at h, fun _ _ _ _ r h => by simp [spec_fiGood.l0] at h, fun _ _ _ _ _ _ r h => by simp [spec_fiGood.l1] at h⟩
  | k + 1 => by
    obtain ⟨ih0, ih1, ih2⟩ := spec_fiGood.mono_l k
    refine ⟨?_, ?_, ?_⟩
    · intro y0 y1
      unfold spec_fiGood.j0
      repeat' first
      | (with_reducible exact ih0 _ _)
      | (with_reducible exact ih1 _ _ _ _)
      | (with_reducible exact ih2 _ _ _ _ _ _)
      | (with_reducible exact LeO.refl _)
      | (with_reducible exact LeO.none _)
      | (with_reducible refine LeO.ite ?_ ?_)
      | (with_reducible refine LeO.bind ?_ (fun _ => ?_))
      | exact ih0 _ _
      | exact ih1 _ _ _ _
      | exact ih2 _ _ _ _ _ _
      | exact LeO.none _
      | refine LeO.ite ?_ ?_
      | refine LeO.bind ?_ (fun _ => ?_)
    · intro y0 y1 y2 y3
      unfold spec_fiGood.l0
      repeat' first
      | (with_reducible exact ih0 _ _)
      | (with_reducible exact ih1 _ _ _ _)
      | (with_reducible exact ih2 _ _ _ _ _ _)
      | (with_reducible exact LeO.refl _)
      | (with_reducible exact LeO.none _)
      | (with_reducible refine LeO.ite ?_ ?_)
      | (with_reducible refine LeO.bind ?_ (fun _ => ?_))
      | exact ih0 _ _
      | exact ih1 _ _ _ _
      | exact ih2 _ _ _ _ _ _
      | exact LeO.none _
      | refine LeO.ite ?_ ?_
      | refine LeO.bind ?_ (fun _ => ?_)
    · intro y0 y1 y2 y3 y4 y5
      unfold spec_fiGood.l1
      repeat' first
      | (with_reducible exact ih0 _ _)
      | (with_reducible exact ih1 _ _ _ _)
      | (with_reducible exact ih2 _ _ _ _ _ _)
      | (with_reducible exact LeO.refl _)
      | (with_reducible exact LeO.none _)
      | (with_reducible refine LeO.ite ?_ ?_)
      | (with_reducible refine LeO.bind ?_ (fun _ => ?_))
      | exact ih0 _ _
      | exact ih1 _ _ _ _
      | exact ih2 _ _ _ _ _ _
      | exact LeO.none _
      | refine LeO.ite ?_ ?_
      | refine LeO.bind ?_ (fun _ => ?_)
theorem spec_fiGood.mono : ∀ a0 k, LeO (spec_fiGood.f k a0) (spec_fiGood.f (k + 1) a0) := by
  intro a0 k
  obtain ⟨ih0, ih1, ih2⟩ := spec_fiGood.mono_l k
  unfold spec_fiGood.f
  repeat' first
      | (with_reducible exact ih0 _ _)
      | (with_reducible exact ih1 _ _ _ _)
      | (with_reducible exact ih2 _ _ _ _ _ _)
      | (with_reducible exact LeO.refl _)
      | (with_reducible exact LeO.none _)
      | (with_reducible refine LeO.ite ?_ ?_)
      | (with_reducible refine LeO.bind ?_ (fun _ => ?_))
      | exact ih0 _ _
      | exact ih1 _ _ _ _
      | exact ih2 _ _ _ _ _ _
      | exact LeO.none _
      | refine LeO.ite ?_ ?_
      | refine LeO.bind ?_ (fun _ => ?_)
set_option maxHeartbeats 8000000 in
set_option maxRecDepth 100000 in
theorem spec_fiGood.calls (k : Nat) (A0 : Option Addr) (c0 : Nat) (l0 : List ByteArray) (r : Bool) (w : World) (hr0 : Kd.C Kd.string w A0 l0.length l0) (hc0 : l0.length ≤ c0) (h : spec_fiGood.f k l0 = some r) :
    Calls Try.prog 36 #[.slice A0 l0.length c0] w fun e w' => e = .returned (.bool r) ∧ Drawn0 w w' := by
  have HR0 := Aside0.mk hr0
  have HC0 := Aside0.mk hc0
  clear hr0 hc0
  have H : ((spec_l1In.f (l0.length : Int) 1 12).bind fun t116 => (if t116 = true then (if 0 < (l0.length : Int) then ((spec_l1In.f ((rdOf ByteArray.empty l0 0).size : Int) 1 12).bind fun t118 => (spec_fiGood.j0 k l0 (!t118))) else (none)) else (spec_fiGood.j0 k l0 true))) = some r := h
  clear h
  have HC2 := Aside0.mk H
  clear H
  go_enter Try.func36, Try.ntmps36
  go_upto_region 1 with (fail)
  go_cut [17] (fun v17 wc => ∃ (kq : Nat) (x17_1 : Bool), v17 = .bool x17_1 ∧ Aside0 (spec_fiGood.j0 kq l0 x17_1 = some r) ∧ Aside0 (kq ≤ k) ∧ Drawn0 w wc)
  case first =>
    have H := HC2.out
    clear HC2
    replace H := Option.bind_eq_some_iff.mp H
    obtain ⟨t116, A30, H⟩ := H
    replace H : (if t116 = true then (if 0 < (l0.length : Int) then ((spec_l1In.f ((rdOf ByteArray.empty l0 0).size : Int) 1 12).bind fun t118 => (spec_fiGood.j0 k l0 (!t118))) else (none)) else (spec_fiGood.j0 k l0 true)) = some r := H
    have A3 := Aside0.mk A30
    clear A30
    by_cases c4 : t116 = true
    · subst c4
      have H1 : (if 0 < (l0.length : Int) then ((spec_l1In.f ((rdOf ByteArray.empty l0 0).size : Int) 1 12).bind fun t118 => (spec_fiGood.j0 k l0 (!t118))) else (none)) = some r := by rw [if_pos rfl] at H; exact H
      clear H
      have H := H1
      clear H1
      by_cases c5 : 0 < (l0.length : Int)
      · rw [if_pos c5] at H
        have c5b0 : decide (0 < (l0.length : Int)) = true := decide_eq_true c5
        have c5b1 : decide (0 < l0.length) = true := decide_eq_true (by omega)
        clear c5
        (first | rw [c5b0] | (simp only [i64_w, i32_w]; rw [c5b0]) | skip)
        replace H := Option.bind_eq_some_iff.mp H
        obtain ⟨t118, A60, H⟩ := H
        replace H : (spec_fiGood.j0 k l0 (!t118)) = some r := H
        have A6 := Aside0.mk A60
        clear A60
        have H' := Aside0.mk H
        clear H
        go_wp2_with (first | ((with_reducible refine gate_callee (f := 60) rfl ?_); refine goesL_ (some 8) rfl rfl Try.func60 (by kernel_rfl) rfl #[.int .i64 (l0.length : Int), .int .i64 1, .int .i64 12] rfl (by (try simp only [List.map_toArray, List.map_cons, List.map_nil]); first | done | rfl | (simp only [List.length_drop, List.length_take]; rfl)) ?_; (with_reducible refine (spec_l1In.calls (l0.length : Int) 1 12 true _ A3.out).mono ?_); rintro e w' ⟨rfl, ⟨nd, rfl⟩⟩; refine ⟨_, rfl, ?_⟩; have p117 : 0 ≤ (0 : Int) := (by omega); have q117 : 0 < (l0.length : Int) := of_decide_eq_true (by first | (with_reducible assumption) | assumption); obtain ⟨ad117, e117, hx117_0⟩ := Kd.at_string HR0.out 0 p117 q117; cases e117; have qi117 : (0 < l0.length) = True := eq_true (by omega); (try rw [show ((0 : Int)).toNat = 0 from rfl] at hx117_0); (try rw [Addr.add_zero'] at hx117_0); replace p117 := eq_true p117; replace q117 := eq_true q117) | (go_at_call 60; (with_reducible refine (spec_l1In.calls ((rdOf ByteArray.empty l0 0).size : Int) 1 12 t118 _ A6.out).mono ?_); rintro e w' ⟨rfl, ⟨nd, rfl⟩⟩))
        go_meet
        case rel => exact ⟨_, (!t118), (by first | rfl | (simp; done) | (simp [*]; done)), H', ⟨by first | omega | exact Nat.le_refl _⟩, by repeat (first | exact Drawn0.refl _ | apply Drawn0.step)⟩
      · rw [if_neg c5] at H
        exact absurd H (by simp)
    · replace c4 := Bool.eq_false_iff.mpr c4
      subst c4
      have H1 : (spec_fiGood.j0 k l0 true) = some r := by rw [if_neg (show ¬ (false = true) by decide)] at H; exact H
      clear H
      have H := H1
      clear H1
      have H' := Aside0.mk H
      clear H
      go_wp2_with (first | ((with_reducible refine gate_callee (f := 60) rfl ?_); refine goesL_ (some 8) rfl rfl Try.func60 (by kernel_rfl) rfl #[.int .i64 (l0.length : Int), .int .i64 1, .int .i64 12] rfl (by (try simp only [List.map_toArray, List.map_cons, List.map_nil]); first | done | rfl | (simp only [List.length_drop, List.length_take]; rfl)) ?_; (with_reducible refine (spec_l1In.calls (l0.length : Int) 1 12 false _ A3.out).mono ?_); rintro e w' ⟨rfl, ⟨nd, rfl⟩⟩; refine ⟨_, rfl, ?_⟩))
      go_meet
      case rel => exact ⟨_, (true), (by first | rfl | (simp; done) | (simp [*]; done)), H', ⟨by first | omega | exact Nat.le_refl _⟩, by repeat (first | exact Drawn0.refl _ | apply Drawn0.step)⟩
  case rest =>
    clear HC2
    try clear p1
    try clear q1
    try clear hx1
    try clear qi1
    try clear p2
    try clear c3
    try clear c4
    try clear c5
    try clear c5b0
    try clear c5b1
    try clear c6
    try clear hx117_0
    try clear p117
    try clear q117
    obtain ⟨kq, x17_1, rfl, HA, HJ1, ⟨mc1, rfl⟩⟩ := hcut
    cases kq with
    | zero => exact absurd HA.out (by simp [spec_fiGood.j0])
    | succ kj1 =>
      have H := HA.out
      clear HA
      simp only [spec_fiGood.j0] at H
      by_cases c7 : x17_1 = true
      · subst c7
        have H1 : (some false) = some r := by rw [if_pos rfl] at H; exact H
        clear H
        have H := H1
        clear H1
        obtain rfl := Option.some.inj H
        go_wp2
        go_ret
        exact ⟨by first | rfl | (simp; done) | (simp [*]; done), by repeat (first | exact Drawn0.refl _ | apply Drawn0.step)⟩
      · replace c7 := Bool.eq_false_iff.mpr c7
        subst c7
        have H1 : (spec_fiGood.l0 kj1 l0 l0 (l0.length : Int) 0) = some r := by rw [if_neg (show ¬ (false = true) by decide)] at H; exact H
        clear H
        have H := H1
        clear H1
        have H' := Aside0.mk H
        clear H
        go_wp2
        go_loopg [20] kj1 (fun kq v20 w' => ∃ (x20_2 : Int), v20 = .int .i64 x20_2 ∧ Aside0 (spec_fiGood.l0 kq l0 l0 (l0.length : Int) x20_2 = some r) ∧ Aside0 (kq ≤ kj1) ∧ Drawn0 w w')
        case atStart => exact ⟨(0), (by first | rfl | (simp; done) | (simp [*]; done)), H', ⟨Nat.le_refl _⟩, by repeat (first | exact Drawn0.refl _ | apply Drawn0.step)⟩
        case round =>
          clear H'
          try clear c1
          try clear p1
          try clear q1
          try clear hx1
          try clear qi1
          try clear p2
          try clear c3
          try clear c4
          try clear c5
          try clear c5b0
          try clear c5b1
          try clear c6
          try clear c7
          try clear hx117_0
          try clear p1
          try clear p117
          try clear p2
          try clear q1
          try clear q117
          obtain ⟨x20_2, rfl, HA, HK2, ⟨m2, rfl⟩⟩ := hrel
          cases gk with
          | zero => exact absurd HA.out (by simp [spec_fiGood.l0])
          | succ k2 =>
            have H := HA.out
            clear HA
            simp only [spec_fiGood.l0] at H
            by_cases c8 : x20_2 < (l0.length : Int)
            · rw [if_pos c8] at H
              have c8b0 : decide (x20_2 < (l0.length : Int)) = true := decide_eq_true c8
              clear c8
              by_cases c9 : 0 ≤ x20_2
              · rw [if_pos c9] at H
                have c9b0 : decide (0 ≤ x20_2) = true := decide_eq_true c9
                clear c9
                by_cases c10 : x20_2 < (l0.length : Int)
                · rw [if_pos c10] at H
                  have c10b0 : decide (x20_2 < (l0.length : Int)) = true := decide_eq_true c10
                  clear c10
                  by_cases c11 : 0 < (l0.length : Int)
                  · rw [if_pos c11] at H
                    have c11b0 : decide (0 < (l0.length : Int)) = true := decide_eq_true c11
                    have c11b1 : decide (0 < l0.length) = true := decide_eq_true (by omega)
                    clear c11
                    by_cases c12 : ((rdOf ByteArray.empty l0 x20_2).size : Int) = ((rdOf ByteArray.empty l0 0).size : Int)
                    · rw [if_pos c12] at H
                      have c12b0 : (((rdOf ByteArray.empty l0 x20_2).size : Int) == ((rdOf ByteArray.empty l0 0).size : Int)) = true := beq_iff_eq.mpr c12
                      have c12b1 : (((rdOf ByteArray.empty l0 x20_2).size : Int) != ((rdOf ByteArray.empty l0 0).size : Int)) = false := bne_eq_false_iff_eq.mpr c12
                      have c12b2 : ((rdOf ByteArray.empty l0 x20_2).size == (rdOf ByteArray.empty l0 0).size) = true := by first | simpa using c12 | (simp at c12 ⊢; omega)
                      clear c12
                      have H' := Aside0.mk H
                      clear H
                      have p119 : 0 ≤ (x20_2 : Int) := of_decide_eq_true (by first | (with_reducible assumption) | assumption)
                      have q119 : x20_2 < (l0.length : Int) := of_decide_eq_true (by first | (with_reducible assumption) | assumption)
                      obtain ⟨ad119, e119, hx119_0⟩ := Kd.at_string HR0.out x20_2 p119 q119
                      cases e119
                      replace p119 := eq_true p119
                      replace q119 := eq_true q119
                      have p120 : 0 ≤ (0 : Int) := (by omega)
                      have q120 : 0 < (l0.length : Int) := of_decide_eq_true (by first | (with_reducible assumption) | assumption)
                      obtain ⟨ad120, e120, hx120_0⟩ := Kd.at_string HR0.out 0 p120 q120
                      obtain rfl : ad119 = ad120 := (by injection e120)
                      have qi120 : (0 < l0.length) = True := eq_true (by omega)
                      (try rw [show ((0 : Int)).toNat = 0 from rfl] at hx120_0)
                      (try rw [Addr.add_zero'] at hx120_0)
                      replace p120 := eq_true p120
                      replace q120 := eq_true q120
                      go_wp2
                      go_loopg [5] k2 (fun kq v5 w' => ∃ (x5_3 : Int), v5 = .int .i64 x5_3 ∧ Aside0 (spec_fiGood.l1 kq l0 (rdOf ByteArray.empty l0 x20_2) x5_3 l0 (l0.length : Int) x20_2 = some r) ∧ Aside0 (kq ≤ k2) ∧ Drawn0 w w')
                      case atStart => exact ⟨(0), (by first | rfl | (simp; done) | (simp [*]; done)), H', ⟨Nat.le_refl _⟩, by repeat (first | exact Drawn0.refl _ | apply Drawn0.step)⟩
                      case round =>
                        clear H'
                        try clear c1
                        try clear p1
                        try clear q1
                        try clear hx1
                        try clear qi1
                        try clear p2
                        try clear c3
                        try clear c4
                        try clear c5
                        try clear c5b0
                        try clear c5b1
                        try clear c6
                        try clear c7
                        try clear c8
                        try clear c8b0
                        try clear c9
                        try clear c9b0
                        try clear c10
                        try clear c10b0
                        try clear c11
                        try clear c11b0
                        try clear c11b1
                        try clear p11
                        try clear q11
                        try clear hx11
                        try clear qi11
                        try clear c12
                        try clear c12b0
                        try clear c12b1
                        try clear c12b2
                        try clear p12
                        try clear q12
                        try clear hx12
                        try clear qi12
                        try clear hx117_0
                        try clear hx119_0
                        try clear hx120_0
                        try clear p1
                        try clear p117
                        try clear p119
                        try clear p120
                        try clear p2
                        try clear q1
                        try clear q117
                        try clear q119
                        try clear q120
                        obtain ⟨x5_3, rfl, HA, HK3, ⟨m3, rfl⟩⟩ := hrel
                        cases gk with
                        | zero => exact absurd HA.out (by simp [spec_fiGood.l1])
                        | succ k3 =>
                          have H := HA.out
                          clear HA
                          simp only [spec_fiGood.l1] at H
                          by_cases c13 : x5_3 < ((rdOf ByteArray.empty l0 x20_2).size : Int)
                          · rw [if_pos c13] at H
                            have c13b0 : decide (x5_3 < ((rdOf ByteArray.empty l0 x20_2).size : Int)) = true := decide_eq_true c13
                            clear c13
                            by_cases c14 : 0 ≤ x5_3
                            · rw [if_pos c14] at H
                              have c14b0 : decide (0 ≤ x5_3) = true := decide_eq_true c14
                              clear c14
                              by_cases c16 : (bt (rdOf ByteArray.empty l0 x20_2) x5_3) = 46
                              · rw [if_pos c16] at H
                                have c16b0 : ((bt (rdOf ByteArray.empty l0 x20_2) x5_3) == 46) = true := beq_iff_eq.mpr c16
                                have c16b1 : ((bt (rdOf ByteArray.empty l0 x20_2) x5_3) != 46) = false := bne_eq_false_iff_eq.mpr c16
                                clear c16
                                have H' := Aside0.mk H
                                clear H
                                have p15 : 0 ≤ (x5_3 : Int) := of_decide_eq_true (by first | (with_reducible assumption) | assumption)
                                have q15 : x5_3 < ((rdOf ByteArray.empty l0 x20_2).size : Int) := of_decide_eq_true (by first | (with_reducible assumption) | assumption)
                                have hx15 := bt_at (rdOf ByteArray.empty l0 x20_2) x5_3
                                replace p15 := eq_true p15
                                replace q15 := eq_true q15
                                go_wp2
                                go_roundg k3
                                case measure => have := HJ1.out; have := HK2.out; have := HK3.out; omega
                                case rel => exact ⟨(wrap64 (x5_3 + 1)), (by first | rfl | (simp; done) | (simp [*]; done)), H', ⟨by have := HJ1.out; have := HK2.out; have := HK3.out; omega⟩, by repeat (first | exact Drawn0.refl _ | apply Drawn0.step)⟩
                              · rw [if_neg c16] at H
                                have c16b0 : ((bt (rdOf ByteArray.empty l0 x20_2) x5_3) == 46) = false := beq_eq_false_iff_ne.mpr c16
                                have c16b1 : ((bt (rdOf ByteArray.empty l0 x20_2) x5_3) != 46) = true := bne_iff_ne.mpr c16
                                replace H := Option.bind_eq_some_iff.mp H
                                obtain ⟨t121, A180, H⟩ := H
                                replace H : (if t121 = true then (spec_fiGood.l1 k3 l0 (rdOf ByteArray.empty l0 x20_2) (wrap64 (x5_3 + 1)) l0 (l0.length : Int) x20_2) else (some false)) = some r := H
                                have A18 := Aside0.mk A180
                                clear A180
                                by_cases c19 : t121 = true
                                · subst c19
                                  have H1 : (spec_fiGood.l1 k3 l0 (rdOf ByteArray.empty l0 x20_2) (wrap64 (x5_3 + 1)) l0 (l0.length : Int) x20_2) = some r := by rw [if_pos rfl] at H; exact H
                                  clear H
                                  have H := H1
                                  clear H1
                                  have H' := Aside0.mk H
                                  clear H
                                  have p15 : 0 ≤ (x5_3 : Int) := of_decide_eq_true (by first | (with_reducible assumption) | assumption)
                                  have q15 : x5_3 < ((rdOf ByteArray.empty l0 x20_2).size : Int) := of_decide_eq_true (by first | (with_reducible assumption) | assumption)
                                  have hx15 := bt_at (rdOf ByteArray.empty l0 x20_2) x5_3
                                  replace p15 := eq_true p15
                                  replace q15 := eq_true q15
                                  have p17 : 0 ≤ (x5_3 : Int) := of_decide_eq_true (by first | (with_reducible assumption) | assumption)
                                  have q17 : x5_3 < ((rdOf ByteArray.empty l0 x20_2).size : Int) := of_decide_eq_true (by first | (with_reducible assumption) | assumption)
                                  have hx17 := bt_at (rdOf ByteArray.empty l0 x20_2) x5_3
                                  replace p17 := eq_true p17
                                  replace q17 := eq_true q17
                                  go_wp2_with (first | (go_at_call 61; (with_reducible refine (spec_fiLetter.calls (bt (rdOf ByteArray.empty l0 x20_2) x5_3) true _ A18.out).mono ?_); rintro e w' ⟨rfl, ⟨nd, rfl⟩⟩))
                                  go_roundg k3
                                  case measure => have := HJ1.out; have := HK2.out; have := HK3.out; omega
                                  case rel => exact ⟨(wrap64 (x5_3 + 1)), (by first | rfl | (simp; done) | (simp [*]; done)), H', ⟨by have := HJ1.out; have := HK2.out; have := HK3.out; omega⟩, by repeat (first | exact Drawn0.refl _ | apply Drawn0.step)⟩
                                · replace c19 := Bool.eq_false_iff.mpr c19
                                  subst c19
                                  have H1 : (some false) = some r := by rw [if_neg (show ¬ (false = true) by decide)] at H; exact H
                                  clear H
                                  have H := H1
                                  clear H1
                                  obtain rfl := Option.some.inj H
                                  have p15 : 0 ≤ (x5_3 : Int) := of_decide_eq_true (by first | (with_reducible assumption) | assumption)
                                  have q15 : x5_3 < ((rdOf ByteArray.empty l0 x20_2).size : Int) := of_decide_eq_true (by first | (with_reducible assumption) | assumption)
                                  have hx15 := bt_at (rdOf ByteArray.empty l0 x20_2) x5_3
                                  replace p15 := eq_true p15
                                  replace q15 := eq_true q15
                                  have p17 : 0 ≤ (x5_3 : Int) := of_decide_eq_true (by first | (with_reducible assumption) | assumption)
                                  have q17 : x5_3 < ((rdOf ByteArray.empty l0 x20_2).size : Int) := of_decide_eq_true (by first | (with_reducible assumption) | assumption)
                                  have hx17 := bt_at (rdOf ByteArray.empty l0 x20_2) x5_3
                                  replace p17 := eq_true p17
                                  replace q17 := eq_true q17
                                  go_wp2_with (first | (go_at_call 61; (with_reducible refine (spec_fiLetter.calls (bt (rdOf ByteArray.empty l0 x20_2) x5_3) false _ A18.out).mono ?_); rintro e w' ⟨rfl, ⟨nd, rfl⟩⟩))
                                  go_ret
                                  exact ⟨by first | rfl | (simp; done) | (simp [*]; done), by repeat (first | exact Drawn0.refl _ | apply Drawn0.step)⟩
                            · rw [if_neg c14] at H
                              exact absurd H (by simp)
                          · rw [if_neg c13] at H
                            have c13b0 : decide (x5_3 < ((rdOf ByteArray.empty l0 x20_2).size : Int)) = false := decide_eq_false c13
                            clear c13
                            have H' := Aside0.mk H
                            clear H
                            go_wp2
                            go_roundg k3
                            case measure => have := HJ1.out; have := HK2.out; have := HK3.out; omega
                            case rel => exact ⟨(wrap64 (x20_2 + 1)), (by first | rfl | (simp; done) | (simp [*]; done)), H', ⟨by have := HJ1.out; have := HK2.out; have := HK3.out; omega⟩, by repeat (first | exact Drawn0.refl _ | apply Drawn0.step)⟩
                    · rw [if_neg c12] at H
                      have c12b0 : (((rdOf ByteArray.empty l0 x20_2).size : Int) == ((rdOf ByteArray.empty l0 0).size : Int)) = false := beq_eq_false_iff_ne.mpr c12
                      have c12b1 : (((rdOf ByteArray.empty l0 x20_2).size : Int) != ((rdOf ByteArray.empty l0 0).size : Int)) = true := bne_iff_ne.mpr c12
                      have c12b2 : ((rdOf ByteArray.empty l0 x20_2).size == (rdOf ByteArray.empty l0 0).size) = false := by first | simpa using c12 | (simp at c12 ⊢; omega)
                      obtain rfl := Option.some.inj H
                      have p119 : 0 ≤ (x20_2 : Int) := of_decide_eq_true (by first | (with_reducible assumption) | assumption)
                      have q119 : x20_2 < (l0.length : Int) := of_decide_eq_true (by first | (with_reducible assumption) | assumption)
                      obtain ⟨ad119, e119, hx119_0⟩ := Kd.at_string HR0.out x20_2 p119 q119
                      cases e119
                      replace p119 := eq_true p119
                      replace q119 := eq_true q119
                      have p120 : 0 ≤ (0 : Int) := (by omega)
                      have q120 : 0 < (l0.length : Int) := of_decide_eq_true (by first | (with_reducible assumption) | assumption)
                      obtain ⟨ad120, e120, hx120_0⟩ := Kd.at_string HR0.out 0 p120 q120
                      obtain rfl : ad119 = ad120 := (by injection e120)
                      have qi120 : (0 < l0.length) = True := eq_true (by omega)
                      (try rw [show ((0 : Int)).toNat = 0 from rfl] at hx120_0)
                      (try rw [Addr.add_zero'] at hx120_0)
                      replace p120 := eq_true p120
                      replace q120 := eq_true q120
                      go_wp2
                      go_ret
                      exact ⟨by first | rfl | (simp; done) | (simp [*]; done), by repeat (first | exact Drawn0.refl _ | apply Drawn0.step)⟩
                  · rw [if_neg c11] at H
                    exact absurd H (by simp)
                · rw [if_neg c10] at H
                  exact absurd H (by simp)
              · rw [if_neg c9] at H
                exact absurd H (by simp)
            · rw [if_neg c8] at H
              have c8b0 : decide (x20_2 < (l0.length : Int)) = false := decide_eq_false c8
              clear c8
              obtain rfl := Option.some.inj H
              go_wp2
              go_ret
              exact ⟨by first | rfl | (simp; done) | (simp [*]; done), by repeat (first | exact Drawn0.refl _ | apply Drawn0.step)⟩

/-! ### spec_TurnLand: function 28 -/
def spec_TurnLand.col (l0 : List ByteArray) (x : Nat) : Nat → ByteArray
  | 0 => ⟨#[]⟩
  | m + 1 => spec_TurnLand.col l0 x m ++ (rdOf ByteArray.empty l0 ((l0.length : Int) - 1 - (m : Int))).extract x (x + 1)
def spec_TurnLand.turn (l0 : List ByteArray) (n : Nat) : List ByteArray := (List.range n).map (fun x => spec_TurnLand.col l0 x l0.length)
def spec_TurnLand.f (k : Nat) (l0 : List ByteArray) : Option (List ByteArray × Bool) := (spec_fiGood.f k l0).bind fun t => if t = true then (if 0 < l0.length ∧ l0.length ≤ 1000 ∧ (rdOf ByteArray.empty l0 0).size ≤ 1000 ∧ (∀ y, y < l0.length → (rdOf ByteArray.empty l0 (y : Int)).size = (rdOf ByteArray.empty l0 0).size) ∧ (∀ c, c < (rdOf ByteArray.empty l0 0).size → ((rdOf ByteArray.empty l0 0).get! c).toNat < 128) then some (spec_TurnLand.turn l0 (rdOf ByteArray.empty l0 0).size, true) else none) else some ([], false)
theorem spec_TurnLand.mono : ∀ a0 k, LeO (spec_TurnLand.f k a0) (spec_TurnLand.f (k + 1) a0) := by
  intro a0 k
  unfold spec_TurnLand.f
  exact LeO.bind (spec_fiGood.mono _ _) (fun _ => LeO.refl _)
theorem spec_TurnLand.col_size (l0 : List ByteArray) (x n : Nat) (hx : x < n) (h : ∀ y, y < l0.length → (rdOf ByteArray.empty l0 (y : Int)).size = n) : ∀ m, m ≤ l0.length → (spec_TurnLand.col l0 x m).size = m
  | 0, _ => rfl
  | m + 1, hm => by
    have e : ((l0.length : Int) - 1 - (m : Int)) = ((l0.length - 1 - m : Nat) : Int) := by omega
    have := h (l0.length - 1 - m) (by omega)
    unfold spec_TurnLand.col
    rw [ByteArray.size_append, spec_TurnLand.col_size l0 x n hx h m (by omega), ByteArray.size_extract, e, this]
    omega
/-- The iterator's next step, wherever it lies. -/
theorem spec_TurnLand.next {P : Program} {w W : World} {b : Nat} {s : ByteArray} {pos : Nat} (hi : W.heap[b]? = some (.stringIter s pos)) (h : pos < s.size) (ha : (s.get! pos).toNat < 128) (hB : Below w.heap.size w W) (hb : w.heap.size ≤ b) :
    ∃ (W1 : World) (X R : Int), X = pos ∧ (∀ ty, (Instr.next (.pointer (some ⟨b, 0, none⟩)) true ty).run P W = .ok (.tuple #[.bool true, .int .i64 X, .int .i32 R]) W1) ∧ W1.heap[b]? = some (.stringIter s (pos + 1)) ∧ W1.heap.size = W.heap.size ∧ (∀ j, j ≠ b → W1.heap[j]? = W.heap[j]?) ∧ Below w.heap.size w W1 := by
  have e : s.get! pos = s[pos]'h := get_at s pos h
  have hlt : b < W.heap.size := by
    rcases Nat.lt_or_ge b W.heap.size with h0 | h0
    · exact h0
    · rw [Array.getElem?_eq_none h0] at hi; cases hi
  refine ⟨{ W with heap := W.heap.setIfInBounds b (.stringIter s (pos + 1)) }, pos, (s.get! pos).toNat, rfl, fun ty => ?_, ?_, ?_, ?_, ?_⟩
  · have hd := decode_ascii s pos h (by rw [← e]; exact ha)
    simp only [Instr.next, getObj, setObj, Sem.run_bind, Sem.run, hi, Result.andThen, h, if_true, hd]
    simp [goInt, Sem.run, hi, e]
  · show (W.heap.setIfInBounds b _)[b]? = _
    rw [Array.getElem?_setIfInBounds_self_of_lt hlt]
  · show (W.heap.setIfInBounds b _).size = _
    rw [Array.size_setIfInBounds]
  · intro j hj
    show (W.heap.setIfInBounds b _)[j]? = _
    rw [Array.getElem?_setIfInBounds_ne (fun e => hj e.symm)]
  · refine hB.trans ⟨rfl, rfl, rfl, by show W.heap.size ≤ (W.heap.setIfInBounds b _).size; rw [Array.size_setIfInBounds]; exact Nat.le_refl _, fun j hj => ?_⟩
    show (W.heap.setIfInBounds b _)[j]? = _
    rw [Array.getElem?_setIfInBounds_ne (by omega)]
theorem spec_TurnLand.stop {P : Program} {W : World} {b : Nat} {s : ByteArray} {pos : Nat} (hi : W.heap[b]? = some (.stringIter s pos)) (h : ¬ pos < s.size) :
    ∀ ty, (Instr.next (.pointer (some ⟨b, 0, none⟩)) true ty).run P W = .ok (.tuple #[.bool false]) W := by
  intro ty
  simp [Instr.next, getObj, Sem.run, hi, h]
/-- A row of strings is not the iterator. -/
theorem spec_TurnLand.other {W W1 : World} {base b : Nat} {v : Value} {xs : List ByteArray} {s : ByteArray} {pos : Nat} (hi : W.heap[b]? = some (.stringIter s pos)) (hR : Kd.R Kd.string 9 W base (fun _ => True) v xs) (hs : ∀ j, j ≠ b → W1.heap[j]? = W.heap[j]?) : Kd.R Kd.string 9 W1 base (fun _ => True) v xs := by
  refine Kd.R_mono (Kd.R_step (Kd.R_bound hR) (fun j hj _ => hs j (fun e => ?_))) (fun _ _ => trivial)
  obtain ⟨_, _, _, q, _, cells, hc⟩ := hj
  rw [e, hi] at hc
  cases hc
theorem spec_TurnLand.lt {W : World} {b : Nat} {o : Obj} (hi : W.heap[b]? = some o) : b < W.heap.size := by
  rcases Nat.lt_or_ge b W.heap.size with h0 | h0
  · exact h0
  · rw [Array.getElem?_eq_none h0] at hi; cases hi
theorem spec_TurnLand.apart {W : World} {base b : Nat} {v : Value} {xs : List ByteArray} {s : ByteArray} {pos : Nat} (hi : W.heap[b]? = some (.stringIter s pos)) (hR : Kd.R Kd.string 9 W base (fun _ => True) v xs) : some b ≠ v.ownBlock := by
  intro e
  obtain ⟨cells, hc⟩ := Kd.R_typed hR b e.symm
  rw [hi] at hc
  cases hc
set_option maxHeartbeats 8000000 in
set_option maxRecDepth 100000 in
theorem spec_TurnLand.calls (k : Nat) (A0 : Option Addr) (c0 : Nat) (l0 : List ByteArray) (r1 : List ByteArray) (r2 : Bool) (w : World) (hr0 : Kd.C Kd.string w A0 l0.length l0) (hc0 : l0.length ≤ c0) (h : spec_TurnLand.f k l0 = some (r1, r2)) :
    Calls Try.prog 28 #[.slice A0 l0.length c0] w fun e w' => ∃ v0_ : Value, e = .returned (.tuple #[v0_, .bool r2]) ∧ Kd.R Kd.string 9 w' w.heap.size (fun _ => True) v0_ r1 ∧ Below w.heap.size w w' := by
  unfold spec_TurnLand.f at h
  have HR0 := Aside0.mk hr0
  have HC0 := Aside0.mk hc0
  clear hr0 hc0
  have HB := Aside0.mk (Below.refl w.heap.size w)
  obtain ⟨t, A2, h⟩ := Option.bind_eq_some_iff.mp h
  have A2 := Aside0.mk A2
  cases t with
  | false =>
    rw [if_neg (by simp)] at h
    simp only [Option.some.injEq, Prod.mk.injEq] at h
    obtain ⟨rfl, rfl⟩ := h
    go_enter Try.func28, Try.ntmps28
    go_wp2_with (go_at_call 36; refine (spec_fiGood.calls k _ _ l0 false _ ?side1 ?side2 A2.out).mono ?_; (case side1 => exact (by repeat (first | exact HR0.out | (with_reducible refine Kd.C_alloc ?_ _) | (with_reducible refine Kd.C_drewN ?_ _) | (with_reducible refine Kd.C_drew ?_)))); (case side2 => exact HC0.out); rintro e w' ⟨rfl, ⟨nd, rfl⟩⟩)
    go_ret2
    exact ⟨_, rfl, by first | exact Kd.R_nil _ _ _ _ _, (by repeat (first | (with_reducible first | exact HB.out | apply below_alloc | apply pw_below_drewN | apply below_drew1) | exact HB.out))⟩
  | true =>
    rw [if_pos rfl] at h
    by_cases hg : 0 < l0.length ∧ l0.length ≤ 1000 ∧ (rdOf ByteArray.empty l0 0).size ≤ 1000 ∧ (∀ y, y < l0.length → (rdOf ByteArray.empty l0 (y : Int)).size = (rdOf ByteArray.empty l0 0).size) ∧ (∀ c, c < (rdOf ByteArray.empty l0 0).size → ((rdOf ByteArray.empty l0 0).get! c).toNat < 128)
    · rw [if_pos hg] at h
      simp only [Option.some.injEq, Prod.mk.injEq] at h
      obtain ⟨rfl, rfl⟩ := h
      obtain ⟨g1, g2, g3, g4, g5⟩ := hg
      have G4 := Aside0.mk g4
      have G5 := Aside0.mk g5
      clear g4 g5
      obtain ⟨n, hn⟩ : ∃ n, n = (rdOf ByteArray.empty l0 0).size := ⟨_, rfl⟩
      obtain ⟨s0, hs0⟩ : ∃ s, s = rdOf ByteArray.empty l0 0 := ⟨_, rfl⟩
      have p133 : 0 ≤ (0 : Int) := by omega
      have q133 : 0 < (l0.length : Int) := by omega
      obtain ⟨ad, e133, hx0⟩ := Kd.at_string HR0.out 0 p133 q133
      have qi : (0 < l0.length) = True := eq_true (by omega)
      cases e133
      try rw [show ((0 : Int)).toNat = 0 from rfl] at hx0
      try rw [Addr.add_zero'] at hx0
      rw [← hs0] at hx0
      replace p133 := eq_true p133
      replace q133 := eq_true q133
      have col_ok : ∀ x, x < s0.size → ∀ m, m < l0.length → (x + 1 ≤ (rdOf ByteArray.empty l0 ((l0.length : Int) - 1 - (m : Int))).size) ∧ (spec_TurnLand.col l0 x m).size ≤ 1000 := by
        intro x hx m hm
        have e : ((l0.length : Int) - 1 - (m : Int)) = ((l0.length - 1 - m : Nat) : Int) := by omega
        have h1 := G4.out (l0.length - 1 - m) (by omega)
        rw [← e, ← hs0] at h1
        have h2 := spec_TurnLand.col_size l0 x s0.size hx (by rw [hs0]; exact G4.out) m (by omega)
        omega
      go_enter Try.func28, Try.ntmps28
      go_wp2_with (go_at_call 36; refine (spec_fiGood.calls k _ _ l0 true _ ?side1 ?side2 A2.out).mono ?_; (case side1 => exact (by repeat (first | exact HR0.out | (with_reducible refine Kd.C_alloc ?_ _) | (with_reducible refine Kd.C_drewN ?_ _) | (with_reducible refine Kd.C_drew ?_)))); (case side2 => exact HC0.out); rintro e w' ⟨rfl, ⟨nd, rfl⟩⟩; replace hx0 := (((by repeat (first | (with_reducible first | exact HB.out | apply below_alloc | apply pw_below_drewN | apply below_drew1) | exact HB.out)) : Below w.heap.size w (w.drewN nd)).cell (World.block_lt_of_cell? w _ hx0)).trans hx0)
      go_loopg [4] n (fun gg s4 wr => ∃ x : Nat, x ≤ n ∧ n - x ≤ gg ∧ Aside0 (wr.heap[w.heap.size]? = some (.stringIter s0 x)) ∧ Aside0 (Kd.R Kd.string 9 wr w.heap.size (fun _ => True) s4 (spec_TurnLand.turn l0 x)) ∧ Aside0 (Below w.heap.size w wr))
      case atStart =>
        refine ⟨0, Nat.zero_le _, by omega, ⟨?_⟩, ⟨?_⟩, ⟨?_⟩⟩
        · rw [hs0]
          exact World.iter_heap (w.drewN nd) _ 0
        · exact Kd.R_nil _ _ _ _ _
        · exact below_alloc (pw_below_drewN HB.out nd) _
      case round =>
        clear HB hx0
        obtain ⟨x, hx, hgg, HI, HR4, HB⟩ := hrel
        by_cases hlt : x < s0.size
        · obtain ⟨W1, X, RN, hX, hnx, h1, h2, h3, h4⟩ := spec_TurnLand.next (P := Try.prog) HI.out hlt (by rw [hs0]; exact G5.out x (by rw [← hs0]; exact hlt)) HB.out (Nat.le_refl _)
          have HO := Aside0.mk (spec_TurnLand.other HI.out HR4.out h3)
          have HJ := Aside0.mk h1
          have HB1 := Aside0.mk h4
          clear h1 h2 h3 h4 HI HR4 HB
          have hxx := Aside0.mk (col_ok x hlt)
          obtain ⟨J, hJ⟩ : ∃ j_ : Int, wrap64 (X + 1) = j_ := ⟨_, rfl⟩
          have hJw : (IntKind.i64.wrap (X + 1)) = J := (i64_w _).trans hJ
          have hJx : J = (x : Int) + 1 := by
            rw [← hJ, hX]; unfold wrap64; omega
          have XJ := Aside0.mk (And.intro hX hJx)
          have s1 : (0 ≤ X) = True := eq_true (by omega)
          have s2 : (X ≤ J) = True := eq_true (by omega)
          have s3 : (0 ≤ J) = True := eq_true (by omega)
          obtain ⟨y0, hy0⟩ : ∃ y : Int, wrap64 ((l0.length : Int) - 1) = y := ⟨_, rfl⟩
          have hy0w : (IntKind.i64.wrap ((l0.length : Int) - 1)) = y0 := (i64_w _).trans hy0
          have Y0 := Aside0.mk (show y0 = (l0.length : Int) - 1 by rw [← hy0]; unfold wrap64; omega)
          clear hX hJx
          go_wp2
          go_loopg [6, 7] l0.length (fun gk s6 s7 wr' => ∃ (m : Nat) (y : Int), m ≤ l0.length ∧ l0.length - m ≤ gk ∧ s6 = .string (spec_TurnLand.col l0 x m) ∧ s7 = .int .i64 y ∧ Aside0 (y = (l0.length : Int) - 1 - (m : Int)) ∧ wr' = W1)
          case atStart => exact ⟨0, y0, Nat.zero_le _, by omega, rfl, by first | rfl | (rw [Y0.out]; rfl) | (rw [Y0.out]; simp), ⟨by have := Y0.out; omega⟩, rfl⟩
          case round =>
            obtain ⟨m, y, hm, hgm, rfl, rfl, Y1, rfl⟩ := hrel
            by_cases hlm : m < l0.length
            · have p1 : 0 ≤ y := by have := Y1.out; omega
              have q1 : y < (l0.length : Int) := by have := Y1.out; omega
              obtain ⟨ad1, e1, hx1⟩ := Kd.at_string HR0.out y p1 q1
              obtain rfl : ad = ad1 := (by injection e1)
              replace hx1 := (HB1.out.cell (World.block_lt_of_cell? w _ hx1)).trans hx1
              obtain ⟨z1, z2⟩ := hxx.out m hlm
              rw [← Y1.out] at z1
              obtain ⟨XJ1, XJ2⟩ := XJ.out
              have z3 : (J ≤ ((rdOf ByteArray.empty l0 y).size : Int)) = True := eq_true (by omega)
              have z4 : (9223372036854775807 < (spec_TurnLand.col l0 x m).size + (J.toNat - X.toNat)) = False := eq_false (by omega)
              have z5 : decide (y ≥ 0) = true := decide_eq_true p1
              obtain ⟨y1, hy1⟩ : ∃ j_ : Int, wrap64 (y - 1) = j_ := ⟨_, rfl⟩
              have hy1w : (IntKind.i64.wrap (y - 1)) = y1 := (i64_w _).trans hy1
              have Y2 := Aside0.mk (show y1 = (l0.length : Int) - 1 - ((m + 1 : Nat) : Int) by rw [← hy1]; have := Y1.out; unfold wrap64; omega)
              have XX := Aside0.mk (show X.toNat = x ∧ J.toNat = x + 1 by omega)
              clear z1 z2 XJ1 XJ2
              replace p1 := eq_true p1
              replace q1 := eq_true q1
              go_wp2
              go_roundg (l0.length - (m + 1))
              case measure => omega
              case rel =>
                refine ⟨m + 1, y1, by omega, by omega, ?_, rfl, Y2, rfl⟩
                rw [show spec_TurnLand.col l0 x (m + 1) = spec_TurnLand.col l0 x m ++ (rdOf ByteArray.empty l0 ((l0.length : Int) - 1 - (m : Int))).extract x (x + 1) from rfl, ← Y1.out, XX.out.1, XX.out.2]
            · obtain rfl : m = l0.length := by omega
              have p1 : ¬ 0 ≤ y := by have := Y1.out; omega
              have z5 : decide (y ≥ 0) = false := decide_eq_false p1
              replace p1 := eq_false p1
              have EE := Aside0.mk (show spec_TurnLand.turn l0 (x + 1) = spec_TurnLand.turn l0 x ++ [spec_TurnLand.col l0 x l0.length] by unfold spec_TurnLand.turn; rw [List.range_succ, List.map_append]; rfl)
              have LL := Aside0.mk (show (spec_TurnLand.turn l0 x).length ≤ 1000 by unfold spec_TurnLand.turn; rw [List.length_map, List.length_range]; omega)
              go_wp2_with ((with_reducible refine gate_builtin (b := .append) (xs := #[.tmp 35, .tmp 37]) rfl ?_); at_builtin; refine Kd.R_append Kd.string (w0 := w) w.heap.size rfl (.tmp 35) (.tmp 37) 22 9 (.string ⟨#[]⟩) 16 rfl Try.underlying22 info9 rfl (by decide) (by omega) u4 (spec_TurnLand.turn l0 x) (spec_TurnLand.col l0 x l0.length) [.string (spec_TurnLand.col l0 x l0.length)] (fun _ => True) (fun _ => False) rfl rfl ?aP (fun _ hk => hk.elim) ?aF ?aO ?aB ?aS ?aL ?_; (case aP => exact rfl); (case aB => exact HB1.out); (case aF => exact (fun _ _ => trivial)); (case aO => exact HO.out); (case aS => exact HB1.out.size); (case aL => have := LL.out; omega); intro v139 w18 ho hb hg hat; rw [← EE.out] at ho; have n1_ := Aside0.mk (hb); have n2_ := Aside0.mk (ho); have n3_ := Aside0.mk ((hg.block w.heap.size (spec_TurnLand.lt HJ.out) (spec_TurnLand.apart HJ.out HO.out)).trans HJ.out); clear ho hb hg hat)
              go_roundg (n - (x + 1))
              case measure => have hq := hlt; rw [hs0, ← hn] at hq; omega
              case rel => exact ⟨x + 1, by have hq := hlt; rw [hs0, ← hn] at hq; omega, by have hq := hlt; rw [hs0, ← hn] at hq; omega, n3_, n2_, n1_⟩
        · have hnx := spec_TurnLand.stop (P := Try.prog) HI.out hlt
          have hxn : x = n := by rw [hn, ← hs0] at hx ⊢; omega
          subst hxn
          go_wp2
          go_ret2
          exact ⟨_, rfl, (by rw [← hn]; exact (by (with_reducible repeat (first | apply Kd.R_alloc | apply Kd.R_drewN | apply Kd.R_drew)); exact HR4.out)), (by repeat (first | (with_reducible first | exact HB.out | apply below_alloc | apply pw_below_drewN | apply below_drew1) | exact HB.out))⟩
    · rw [if_neg hg] at h
      cases h


/-! ### impl_within: function 62 -/
def impl_within.f (a0 : Int) (a1 : Int) (a2 : Int) : Option (Bool) := if a0 ≥ a1 then (some (decide (a0 ≤ a2))) else (some false)
set_option maxHeartbeats 8000000 in
set_option maxRecDepth 100000 in
theorem impl_within.calls (a0 : Int) (a1 : Int) (a2 : Int) (r : Bool) (w : World) (h : impl_within.f a0 a1 a2 = some r) :
    Calls Try.prog 62 #[.int .i64 a0, .int .i64 a1, .int .i64 a2] w fun e w' => e = .returned (.bool r) ∧ Drawn0 w w' := by
  have H : (if a0 ≥ a1 then (some (decide (a0 ≤ a2))) else (some false)) = some r := h
  clear h
  by_cases c4 : a0 ≥ a1
  · rw [if_pos c4] at H
    have c4b0 : decide (a1 ≤ a0) = true := decide_eq_true c4
    clear c4
    obtain rfl := Option.some.inj H
    go_enter Try.func62, Try.ntmps62
    go_wp2
    go_ret
    exact ⟨by first | rfl | (simp; done) | (simp [*]; done), by repeat (first | exact Drawn0.refl _ | apply Drawn0.step)⟩
  · rw [if_neg c4] at H
    have c4b0 : decide (a1 ≤ a0) = false := decide_eq_false c4
    clear c4
    obtain rfl := Option.some.inj H
    go_enter Try.func62, Try.ntmps62
    go_wp2
    go_ret
    exact ⟨by first | rfl | (simp; done) | (simp [*]; done), by repeat (first | exact Drawn0.refl _ | apply Drawn0.step)⟩

end Go.Proofs.Ytihjikmpbbjbfaa.U
