/- Laid by xp.py, a program of this session, over the kit's print: plain Lean functions with the answers of the Go functions, and proofs that the Go calls come to these answers; no condition beside those that each theorem names. -/
import Derived.Test.YtihjikmpbbjbfaaV0
import Derived.Test.YtihjikmpbbjbfaaV3
namespace Go.Proofs.Ytihjikmpbbjbfaa.V
open Go.RowKit Go.Proofs.YtihjikmpbbjbfaaW.PrintWords Go.Proofs.YtihjikmpbbjbfaaW.PrintLast Go.Proofs.YtihjikmpbbjbfaaW.PrintMore
attribute [local go_sem] max2_int min2_int max_two min_two max_three min_three max_four min_four   -- for this text's walks alone
set_option linter.unusedVariables false
set_option linter.unusedSimpArgs false

/-! ### impl_isBoard: function 74 -/
def impl_isBoard.board (x : Int) : Bool := decide (x = 46) || (decide (97 ≤ x) && decide (x ≤ 101))
def impl_isBoard.f (a0 : Int) : Option (Bool) := if 0 ≤ a0 ∧ a0 < 256 then some (impl_isBoard.board a0) else none
set_option maxHeartbeats 1000000 in
set_option maxRecDepth 100000 in
theorem impl_isBoard.sl (s : ByteArray) (c : Int) (w : World) :
    Calls Try.prog 75 #[.string s, .int .u8 c] w fun e w' => e = .returned (.int .i64 (Lib.indexByte s.data.toList c.toNat.toUInt8)) ∧ w' = w := by
  go_enter Try.func75, Try.ntmps75
  go_wp2
  rw [run_callFunc_extern Try.func83 (by kernel_rfl) (by kernel_rfl) (by kernel_rfl) (e := Extern.BytealgIndexByte.indexByte) (by kernel_rfl), Lib.run_indexByteString]
  simp only [Result.andThen]
  rw [Oper.upon_value]
  go_wp2
  go_ret
  exact ⟨rfl, rfl⟩
set_option maxHeartbeats 1000000 in
theorem impl_isBoard.ib (s : ByteArray) (c : Int) (w : World) :
    Calls Try.prog 82 #[.string s, .int .u8 c] w fun e w' => e = .returned (.int .i64 (Lib.indexByte s.data.toList c.toNat.toUInt8)) ∧ w' = w := by
  go_enter Try.func82, Try.ntmps82
  go_wp2_with (go_at_call 75; refine (impl_isBoard.sl _ _ _).mono ?_; rintro e w' ⟨rfl, rfl⟩)
  go_ret
  exact ⟨rfl, rfl⟩
theorem impl_isBoard.which_ : ∀ a, a < 16 → ∀ b, b < 16 → decide (0 ≤ Lib.indexByte [97, 98, 99, 100, 101] ((16 * a + b : Nat) : Int).toNat.toUInt8) = (decide (97 ≤ ((16 * a + b : Nat) : Int)) && decide (((16 * a + b : Nat) : Int) ≤ 101)) := by decide +kernel
theorem impl_isBoard.which (n : Nat) (h : n < 256) : decide (0 ≤ Lib.indexByte [97, 98, 99, 100, 101] ((n : Nat) : Int).toNat.toUInt8) = (decide (97 ≤ ((n : Nat) : Int)) && decide (((n : Nat) : Int) ≤ 101)) := by
  have := impl_isBoard.which_ (n / 16) (by omega) (n % 16) (by omega)
  rwa [show 16 * (n / 16) + n % 16 = n from by omega] at this
set_option maxHeartbeats 1000000 in
theorem impl_isBoard.calls (a0 : Int) (r : Bool) (w : World) (h : impl_isBoard.f a0 = some r) :
    Calls Try.prog 74 #[.int .u8 a0] w fun e w' => e = .returned (.bool r) ∧ Drawn0 w w' := by
  unfold impl_isBoard.f at h
  by_cases hb : 0 ≤ a0 ∧ a0 < 256
  · rw [if_pos hb] at h
    have hr := Option.some.inj h
    clear h
    have hw := impl_isBoard.which a0.toNat (by omega)
    rw [Int.toNat_of_nonneg hb.1] at hw
    unfold impl_isBoard.board at hr
    rw [← hw] at hr
    by_cases h46 : a0 = 46
    · have hr' : r = true := by rw [← hr, decide_eq_true h46]; rfl
      clear hr hw
      subst hr'
      have e1 : (a0 == 46) = true := beq_iff_eq.2 h46
      clear h46
      go_enter Try.func74, Try.ntmps74
      go_wp2
      go_ret
      exact ⟨by first | rfl | (simp; done), Drawn0.refl _⟩
    · rw [decide_eq_false h46, Bool.false_or] at hr
      have e1 : (a0 == 46) = false := beq_eq_false_iff_ne.2 h46
      have hib := fun W : World => impl_isBoard.ib ⟨#[97, 98, 99, 100, 101]⟩ a0 W
      have el : (⟨#[97, 98, 99, 100, 101]⟩ : ByteArray).data.toList = [97, 98, 99, 100, 101] := rfl
      rw [el] at hib
      generalize Lib.indexByte [97, 98, 99, 100, 101] a0.toNat.toUInt8 = q at hib hr
      have HQ := Aside0.mk hr
      have HI := Aside0.mk hib
      clear hr hw h46 el hib
      go_enter Try.func74, Try.ntmps74
      go_wp2_with (go_at_call 82; refine (HI.out _).mono ?_; rintro e w' ⟨rfl, rfl⟩)
      go_ret
      exact ⟨by rw [← HQ.out]; first | rfl | (simp; done), by repeat (first | exact Drawn0.refl _ | apply Drawn0.step)⟩
  · rw [if_neg hb] at h
    cases h


/-! ### impl_IsFence: function 63 -/
def impl_IsFence.board (x : Int) : Bool := decide (x = 46) || (decide (97 ≤ x) && decide (x ≤ 101))
def impl_IsFence.f (a0 : ByteArray) : Option (Bool) := some (decide (1 ≤ (a0.size : Int) ∧ (a0.size : Int) ≤ 20) && (bytesOf a0).all impl_IsFence.board)
theorem impl_IsFence.in_ (a b c : Int) : impl_within.f a b c = some (decide (b ≤ a ∧ a ≤ c)) := by
  unfold impl_within.f
  by_cases h : a ≥ b
  · rw [if_pos h]; congr 1; simp [show b ≤ a from h]
  · rw [if_neg h]; congr 1; simp [show ¬ b ≤ a from h]
theorem impl_IsFence.board_f (x : Int) (h0 : 0 ≤ x) (h1 : x < 256) : impl_isBoard.f x = some (impl_IsFence.board x) := by
  unfold impl_isBoard.f impl_isBoard.board impl_IsFence.board
  rw [if_pos ⟨h0, h1⟩]
theorem impl_IsFence.bytes (s : ByteArray) : ∀ x ∈ bytesOf s, 0 ≤ x ∧ x < 256 := by
  intro x hx
  obtain ⟨b, _, rfl⟩ := List.mem_map.1 hx
  have := b.toNat_lt
  omega
/-- What an IndexFunc hands back, as far as its sign goes. -/
def impl_IsFence.Idx {α : Type} (p : α → Bool) (xs : List α) (w : World) (e : Ending) (w' : World) : Prop := ∃ r : Int, e = .returned (.int .i64 r) ∧ Aside0 (decide (0 ≤ r) = xs.any p) ∧ Below w.heap.size w w'
theorem impl_IsFence.hit {α : Type} (p : α → Bool) (z : α) (xs : List α) (k : Nat) (hk : k < xs.length) (h : p (xs.getD k z) = true) : xs.any p = true := by
  rw [List.any_eq_true]
  exact ⟨xs[k], List.getElem_mem hk, by rw [List.getD_eq_getElem?_getD, List.getElem?_eq_getElem hk] at h; exact h⟩
theorem impl_IsFence.miss {α : Type} (p : α → Bool) (z : α) (xs : List α) (h : ∀ j, j < xs.length → p (xs.getD j z) = false) : xs.any p = false := by
  rw [List.any_eq_false]
  intro x hx
  obtain ⟨j, hj, rfl⟩ := List.getElem_of_mem hx
  have := h j hj
  rw [List.getD_eq_getElem?_getD, List.getElem?_eq_getElem hj] at this
  simpa using this
theorem impl_IsFence.mem {α : Type} (z : α) (xs : List α) (k : Nat) (hk : k < xs.length) : xs.getD k z ∈ xs := by
  rw [List.getD_eq_getElem?_getD, List.getElem?_eq_getElem hk]; exact List.getElem_mem hk
set_option maxHeartbeats 2000000 in
theorem impl_IsFence.idx (p : Int → Bool) (g : Nat) (lb : Array Value) (eg : ∀ args w, (callFunc g args).run Try.prog w = .ok (.enter g args) w) (A0 : Option Addr) (c0 n0 : Nat) (l0 : List Int) (w : World) (hr0 : Kd.C (Kd.int .u8) w A0 n0 l0)
    (hp : ∀ (W : World) (x : Int), x ∈ l0 → Below w.heap.size w W → Calls Try.prog g (#[.int .u8 x] ++ lb) W fun e w' => e = .returned (.bool (p x)) ∧ Below W.heap.size W w') :
    Calls Try.prog 81 #[.slice A0 n0 c0, .func (.func g) #[] lb] w (impl_IsFence.Idx p l0 w) := by
  obtain rfl : l0.length = n0 := Kd.C_len hr0
  have HR := Aside0.mk hr0
  have HP := Aside0.mk hp
  have hmax := Kd.C_max hr0
  clear hr0 hp
  have HB := Aside0.mk (Below.refl w.heap.size w)
  go_enter Try.func81, Try.ntmps81
  go_wp2
  go_loopg [5, 8] l0.length (fun gg _ s8 wr => ∃ kk : Nat, kk ≤ l0.length ∧ l0.length - kk ≤ gg ∧ s8 = .int .i64 kk ∧ Aside0 (Below w.heap.size w wr) ∧ Aside0 (∀ j, j < kk → p (l0.getD j 0) = false))
  case atStart => exact ⟨0, Nat.zero_le _, by omega, rfl, HB, ⟨fun j hj => absurd hj (Nat.not_lt_zero _)⟩⟩
  case round =>
    clear HB
    obtain ⟨kk, hkk, hg, rfl, HB, HA⟩ := hrel
    by_cases hlt : kk < l0.length
    · have hltz : (kk : Int) < (l0.length : Int) := by omega
      obtain ⟨ad, e0, hcell⟩ := Kd.at_int (Kd.C_below HR.out HB.out) (kk : Int) (by omega) hltz
      cases e0
      rw [Int.toNat_natCast] at hcell
      have hrd : rd l0 (kk : Int) = l0.getD kk 0 := by unfold rd; rw [Int.toNat_natCast]
      have hcall := HP.out _ (rd l0 (kk : Int)) (by rw [hrd]; exact impl_IsFence.mem 0 l0 kk hlt) HB.out
      generalize rd l0 (kk : Int) = y at hcell hcall hrd
      have HY := Aside0.mk hrd
      clear hrd
      cases hq : p y with
      | true =>
        rw [hq] at hcall
        have HQ := Aside0.mk hq
        have HC := Aside0.mk hcall
        clear hq hcall
        go_wp2_with (go_at_fn g; refine (HC.out).mono ?_; rintro e w' ⟨rfl, hb⟩; have HB' := Aside0.mk hb; clear hb)
        go_ret
        exact ⟨kk, rfl, ⟨by rw [impl_IsFence.hit p 0 l0 kk hlt (by rw [← HY.out]; exact HQ.out)]; simp⟩, below_step HB.out HB'.out⟩
      | false =>
        rw [hq] at hcall
        have HQ := Aside0.mk hq
        have HC := Aside0.mk hcall
        clear hq hcall
        go_wp2_with (go_at_fn g; refine (HC.out).mono ?_; rintro e w' ⟨rfl, hb⟩; have HB' := Aside0.mk hb; clear hb)
        go_roundg (l0.length - (kk + 1))
        case measure => omega
        case rel =>
          refine ⟨kk + 1, by omega, by omega, by go_num, ⟨below_step HB.out HB'.out⟩, ⟨fun j hj => ?_⟩⟩
          by_cases e : j = kk
          · subst e
            rw [← HY.out]; exact HQ.out
          · exact HA.out j (by omega)
    · have hltz : ¬ (kk : Int) < (l0.length : Int) := by omega
      obtain rfl : kk = l0.length := by omega
      go_wp2
      go_ret
      exact ⟨-1, rfl, ⟨by rw [impl_IsFence.miss p 0 l0 HA.out]; simp⟩, HB.out⟩
set_option maxHeartbeats 2000000 in
theorem impl_IsFence.has (p : Int → Bool) (g : Nat) (lb : Array Value) (eg : ∀ args w, (callFunc g args).run Try.prog w = .ok (.enter g args) w) (A0 : Option Addr) (c0 n0 : Nat) (l0 : List Int) (w : World) (hr0 : Kd.C (Kd.int .u8) w A0 n0 l0)
    (hp : ∀ (W : World) (x : Int), x ∈ l0 → Below w.heap.size w W → Calls Try.prog g (#[.int .u8 x] ++ lb) W fun e w' => e = .returned (.bool (p x)) ∧ Below W.heap.size W w') :
    Calls Try.prog 72 #[.slice A0 n0 c0, .func (.func g) #[] lb] w fun e w' => e = .returned (.bool (l0.any p)) ∧ Below w.heap.size w w' := by
  have H := Aside0.mk (impl_IsFence.idx p g lb eg A0 c0 n0 l0 w hr0 hp)
  clear hr0 hp
  go_enter Try.func72, Try.ntmps72
  go_wp2_with (go_at_call 81; refine (H.out).mono ?_; rintro e w' ⟨r, rfl, hr, hb⟩; have HB := Aside0.mk hb; clear hb)
  go_ret
  exact ⟨by rw [← hr.out]; rfl, HB.out⟩
set_option maxHeartbeats 2000000 in
theorem impl_IsFence.one (x : Int) (h0 : 0 ≤ x) (h1 : x < 256) (W : World) :
    Calls Try.prog 73 #[.int .u8 x] W fun e w' => e = .returned (.bool (!(impl_IsFence.board x))) ∧ Below W.heap.size W w' := by
  have hin := impl_IsFence.board_f x h0 h1
  generalize impl_IsFence.board x = t at hin ⊢
  have HIN := Aside0.mk hin
  clear hin
  go_enter Try.func73, Try.ntmps73
  go_wp2_with (go_at_call 74; refine (impl_isBoard.calls x t _ HIN.out).mono ?_; rintro e w' ⟨rfl, hd⟩; have HD := Aside0.mk hd; clear hd)
  go_ret
  exact ⟨rfl, by first | exact HD.out | exact HD.out.below⟩
set_option maxHeartbeats 2000000 in
theorem impl_IsFence.calls (a0 : ByteArray) (r : Bool) (w : World) (h : impl_IsFence.f a0 = some r) :
    Calls Try.prog 63 #[.string a0] w fun e w' => e = .returned (.bool r) ∧ Below w.heap.size w w' := by
  have hr : r = (decide (1 ≤ (a0.size : Int) ∧ (a0.size : Int) ≤ 20) && !((bytesOf a0).any fun x => !(impl_IsFence.board x))) := by
    rw [← Option.some.inj h, List.all_eq_not_any_not]
  clear h
  have hin := impl_IsFence.in_ (a0.size : Int) 1 20
  by_cases hsz : 1 ≤ (a0.size : Int) ∧ (a0.size : Int) ≤ 20
  · rw [decide_eq_true hsz] at hin hr
    have HIN := Aside0.mk hin
    have eg : ∀ args w, (callFunc 73 args).run Try.prog w = .ok (.enter 73 args) w := enters_of Try.func73 (by kernel_rfl) rfl
    have kb := fun W => print_bytes (P := Try.prog) 9 54 5 Try.underlying9 Try.underlying54 Try.underlying5 a0 W
    have hcon := fun W : World => impl_IsFence.has (fun x => !(impl_IsFence.board x)) 73 #[] eg (some ⟨W.heap.size, 0, none⟩) (grownCap W a0.size 0 5) a0.size (bytesOf a0) (Lib.bytesWorld W 5 a0)
      (Kd.C_of_reads (d := (0 : Int)) (h1 := fun _ => rfl) (bytes_reads W 5 a0 (by omega))) (fun W' x hx _ => impl_IsFence.one x (impl_IsFence.bytes a0 x hx).1 (impl_IsFence.bytes a0 x hx).2 W')
    generalize ((bytesOf a0).any fun x => !(impl_IsFence.board x)) = t at hcon hr
    have HC := Aside0.mk hcon
    clear hcon hin eg
    simp only [Bool.true_and] at hr
    subst hr
    go_enter Try.func63, Try.ntmps63
    go_wp2_with (first | (go_at_call 62; refine (impl_within.calls (a0.size : Int) 1 20 true _ HIN.out).mono ?_; rintro e w' ⟨rfl, ⟨nd, rfl⟩⟩) | (go_at_call 72; refine (HC.out (w.drewN nd)).mono ?_; rintro e w' ⟨rfl, hb⟩; have HB := Aside0.mk hb; clear hb))
    go_ret
    have hb1 : Below w.heap.size w (Lib.bytesWorld (w.drewN nd) 5 a0) := bytes_below (pw_below_drewN (Below.refl _ _) nd) (Nat.le_refl _) _ _
    exact ⟨by first | rfl | (simp; done), below_step hb1 HB.out⟩
  · rw [decide_eq_false hsz] at hin hr
    have HIN := Aside0.mk hin
    clear hin
    simp only [Bool.false_and] at hr
    subst hr
    go_enter Try.func63, Try.ntmps63
    go_wp2_with (go_at_call 62; refine (impl_within.calls (a0.size : Int) 1 20 false _ HIN.out).mono ?_; rintro e w' ⟨rfl, ⟨nd, rfl⟩⟩)
    go_ret
    exact ⟨by first | rfl | (simp; done), by repeat (first | exact Below.refl _ _ | apply pw_below_drewN | apply below_drew1)⟩


/-! ### impl_IsLand: function 38 -/
def impl_IsLand.l0 : Nat → List ByteArray → List ByteArray → Int → Int → Option (Bool)
  | 0, _, _, _, _ => none
  | k + 1, x0, x9, x10, x11 => if x11 < x10 then (if 0 ≤ x11 then (if x11 < (x9.length : Int) then ((impl_within.f ((rdOf ByteArray.empty x9 x11).size : Int) 1 12).bind fun t132 => (if t132 = true then (if 0 < (x0.length : Int) then (if ((rdOf ByteArray.empty x9 x11).size : Int) = ((rdOf ByteArray.empty x0 0).size : Int) then ((impl_IsFence.f (rdOf ByteArray.empty x9 x11)).bind fun t134 => (if t134 = true then (impl_IsLand.l0 k x0 x9 x10 (wrap64 (x11 + 1))) else (some false))) else (some false)) else (none)) else (some false))) else (none)) else (none)) else (some true)
def impl_IsLand.f (k : Nat) (l0 : List ByteArray) : Option (Bool) := (impl_within.f (l0.length : Int) 1 12).bind fun t130 => (if t130 = true then (impl_IsLand.l0 k l0 l0 (l0.length : Int) 0) else (some false))
theorem impl_IsLand.mono_l : ∀ k, (∀ y0 y1 y2 y3, LeO (impl_IsLand.l0 k y0 y1 y2 y3) (impl_IsLand.l0 (k + 1) y0 y1 y2 y3))
  | 0 => fun _ _ _ _ r h => by simp [impl_IsLand.l0] at h
  | k + 1 => by
    have ih0 := impl_IsLand.mono_l k
    · intro y0 y1 y2 y3
      unfold impl_IsLand.l0
      repeat' first
      | (with_reducible exact ih0 _ _ _ _)
      | (with_reducible exact LeO.refl _)
      | (with_reducible exact LeO.none _)
      | (with_reducible refine LeO.ite ?_ ?_)
      | (with_reducible refine LeO.bind ?_ (fun _ => ?_))
      | exact ih0 _ _ _ _
      | exact LeO.none _
      | refine LeO.ite ?_ ?_
      | refine LeO.bind ?_ (fun _ => ?_)
theorem impl_IsLand.mono : ∀ a0 k, LeO (impl_IsLand.f k a0) (impl_IsLand.f (k + 1) a0) := by
  intro a0 k
  have ih0 := impl_IsLand.mono_l k
  unfold impl_IsLand.f
  repeat' first
      | (with_reducible exact ih0 _ _ _ _)
      | (with_reducible exact LeO.refl _)
      | (with_reducible exact LeO.none _)
      | (with_reducible refine LeO.ite ?_ ?_)
      | (with_reducible refine LeO.bind ?_ (fun _ => ?_))
      | exact ih0 _ _ _ _
      | exact LeO.none _
      | refine LeO.ite ?_ ?_
      | refine LeO.bind ?_ (fun _ => ?_)
set_option maxHeartbeats 8000000 in
set_option maxRecDepth 100000 in
theorem impl_IsLand.calls (k : Nat) (A0 : Option Addr) (c0 : Nat) (l0 : List ByteArray) (r : Bool) (w : World) (hr0 : Kd.C Kd.string w A0 l0.length l0) (hc0 : l0.length ≤ c0) (h : impl_IsLand.f k l0 = some r) :
    Calls Try.prog 38 #[.slice A0 l0.length c0] w fun e w' => e = .returned (.bool r) ∧ Below w.heap.size w w' := by
  have HR0 := Aside0.mk hr0
  have HC0 := Aside0.mk hc0
  clear hr0 hc0
  have HB := Aside0.mk (Below.refl w.heap.size w)
  have H : ((impl_within.f (l0.length : Int) 1 12).bind fun t130 => (if t130 = true then (impl_IsLand.l0 k l0 l0 (l0.length : Int) 0) else (some false))) = some r := h
  clear h
  replace H := Option.bind_eq_some_iff.mp H
  obtain ⟨t130, A20, H⟩ := H
  replace H : (if t130 = true then (impl_IsLand.l0 k l0 l0 (l0.length : Int) 0) else (some false)) = some r := H
  have A2 := Aside0.mk A20
  clear A20
  by_cases c3 : t130 = true
  · subst c3
    have H1 : (impl_IsLand.l0 k l0 l0 (l0.length : Int) 0) = some r := by rw [if_pos rfl] at H; exact H
    clear H
    have H := H1
    clear H1
    have H' := Aside0.mk H
    clear H
    go_enter Try.func38, Try.ntmps38
    go_wp2_with (first | ((with_reducible refine gate_callee (f := 62) rfl ?_); refine goesL_ (some 7) rfl rfl Try.func62 (by kernel_rfl) rfl #[.int .i64 (l0.length : Int), .int .i64 1, .int .i64 12] rfl (by (try simp only [List.map_toArray, List.map_cons, List.map_nil]); first | done | rfl | (simp only [List.length_drop, List.length_take]; rfl)) ?_; (with_reducible refine (impl_within.calls (l0.length : Int) 1 12 true _ A2.out).mono ?_); rintro e w' ⟨rfl, ⟨nd, rfl⟩⟩; refine ⟨_, rfl, ?_⟩))
    go_loopg [11] k (fun kq v11 w' => ∃ (x11_1 : Int), v11 = .int .i64 x11_1 ∧ Aside0 (impl_IsLand.l0 kq l0 l0 (l0.length : Int) x11_1 = some r) ∧ Aside0 (kq ≤ k) ∧ Aside0 (Below w.heap.size w w'))
    case atStart => exact ⟨(0), (by first | rfl | (simp; done) | (simp [*]; done)), H', ⟨Nat.le_refl _⟩, ⟨by repeat (first | (with_reducible first | exact HB.out | apply below_alloc | apply pw_below_drewN | apply below_drew1) | exact HB.out)⟩⟩
    case round =>
      clear H'
      try clear p2
      try clear c3
      obtain ⟨x11_1, rfl, HA, HK1, HB⟩ := hrel
      cases gk with
      | zero => exact absurd HA.out (by simp [impl_IsLand.l0])
      | succ k1 =>
        have H := HA.out
        clear HA
        simp only [impl_IsLand.l0] at H
        by_cases c4 : x11_1 < (l0.length : Int)
        · rw [if_pos c4] at H
          have c4b0 : decide (x11_1 < (l0.length : Int)) = true := decide_eq_true c4
          clear c4
          by_cases c5 : 0 ≤ x11_1
          · rw [if_pos c5] at H
            have c5b0 : decide (0 ≤ x11_1) = true := decide_eq_true c5
            clear c5
            by_cases c6 : x11_1 < (l0.length : Int)
            · rw [if_pos c6] at H
              have c6b0 : decide (x11_1 < (l0.length : Int)) = true := decide_eq_true c6
              clear c6
              replace H := Option.bind_eq_some_iff.mp H
              obtain ⟨t132, A70, H⟩ := H
              replace H : (if t132 = true then (if 0 < (l0.length : Int) then (if ((rdOf ByteArray.empty l0 x11_1).size : Int) = ((rdOf ByteArray.empty l0 0).size : Int) then ((impl_IsFence.f (rdOf ByteArray.empty l0 x11_1)).bind fun t134 => (if t134 = true then (impl_IsLand.l0 k1 l0 l0 (l0.length : Int) (wrap64 (x11_1 + 1))) else (some false))) else (some false)) else (none)) else (some false)) = some r := H
              have A7 := Aside0.mk A70
              clear A70
              by_cases c8 : t132 = true
              · subst c8
                have H1 : (if 0 < (l0.length : Int) then (if ((rdOf ByteArray.empty l0 x11_1).size : Int) = ((rdOf ByteArray.empty l0 0).size : Int) then ((impl_IsFence.f (rdOf ByteArray.empty l0 x11_1)).bind fun t134 => (if t134 = true then (impl_IsLand.l0 k1 l0 l0 (l0.length : Int) (wrap64 (x11_1 + 1))) else (some false))) else (some false)) else (none)) = some r := by rw [if_pos rfl] at H; exact H
                clear H
                have H := H1
                clear H1
                by_cases c9 : 0 < (l0.length : Int)
                · rw [if_pos c9] at H
                  have c9b0 : decide (0 < (l0.length : Int)) = true := decide_eq_true c9
                  have c9b1 : decide (0 < l0.length) = true := decide_eq_true (by omega)
                  clear c9
                  by_cases c10 : ((rdOf ByteArray.empty l0 x11_1).size : Int) = ((rdOf ByteArray.empty l0 0).size : Int)
                  · rw [if_pos c10] at H
                    have c10b0 : (((rdOf ByteArray.empty l0 x11_1).size : Int) == ((rdOf ByteArray.empty l0 0).size : Int)) = true := beq_iff_eq.mpr c10
                    have c10b1 : (((rdOf ByteArray.empty l0 x11_1).size : Int) != ((rdOf ByteArray.empty l0 0).size : Int)) = false := bne_eq_false_iff_eq.mpr c10
                    have c10b2 : ((rdOf ByteArray.empty l0 x11_1).size == (rdOf ByteArray.empty l0 0).size) = true := by first | simpa using c10 | (simp at c10 ⊢; omega)
                    clear c10
                    replace H := Option.bind_eq_some_iff.mp H
                    obtain ⟨t134, A110, H⟩ := H
                    replace H : (if t134 = true then (impl_IsLand.l0 k1 l0 l0 (l0.length : Int) (wrap64 (x11_1 + 1))) else (some false)) = some r := H
                    have A11 := Aside0.mk A110
                    clear A110
                    by_cases c12 : t134 = true
                    · subst c12
                      have H1 : (impl_IsLand.l0 k1 l0 l0 (l0.length : Int) (wrap64 (x11_1 + 1))) = some r := by rw [if_pos rfl] at H; exact H
                      clear H
                      have H := H1
                      clear H1
                      have H' := Aside0.mk H
                      clear H
                      have p131 : 0 ≤ (x11_1 : Int) := of_decide_eq_true (by first | (with_reducible assumption) | assumption)
                      have q131 : x11_1 < (l0.length : Int) := of_decide_eq_true (by first | (with_reducible assumption) | assumption)
                      obtain ⟨ad131, e131, hx131_0⟩ := Kd.at_string HR0.out x11_1 p131 q131
                      cases e131
                      replace hx131_0 := (HB.out.cell (World.block_lt_of_cell? w _ hx131_0)).trans hx131_0
                      replace p131 := eq_true p131
                      replace q131 := eq_true q131
                      go_wp2_with (first | ((with_reducible refine gate_callee (f := 62) rfl ?_); refine goesL_ (some 17) rfl rfl Try.func62 (by kernel_rfl) rfl #[.int .i64 ((rdOf ByteArray.empty l0 x11_1).size : Int), .int .i64 1, .int .i64 12] rfl (by (try simp only [List.map_toArray, List.map_cons, List.map_nil]); first | done | rfl | (simp only [List.length_drop, List.length_take]; rfl)) ?_; (with_reducible refine (impl_within.calls ((rdOf ByteArray.empty l0 x11_1).size : Int) 1 12 true _ A7.out).mono ?_); rintro e w' ⟨rfl, ⟨nd, rfl⟩⟩; refine ⟨_, rfl, ?_⟩; have p133 : 0 ≤ (0 : Int) := (by omega); have q133 : 0 < (l0.length : Int) := of_decide_eq_true (by first | (with_reducible assumption) | assumption); obtain ⟨ad133, e133, hx133_0⟩ := Kd.at_string HR0.out 0 p133 q133; obtain rfl : ad131 = ad133 := (by injection e133); have qi133 : (0 < l0.length) = True := eq_true (by omega); (try rw [show ((0 : Int)).toNat = 0 from rfl] at hx133_0); (try rw [Addr.add_zero'] at hx133_0); replace hx133_0 := (HB.out.cell (World.block_lt_of_cell? w _ hx133_0)).trans hx133_0; replace p133 := eq_true p133; replace q133 := eq_true q133) | (go_at_call 63; (with_reducible refine (impl_IsFence.calls (rdOf ByteArray.empty l0 x11_1) true _ A11.out).mono ?_); rintro e w13 ⟨rfl, hb⟩; have n0_ := Aside0.mk (below_step (by repeat (first | (with_reducible first | exact HB.out | apply below_alloc | apply pw_below_drewN | apply below_drew1) | exact HB.out)) hb); clear HB; have HB := n0_; clear n0_; (try clear hb); (try clear hb2); (try clear hk); (try clear hi)))
                      go_roundg k1
                      case measure => have := HK1.out; omega
                      case rel => exact ⟨(wrap64 (x11_1 + 1)), (by first | rfl | (simp; done) | (simp [*]; done)), H', ⟨by have := HK1.out; omega⟩, ⟨by repeat (first | (with_reducible first | exact HB.out | apply below_alloc | apply pw_below_drewN | apply below_drew1) | exact HB.out)⟩⟩
                    · replace c12 := Bool.eq_false_iff.mpr c12
                      subst c12
                      have H1 : (some false) = some r := by rw [if_neg (show ¬ (false = true) by decide)] at H; exact H
                      clear H
                      have H := H1
                      clear H1
                      obtain rfl := Option.some.inj H
                      have p131 : 0 ≤ (x11_1 : Int) := of_decide_eq_true (by first | (with_reducible assumption) | assumption)
                      have q131 : x11_1 < (l0.length : Int) := of_decide_eq_true (by first | (with_reducible assumption) | assumption)
                      obtain ⟨ad131, e131, hx131_0⟩ := Kd.at_string HR0.out x11_1 p131 q131
                      cases e131
                      replace hx131_0 := (HB.out.cell (World.block_lt_of_cell? w _ hx131_0)).trans hx131_0
                      replace p131 := eq_true p131
                      replace q131 := eq_true q131
                      go_wp2_with (first | ((with_reducible refine gate_callee (f := 62) rfl ?_); refine goesL_ (some 17) rfl rfl Try.func62 (by kernel_rfl) rfl #[.int .i64 ((rdOf ByteArray.empty l0 x11_1).size : Int), .int .i64 1, .int .i64 12] rfl (by (try simp only [List.map_toArray, List.map_cons, List.map_nil]); first | done | rfl | (simp only [List.length_drop, List.length_take]; rfl)) ?_; (with_reducible refine (impl_within.calls ((rdOf ByteArray.empty l0 x11_1).size : Int) 1 12 true _ A7.out).mono ?_); rintro e w' ⟨rfl, ⟨nd, rfl⟩⟩; refine ⟨_, rfl, ?_⟩; have p133 : 0 ≤ (0 : Int) := (by omega); have q133 : 0 < (l0.length : Int) := of_decide_eq_true (by first | (with_reducible assumption) | assumption); obtain ⟨ad133, e133, hx133_0⟩ := Kd.at_string HR0.out 0 p133 q133; obtain rfl : ad131 = ad133 := (by injection e133); have qi133 : (0 < l0.length) = True := eq_true (by omega); (try rw [show ((0 : Int)).toNat = 0 from rfl] at hx133_0); (try rw [Addr.add_zero'] at hx133_0); replace hx133_0 := (HB.out.cell (World.block_lt_of_cell? w _ hx133_0)).trans hx133_0; replace p133 := eq_true p133; replace q133 := eq_true q133) | (go_at_call 63; (with_reducible refine (impl_IsFence.calls (rdOf ByteArray.empty l0 x11_1) false _ A11.out).mono ?_); rintro e w14 ⟨rfl, hb⟩; have n0_ := Aside0.mk (below_step (by repeat (first | (with_reducible first | exact HB.out | apply below_alloc | apply pw_below_drewN | apply below_drew1) | exact HB.out)) hb); clear HB; have HB := n0_; clear n0_; (try clear hb); (try clear hb2); (try clear hk); (try clear hi)))
                      go_ret
                      exact ⟨by first | rfl | (simp [errW_none, errW_some] <;> rfl) | (simp [*, errW_none, errW_some] <;> rfl), by repeat (first | (with_reducible first | exact HB.out | apply below_alloc | apply pw_below_drewN | apply below_drew1) | exact HB.out)⟩
                  · rw [if_neg c10] at H
                    have c10b0 : (((rdOf ByteArray.empty l0 x11_1).size : Int) == ((rdOf ByteArray.empty l0 0).size : Int)) = false := beq_eq_false_iff_ne.mpr c10
                    have c10b1 : (((rdOf ByteArray.empty l0 x11_1).size : Int) != ((rdOf ByteArray.empty l0 0).size : Int)) = true := bne_iff_ne.mpr c10
                    have c10b2 : ((rdOf ByteArray.empty l0 x11_1).size == (rdOf ByteArray.empty l0 0).size) = false := by first | simpa using c10 | (simp at c10 ⊢; omega)
                    obtain rfl := Option.some.inj H
                    have p131 : 0 ≤ (x11_1 : Int) := of_decide_eq_true (by first | (with_reducible assumption) | assumption)
                    have q131 : x11_1 < (l0.length : Int) := of_decide_eq_true (by first | (with_reducible assumption) | assumption)
                    obtain ⟨ad131, e131, hx131_0⟩ := Kd.at_string HR0.out x11_1 p131 q131
                    cases e131
                    replace hx131_0 := (HB.out.cell (World.block_lt_of_cell? w _ hx131_0)).trans hx131_0
                    replace p131 := eq_true p131
                    replace q131 := eq_true q131
                    go_wp2_with (first | ((with_reducible refine gate_callee (f := 62) rfl ?_); refine goesL_ (some 17) rfl rfl Try.func62 (by kernel_rfl) rfl #[.int .i64 ((rdOf ByteArray.empty l0 x11_1).size : Int), .int .i64 1, .int .i64 12] rfl (by (try simp only [List.map_toArray, List.map_cons, List.map_nil]); first | done | rfl | (simp only [List.length_drop, List.length_take]; rfl)) ?_; (with_reducible refine (impl_within.calls ((rdOf ByteArray.empty l0 x11_1).size : Int) 1 12 true _ A7.out).mono ?_); rintro e w' ⟨rfl, ⟨nd, rfl⟩⟩; refine ⟨_, rfl, ?_⟩; have p133 : 0 ≤ (0 : Int) := (by omega); have q133 : 0 < (l0.length : Int) := of_decide_eq_true (by first | (with_reducible assumption) | assumption); obtain ⟨ad133, e133, hx133_0⟩ := Kd.at_string HR0.out 0 p133 q133; obtain rfl : ad131 = ad133 := (by injection e133); have qi133 : (0 < l0.length) = True := eq_true (by omega); (try rw [show ((0 : Int)).toNat = 0 from rfl] at hx133_0); (try rw [Addr.add_zero'] at hx133_0); replace hx133_0 := (HB.out.cell (World.block_lt_of_cell? w _ hx133_0)).trans hx133_0; replace p133 := eq_true p133; replace q133 := eq_true q133))
                    go_ret
                    exact ⟨by first | rfl | (simp [errW_none, errW_some] <;> rfl) | (simp [*, errW_none, errW_some] <;> rfl), by repeat (first | (with_reducible first | exact HB.out | apply below_alloc | apply pw_below_drewN | apply below_drew1) | exact HB.out)⟩
                · rw [if_neg c9] at H
                  exact absurd H (by simp)
              · replace c8 := Bool.eq_false_iff.mpr c8
                subst c8
                have H1 : (some false) = some r := by rw [if_neg (show ¬ (false = true) by decide)] at H; exact H
                clear H
                have H := H1
                clear H1
                obtain rfl := Option.some.inj H
                have p131 : 0 ≤ (x11_1 : Int) := of_decide_eq_true (by first | (with_reducible assumption) | assumption)
                have q131 : x11_1 < (l0.length : Int) := of_decide_eq_true (by first | (with_reducible assumption) | assumption)
                obtain ⟨ad131, e131, hx131_0⟩ := Kd.at_string HR0.out x11_1 p131 q131
                cases e131
                replace hx131_0 := (HB.out.cell (World.block_lt_of_cell? w _ hx131_0)).trans hx131_0
                replace p131 := eq_true p131
                replace q131 := eq_true q131
                go_wp2_with (first | ((with_reducible refine gate_callee (f := 62) rfl ?_); refine goesL_ (some 17) rfl rfl Try.func62 (by kernel_rfl) rfl #[.int .i64 ((rdOf ByteArray.empty l0 x11_1).size : Int), .int .i64 1, .int .i64 12] rfl (by (try simp only [List.map_toArray, List.map_cons, List.map_nil]); first | done | rfl | (simp only [List.length_drop, List.length_take]; rfl)) ?_; (with_reducible refine (impl_within.calls ((rdOf ByteArray.empty l0 x11_1).size : Int) 1 12 false _ A7.out).mono ?_); rintro e w' ⟨rfl, ⟨nd, rfl⟩⟩; refine ⟨_, rfl, ?_⟩))
                go_ret
                exact ⟨by first | rfl | (simp [errW_none, errW_some] <;> rfl) | (simp [*, errW_none, errW_some] <;> rfl), by repeat (first | (with_reducible first | exact HB.out | apply below_alloc | apply pw_below_drewN | apply below_drew1) | exact HB.out)⟩
            · rw [if_neg c6] at H
              exact absurd H (by simp)
          · rw [if_neg c5] at H
            exact absurd H (by simp)
        · rw [if_neg c4] at H
          have c4b0 : decide (x11_1 < (l0.length : Int)) = false := decide_eq_false c4
          clear c4
          obtain rfl := Option.some.inj H
          go_wp2
          go_ret
          exact ⟨by first | rfl | (simp [errW_none, errW_some] <;> rfl) | (simp [*, errW_none, errW_some] <;> rfl), by repeat (first | (with_reducible first | exact HB.out | apply below_alloc | apply pw_below_drewN | apply below_drew1) | exact HB.out)⟩
  · replace c3 := Bool.eq_false_iff.mpr c3
    subst c3
    have H1 : (some false) = some r := by rw [if_neg (show ¬ (false = true) by decide)] at H; exact H
    clear H
    have H := H1
    clear H1
    obtain rfl := Option.some.inj H
    go_enter Try.func38, Try.ntmps38
    go_wp2_with (first | ((with_reducible refine gate_callee (f := 62) rfl ?_); refine goesL_ (some 7) rfl rfl Try.func62 (by kernel_rfl) rfl #[.int .i64 (l0.length : Int), .int .i64 1, .int .i64 12] rfl (by (try simp only [List.map_toArray, List.map_cons, List.map_nil]); first | done | rfl | (simp only [List.length_drop, List.length_take]; rfl)) ?_; (with_reducible refine (impl_within.calls (l0.length : Int) 1 12 false _ A2.out).mono ?_); rintro e w' ⟨rfl, ⟨nd, rfl⟩⟩; refine ⟨_, rfl, ?_⟩))
    go_ret
    exact ⟨by first | rfl | (simp [errW_none, errW_some] <;> rfl) | (simp [*, errW_none, errW_some] <;> rfl), by repeat (first | (with_reducible first | exact HB.out | apply below_alloc | apply pw_below_drewN | apply below_drew1) | exact HB.out)⟩

/-! ### impl_isColour: function 43 -/
def impl_isColour.colour (s : ByteArray) : Bool := decide (s.size = 1) && (decide (97 ≤ bt s 0) && decide (bt s 0 ≤ 101))
def impl_isColour.f (a0 : ByteArray) : Option (Bool) := some (impl_isColour.colour a0)
set_option maxHeartbeats 1000000 in
set_option maxRecDepth 100000 in
theorem impl_isColour.sl (s : ByteArray) (c : Int) (w : World) :
    Calls Try.prog 75 #[.string s, .int .u8 c] w fun e w' => e = .returned (.int .i64 (Lib.indexByte s.data.toList c.toNat.toUInt8)) ∧ w' = w := by
  go_enter Try.func75, Try.ntmps75
  go_wp2
  rw [run_callFunc_extern Try.func83 (by kernel_rfl) (by kernel_rfl) (by kernel_rfl) (e := Extern.BytealgIndexByte.indexByte) (by kernel_rfl), Lib.run_indexByteString]
  simp only [Result.andThen]
  rw [Oper.upon_value]
  go_wp2
  go_ret
  exact ⟨rfl, rfl⟩
set_option maxHeartbeats 2000000 in
set_option maxRecDepth 100000 in
theorem impl_isColour.sx (s : ByteArray) (c : UInt8) (w : World) :
    Calls Try.prog 69 #[.string s, .string ⟨#[c]⟩] w fun e w' => e = .returned (.int .i64 (Lib.indexByte s.data.toList c)) ∧ w' = w := by
  go_enter Try.func69, Try.ntmps69
  go_wp2_with (go_at_call 75; refine (impl_isColour.sl _ _ _).mono ?_; rintro e w' ⟨rfl, rfl⟩)
  · have h : ([c] == s.toList) = true := by assumption
    go_ret
    refine ⟨?_, rfl⟩
    have e : s.data.toList = [c] := by rw [← Lib.toList_data]; exact (beq_iff_eq.1 h).symm
    rw [e]
    simp [Lib.indexByte]
  · go_ret
    exact ⟨rfl, rfl⟩
set_option maxHeartbeats 1000000 in
theorem impl_isColour.ix (s : ByteArray) (c : UInt8) (w : World) :
    Calls Try.prog 56 #[.string s, .string ⟨#[c]⟩] w fun e w' => e = .returned (.int .i64 (Lib.indexByte s.data.toList c)) ∧ w' = w := by
  go_enter Try.func56, Try.ntmps56
  go_wp2_with (go_at_call 69; refine (impl_isColour.sx _ _ _).mono ?_; rintro e w' ⟨rfl, rfl⟩)
  go_ret
  exact ⟨rfl, rfl⟩
set_option maxHeartbeats 1000000 in
theorem impl_isColour.has (s : ByteArray) (c : UInt8) (w : World) :
    Calls Try.prog 64 #[.string s, .string ⟨#[c]⟩] w fun e w' => e = .returned (.bool (decide (0 ≤ Lib.indexByte s.data.toList c))) ∧ w' = w := by
  go_enter Try.func64, Try.ntmps64
  go_wp2_with (go_at_call 56; refine (impl_isColour.ix _ _ _).mono ?_; rintro e w' ⟨rfl, rfl⟩)
  go_ret
  exact ⟨rfl, rfl⟩
theorem impl_isColour.which_ : ∀ a, a < 16 → ∀ b, b < 16 → decide (0 ≤ Lib.indexByte [97, 98, 99, 100, 101] (UInt8.ofNat (16 * a + b))) = impl_isColour.colour ⟨#[UInt8.ofNat (16 * a + b)]⟩ := by decide +kernel
theorem impl_isColour.which (n : Nat) (h : n < 256) : decide (0 ≤ Lib.indexByte [97, 98, 99, 100, 101] (UInt8.ofNat n)) = impl_isColour.colour ⟨#[UInt8.ofNat n]⟩ := by
  have := impl_isColour.which_ (n / 16) (by omega) (n % 16) (by omega)
  rwa [show 16 * (n / 16) + n % 16 = n from by omega] at this
set_option maxHeartbeats 1000000 in
theorem impl_isColour.calls (a0 : ByteArray) (r : Bool) (w : World) (h : impl_isColour.f a0 = some r) :
    Calls Try.prog 43 #[.string a0] w fun e w' => e = .returned (.bool r) ∧ Drawn0 w w' := by
  have hr : impl_isColour.colour a0 = r := Option.some.inj h
  clear h
  by_cases hz : a0.size = 1
  · obtain ⟨⟨l⟩⟩ := a0
    have h' : l.length = 1 := hz
    match l, h' with
    | [b], _ =>
      have hw := impl_isColour.which b.toNat b.toNat_lt
      rw [UInt8.ofNat_toNat] at hw
      have hh := fun W : World => impl_isColour.has ⟨#[97, 98, 99, 100, 101]⟩ b W
      have el : (⟨#[97, 98, 99, 100, 101]⟩ : ByteArray).data.toList = [97, 98, 99, 100, 101] := rfl
      rw [el, hw] at hh
      have e2 : impl_isColour.colour ⟨#[b]⟩ = r := hr
      rw [e2] at hh
      have HH := Aside0.mk hh
      clear hr hw el e2 hh hz
      show Calls Try.prog 43 #[.string ⟨#[b]⟩] w _
      go_enter Try.func43, Try.ntmps43
      go_wp2_with (go_at_call 64; refine (HH.out _).mono ?_; rintro e w' ⟨rfl, rfl⟩)
      go_ret
      exact ⟨by first | rfl | (simp; done), by repeat (first | exact Drawn0.refl _ | apply Drawn0.step)⟩
  · have hr' : r = false := by
      rw [← hr]; unfold impl_isColour.colour; rw [decide_eq_false hz]; rfl
    subst hr'
    have e1 : ((a0.size : Int) == 1) = false := beq_eq_false_iff_ne.2 (by omega)
    clear hr hz
    go_enter Try.func43, Try.ntmps43
    go_wp2
    go_ret
    exact ⟨by first | rfl | (simp; done), Drawn0.refl _⟩


/-! ### impl_isOwned: function 33 -/
def impl_isOwned.f (k : Nat) (l0 : List ByteArray) (l1 : List ByteArray) : Option (Bool) := (impl_IsLand.f k l0).bind fun t => some (t && l1.all impl_isColour.colour)
theorem impl_isOwned.mono : ∀ a0 a1 k, LeO (impl_isOwned.f k a0 a1) (impl_isOwned.f (k + 1) a0 a1) := by
  intro a0 a1 k
  unfold impl_isOwned.f
  exact LeO.bind (impl_IsLand.mono _ _) (fun _ => LeO.refl _)
/-- What an IndexFunc hands back, as far as its sign goes. -/
def impl_isOwned.Idx {α : Type} (p : α → Bool) (xs : List α) (w : World) (e : Ending) (w' : World) : Prop := ∃ r : Int, e = .returned (.int .i64 r) ∧ Aside0 (decide (0 ≤ r) = xs.any p) ∧ Below w.heap.size w w'
theorem impl_isOwned.hit {α : Type} (p : α → Bool) (z : α) (xs : List α) (k : Nat) (hk : k < xs.length) (h : p (xs.getD k z) = true) : xs.any p = true := by
  rw [List.any_eq_true]
  exact ⟨xs[k], List.getElem_mem hk, by rw [List.getD_eq_getElem?_getD, List.getElem?_eq_getElem hk] at h; exact h⟩
theorem impl_isOwned.miss {α : Type} (p : α → Bool) (z : α) (xs : List α) (h : ∀ j, j < xs.length → p (xs.getD j z) = false) : xs.any p = false := by
  rw [List.any_eq_false]
  intro x hx
  obtain ⟨j, hj, rfl⟩ := List.getElem_of_mem hx
  have := h j hj
  rw [List.getD_eq_getElem?_getD, List.getElem?_eq_getElem hj] at this
  simpa using this
theorem impl_isOwned.mem {α : Type} (z : α) (xs : List α) (k : Nat) (hk : k < xs.length) : xs.getD k z ∈ xs := by
  rw [List.getD_eq_getElem?_getD, List.getElem?_eq_getElem hk]; exact List.getElem_mem hk
set_option maxHeartbeats 2000000 in
theorem impl_isOwned.idx (p : ByteArray → Bool) (g : Nat) (lb : Array Value) (eg : ∀ args w, (callFunc g args).run Try.prog w = .ok (.enter g args) w) (A0 : Option Addr) (c0 n0 : Nat) (l0 : List ByteArray) (w : World) (hr0 : Kd.C Kd.string w A0 n0 l0)
    (hp : ∀ (W : World) (x : ByteArray), x ∈ l0 → Below w.heap.size w W → Calls Try.prog g (#[.string x] ++ lb) W fun e w' => e = .returned (.bool (p x)) ∧ Below W.heap.size W w') :
    Calls Try.prog 68 #[.slice A0 n0 c0, .func (.func g) #[] lb] w (impl_isOwned.Idx p l0 w) := by
  obtain rfl : l0.length = n0 := Kd.C_len hr0
  have HR := Aside0.mk hr0
  have HP := Aside0.mk hp
  have hmax := Kd.C_max hr0
  clear hr0 hp
  have HB := Aside0.mk (Below.refl w.heap.size w)
  go_enter Try.func68, Try.ntmps68
  go_wp2
  go_loopg [5, 8] l0.length (fun gg _ s8 wr => ∃ kk : Nat, kk ≤ l0.length ∧ l0.length - kk ≤ gg ∧ s8 = .int .i64 kk ∧ Aside0 (Below w.heap.size w wr) ∧ Aside0 (∀ j, j < kk → p (l0.getD j ByteArray.empty) = false))
  case atStart => exact ⟨0, Nat.zero_le _, by omega, rfl, HB, ⟨fun j hj => absurd hj (Nat.not_lt_zero _)⟩⟩
  case round =>
    clear HB
    obtain ⟨kk, hkk, hg, rfl, HB, HA⟩ := hrel
    by_cases hlt : kk < l0.length
    · have hltz : (kk : Int) < (l0.length : Int) := by omega
      obtain ⟨ad, e0, hcell⟩ := Kd.at_string (Kd.C_below HR.out HB.out) (kk : Int) (by omega) hltz
      cases e0
      rw [Int.toNat_natCast] at hcell
      have hrd : rdOf ByteArray.empty l0 (kk : Int) = l0.getD kk ByteArray.empty := by unfold rdOf; rw [Int.toNat_natCast]
      have hcall := HP.out _ (rdOf ByteArray.empty l0 (kk : Int)) (by rw [hrd]; exact impl_isOwned.mem ByteArray.empty l0 kk hlt) HB.out
      generalize rdOf ByteArray.empty l0 (kk : Int) = y at hcell hcall hrd
      have HY := Aside0.mk hrd
      clear hrd
      cases hq : p y with
      | true =>
        rw [hq] at hcall
        have HQ := Aside0.mk hq
        have HC := Aside0.mk hcall
        clear hq hcall
        go_wp2_with (go_at_fn g; refine (HC.out).mono ?_; rintro e w' ⟨rfl, hb⟩; have HB' := Aside0.mk hb; clear hb)
        go_ret
        exact ⟨kk, rfl, ⟨by rw [impl_isOwned.hit p ByteArray.empty l0 kk hlt (by rw [← HY.out]; exact HQ.out)]; simp⟩, below_step HB.out HB'.out⟩
      | false =>
        rw [hq] at hcall
        have HQ := Aside0.mk hq
        have HC := Aside0.mk hcall
        clear hq hcall
        go_wp2_with (go_at_fn g; refine (HC.out).mono ?_; rintro e w' ⟨rfl, hb⟩; have HB' := Aside0.mk hb; clear hb)
        go_roundg (l0.length - (kk + 1))
        case measure => omega
        case rel =>
          refine ⟨kk + 1, by omega, by omega, by go_num, ⟨below_step HB.out HB'.out⟩, ⟨fun j hj => ?_⟩⟩
          by_cases e : j = kk
          · subst e
            rw [← HY.out]; exact HQ.out
          · exact HA.out j (by omega)
    · have hltz : ¬ (kk : Int) < (l0.length : Int) := by omega
      obtain rfl : kk = l0.length := by omega
      go_wp2
      go_ret
      exact ⟨-1, rfl, ⟨by rw [impl_isOwned.miss p ByteArray.empty l0 HA.out]; simp⟩, HB.out⟩
set_option maxHeartbeats 2000000 in
theorem impl_isOwned.has (p : ByteArray → Bool) (g : Nat) (lb : Array Value) (eg : ∀ args w, (callFunc g args).run Try.prog w = .ok (.enter g args) w) (A0 : Option Addr) (c0 n0 : Nat) (l0 : List ByteArray) (w : World) (hr0 : Kd.C Kd.string w A0 n0 l0)
    (hp : ∀ (W : World) (x : ByteArray), x ∈ l0 → Below w.heap.size w W → Calls Try.prog g (#[.string x] ++ lb) W fun e w' => e = .returned (.bool (p x)) ∧ Below W.heap.size W w') :
    Calls Try.prog 52 #[.slice A0 n0 c0, .func (.func g) #[] lb] w fun e w' => e = .returned (.bool (l0.any p)) ∧ Below w.heap.size w w' := by
  have H := Aside0.mk (impl_isOwned.idx p g lb eg A0 c0 n0 l0 w hr0 hp)
  clear hr0 hp
  go_enter Try.func52, Try.ntmps52
  go_wp2_with (go_at_call 68; refine (H.out).mono ?_; rintro e w' ⟨r, rfl, hr, hb⟩; have HB := Aside0.mk hb; clear hb)
  go_ret
  exact ⟨by rw [← hr.out]; rfl, HB.out⟩
set_option maxHeartbeats 2000000 in
theorem impl_isOwned.one (s : ByteArray) (W : World) :
    Calls Try.prog 53 #[.string s] W fun e w' => e = .returned (.bool (!(impl_isColour.colour s))) ∧ Below W.heap.size W w' := by
  have hin : impl_isColour.f s = some (impl_isColour.colour s) := (show impl_isColour.f s = some (impl_isColour.colour s) from rfl)
  generalize impl_isColour.colour s = t at hin ⊢
  have HIN := Aside0.mk hin
  clear hin
  go_enter Try.func53, Try.ntmps53
  go_wp2_with (go_at_call 43; refine (impl_isColour.calls s t _ HIN.out).mono ?_; rintro e w' ⟨rfl, hd⟩; have HD := Aside0.mk hd; clear hd)
  go_ret
  exact ⟨rfl, by first | exact HD.out | exact HD.out.below⟩
set_option maxHeartbeats 2000000 in
theorem impl_isOwned.calls (k : Nat) (A0 : Option Addr) (c0 : Nat) (l0 : List ByteArray) (A1 : Option Addr) (c1 : Nat) (l1 : List ByteArray) (r : Bool) (w : World) (hr0 : Kd.C Kd.string w A0 l0.length l0) (hc0 : l0.length ≤ c0) (hr1 : Kd.C Kd.string w A1 l1.length l1) (hc1 : l1.length ≤ c1) (h : impl_isOwned.f k l0 l1 = some r) :
    Calls Try.prog 33 #[.slice A0 l0.length c0, .slice A1 l1.length c1] w fun e w' => e = .returned (.bool r) ∧ Below w.heap.size w w' := by
  unfold impl_isOwned.f at h
  obtain ⟨t, ht, h⟩ := Option.bind_eq_some_iff.mp h
  have hr : r = (t && !(l1.any fun x => !(impl_isColour.colour x))) := by
    rw [← Option.some.inj h, List.all_eq_not_any_not]
  clear h
  have HT := Aside0.mk ht
  have HR0 := Aside0.mk hr0
  have HC0 := Aside0.mk hc0
  have HR1 := Aside0.mk hr1
  clear ht hr0 hc0 hr1 hc1
  have eg : ∀ args w, (callFunc 53 args).run Try.prog w = .ok (.enter 53 args) w := enters_of Try.func53 (by kernel_rfl) rfl
  have hcon := fun (W : World) (hb : Below w.heap.size w W) => impl_isOwned.has (fun x => !(impl_isColour.colour x)) 53 #[] eg A1 c1 l1.length l1 W (Kd.C_below HR1.out hb) (fun W' x hx _ => impl_isOwned.one x W')
  generalize (l1.any fun x => !(impl_isColour.colour x)) = q at hcon hr
  have HC := Aside0.mk hcon
  clear hcon eg
  cases t with
  | true =>
    simp only [Bool.true_and] at hr
    subst hr
    go_enter Try.func33, Try.ntmps33
    go_wp2_with (first | (go_at_call 38; refine (impl_IsLand.calls k A0 c0 l0 true _ HR0.out HC0.out HT.out).mono ?_; rintro e w' ⟨rfl, hb⟩; have HB := Aside0.mk hb; clear hb) | (go_at_call 52; refine (HC.out _ HB.out).mono ?_; rintro e w' ⟨rfl, hb⟩; have HB' := Aside0.mk hb; clear hb))
    go_ret
    exact ⟨by first | rfl | (simp; done), below_step HB.out HB'.out⟩
  | false =>
    simp only [Bool.false_and] at hr
    subst hr
    go_enter Try.func33, Try.ntmps33
    go_wp2_with (go_at_call 38; refine (impl_IsLand.calls k A0 c0 l0 false _ HR0.out HC0.out HT.out).mono ?_; rintro e w' ⟨rfl, hb⟩; have HB := Aside0.mk hb; clear hb)
    go_ret
    exact ⟨by first | rfl | (simp; done), HB.out⟩


end Go.Proofs.Ytihjikmpbbjbfaa.V
