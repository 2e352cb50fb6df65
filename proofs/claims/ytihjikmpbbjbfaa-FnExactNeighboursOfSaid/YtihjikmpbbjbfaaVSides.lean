/- Fences of land, told in two ways: over the sides of all squares, and over the edges of the whole; plain lemmas, no condition beside those named. -/
import Derived.Test.YtihjikmpbbjbfaaV3
import Derived.Test.YtihjikmpbbjbfaaV7
import Derived.Test.YtihjikmpbbjbfaaVLand
namespace Go.Proofs.Ytihjikmpbbjbfaa.Sides
open Go.RowKit Go.Proofs.Ytihjikmpbbjbfaa.V Go.Proofs.YtihjikmpbbjbfaaW.PrintWords Go.Proofs.YtihjikmpbbjbfaaW.PrintLast Go.Proofs.Ytihjikmpbbjbfaa.LawStr Go.Proofs.Ytihjikmpbbjbfaa.Land
set_option linter.unusedVariables false
set_option linter.unusedSimpArgs false

/-! sums -/
def sm (f : Int → Int) : Nat → Int → Int
  | 0, _ => 0
  | n + 1, lo => f lo + sm f n (lo + 1)
theorem sm_add (f g : Int → Int) : ∀ n lo, sm (fun x => f x + g x) n lo = sm f n lo + sm g n lo := by
  intro n
  induction n with
  | zero => intro lo; rfl
  | succ n ih => intro lo; simp only [sm]; rw [ih]; omega
theorem sm_mul (c : Int) (f : Int → Int) : ∀ n lo, sm (fun x => c * f x) n lo = c * sm f n lo := by
  intro n
  induction n with
  | zero => intro lo; simp [sm]
  | succ n ih => intro lo; simp only [sm]; rw [ih, Int.mul_add]
theorem sm_shift (f : Int → Int) : ∀ n lo, sm (fun x => f (x + 1)) n lo = sm f n (lo + 1) := by
  intro n
  induction n with
  | zero => intro lo; rfl
  | succ n ih => intro lo; simp only [sm]; rw [ih]
theorem sm_last (f : Int → Int) : ∀ n lo, sm f (n + 1) lo = sm f n lo + f (lo + n) := by
  intro n
  induction n with
  | zero => intro lo; simp [sm]
  | succ n ih =>
    intro lo
    rw [show sm f (n + 1 + 1) lo = f lo + sm f (n + 1) (lo + 1) from rfl, ih, show sm f (n + 1) lo = f lo + sm f n (lo + 1) from rfl, show lo + 1 + (n : Int) = lo + ((n + 1 : Nat) : Int) from by omega]
    omega
theorem sm_congr (f g : Int → Int) : ∀ (n : Nat) (lo : Int), (∀ x, lo ≤ x → x < lo + (n : Int) → f x = g x) → sm f n lo = sm g n lo := by
  intro n
  induction n with
  | zero => intro lo _; rfl
  | succ n ih =>
    intro lo h
    simp only [sm]
    rw [h lo (Int.le_refl _) (by omega), ih (lo + 1) (fun x h1 h2 => h x (by omega) (by omega))]
theorem sm_zero (f : Int → Int) (n : Nat) (lo : Int) (h : ∀ x, lo ≤ x → x < lo + (n : Int) → f x = 0) : sm f n lo = 0 := by
  rw [sm_congr f (fun _ => 0) n lo h]
  clear h
  induction n generalizing lo with
  | zero => rfl
  | succ n ih => simp only [sm]; rw [ih]; rfl

/-! the land as a plane: 32 outside -/
def A (l : List ByteArray) (x y : Int) : Int := if (0 ≤ y ∧ y < (l.length : Int)) ∧ 0 ≤ x ∧ x < ((row l 0).size : Int) then bt (row l y.toNat) x else 32
def S (v : Int) : Int := if v = 32 then 46 else v
def Val (v : Int) : Prop := v = 32 ∨ v = 46 ∨ 97 ≤ v ∧ v ≤ 101
theorem A_in (l : List ByteArray) (ok : OK l) (x y : Int) (hy : 0 ≤ y ∧ y < (l.length : Int)) (hx : 0 ≤ x ∧ x < ((row l 0).size : Int)) : Sq (A l x y) ∧ A l x y ≠ 32 := by
  unfold A
  rw [if_pos ⟨hy, hx⟩]
  obtain ⟨j, rfl⟩ : ∃ j : Nat, (j : Int) = y := ⟨y.toNat, by omega⟩
  obtain ⟨c, rfl⟩ : ∃ c : Nat, (c : Int) = x := ⟨x.toNat, by omega⟩
  rw [Int.toNat_natCast]
  have h := ok.2 j (by omega)
  have := h.2.2 c (by omega)
  refine ⟨this, ?_⟩
  unfold Sq at this
  omega
theorem A_out (l : List ByteArray) (x y : Int) (h : ¬ ((0 ≤ y ∧ y < (l.length : Int)) ∧ 0 ≤ x ∧ x < ((row l 0).size : Int))) : A l x y = 32 := by
  unfold A; rw [if_neg h]
theorem A_val (l : List ByteArray) (ok : OK l) (x y : Int) : Val (A l x y) := by
  by_cases h : (0 ≤ y ∧ y < (l.length : Int)) ∧ 0 ≤ x ∧ x < ((row l 0).size : Int)
  · have := (A_in l ok x y h.1 h.2).1
    unfold Sq at this
    unfold Val
    omega
  · exact .inl (A_out l x y h)
theorem row0 (l : List ByteArray) : rdOf ByteArray.empty l 0 = row l 0 := rfl
theorem at_impl (l : List ByteArray) (ok : OK l) (x y : Int) : impl_at.f l x y = some (A l x y) := by
  have h1 := ok.1
  have h2 := (ok.2 0 (by omega)).2.1
  unfold impl_at.f A
  rw [row0, within_some, within_some, wid (x := ((row l 0).size : Int) - 1) (by omega) (by omega), wid (x := (l.length : Int) - 1) (by omega) (by omega), Option.bind_some]
  by_cases c1 : 0 ≤ y ∧ y ≤ (l.length : Int) - 1
  · rw [decide_eq_true c1, if_pos rfl, if_pos (by omega), Option.bind_some]
    by_cases c2 : 0 ≤ x ∧ x ≤ ((row l 0).size : Int) - 1
    · have hs : (rdOf ByteArray.empty l y).size = (row l 0).size := by
        have := (ok.2 y.toNat (by omega)).1
        unfold row at this ⊢
        rw [Int.toNat_of_nonneg c1.1] at this
        exact this
      have hr : rdOf ByteArray.empty l y = row l y.toNat := by unfold row; rw [Int.toNat_of_nonneg c1.1]
      rw [decide_eq_true c2, if_pos rfl, if_pos (by omega), if_pos (by omega), if_pos (by omega), if_pos (by omega), if_pos (by omega), hr]
    · rw [decide_eq_false c2, if_neg (by simp), if_neg (by omega)]
  · rw [decide_eq_false c1, if_neg (by simp), if_neg (by omega)]
theorem at_spec (l : List ByteArray) (ok : OK l) (x y : Int) : spec_fiAt.f l x y = some (S (A l x y)) := by
  have h1 := ok.1
  have h2 := (ok.2 0 (by omega)).2.1
  unfold spec_fiAt.f
  rw [row0]
  by_cases c : (0 ≤ y ∧ y < (l.length : Int)) ∧ 0 ≤ x ∧ x < ((row l 0).size : Int)
  · have hn := (A_in l ok x y c.1 c.2).2
    have hs : (rdOf ByteArray.empty l y).size = (row l 0).size := by
      have := (ok.2 y.toNat (by omega)).1
      unfold row at this ⊢
      rw [Int.toNat_of_nonneg c.1.1] at this
      exact this
    have hr : rdOf ByteArray.empty l y = row l y.toNat := by unfold row; rw [Int.toNat_of_nonneg c.1.1]
    unfold S
    rw [if_neg hn]
    unfold A
    rw [if_pos c, if_neg (by omega), if_neg (by omega), if_neg (by omega), if_pos (by omega), if_neg (by omega), if_pos (by omega), if_pos (by omega), if_pos (by omega), if_pos (by omega), hr]
  · rw [A_out l x y c, show S 32 = 46 from rfl]
    by_cases d1 : y < 0
    · rw [if_pos d1]
    · rw [if_neg d1]
      by_cases d2 : y ≥ (l.length : Int)
      · rw [if_pos d2]
      · rw [if_neg d2]
        by_cases d3 : x < 0
        · rw [if_pos d3]
        · rw [if_neg d3, if_pos (by omega), if_pos (by omega)]

/-! the reference's count -/
def crit (a b o t : Int) : Int := if o = t then 0 else (if a = 0 then 1 else (if o = a then (if b = 0 then 1 else (if t = b then 1 else (if t = a then (if o = b then 1 else 0) else 0))) else (if t = a then (if b = 0 then 1 else (if o = b then 1 else 0)) else 0)))
theorem crit_01 (a b o t : Int) : 0 ≤ crit a b o t ∧ crit a b o t ≤ 1 := by
  unfold crit
  repeat' split
  all_goals omega
theorem l2_step (l : List ByteArray) (a b n y x o : Int) (os : List Int) (N i : Int) (h1 : i < N) (h2 : 0 ≤ i) (h3 : i < (os.length : Int)) (hn : 0 ≤ n ∧ n ≤ 1000000) (k : Nat) :
    spec_fiFences.l2 (k + 1) l a b n y x o os N i = spec_fiFences.l2 k l a b (n + crit a b o (rd os i)) y x o os N (wrap64 (i + 1)) := by
  simp only [spec_fiFences.l2]
  rw [if_pos h1, if_pos h2, if_pos h3, wid (x := n + 1) (by omega) (by omega)]
  unfold crit
  repeat' split
  all_goals first | rfl | rw [Int.add_zero]
theorem l2_all (l : List ByteArray) (a b n y x o t1 t2 : Int) (hn : 0 ≤ n ∧ n ≤ 900000) (hx : -1 ≤ x ∧ x ≤ 100) (k : Nat) :
    spec_fiFences.l2 (k + 3) l a b n y x o [t1, t2] 2 0 = spec_fiFences.l1 k l a b (n + (crit a b o t1 + crit a b o t2)) y (x + 1) := by
  have c1 := crit_01 a b o t1
  have c2 := crit_01 a b o t2
  have e1 : rd [t1, t2] 0 = t1 := rfl
  have e2 : rd [t1, t2] 1 = t2 := rfl
  rw [l2_step l a b n y x o _ 2 0 (by omega) (by omega) (by simp) (by omega), e1, wid (x := 0 + 1) (by omega) (by omega), show (0 : Int) + 1 = 1 from rfl,
    l2_step l a b _ y x o _ 2 1 (by omega) (by omega) (by simp) (by omega), e2, wid (x := 1 + 1) (by omega) (by omega)]
  simp only [spec_fiFences.l2]
  rw [if_neg (by omega), wid (x := x + 1) (by omega) (by omega), Int.add_assoc]

def cell (l : List ByteArray) (a b x y : Int) : Int := crit a b (S (A l x y)) (S (A l (x + 1) y)) + crit a b (S (A l x y)) (S (A l x (y + 1)))
theorem cell_01 (l : List ByteArray) (a b x y : Int) : 0 ≤ cell l a b x y ∧ cell l a b x y ≤ 2 := by
  have c1 := crit_01 a b (S (A l x y)) (S (A l (x + 1) y))
  have c2 := crit_01 a b (S (A l x y)) (S (A l x (y + 1)))
  unfold cell
  omega
theorem l1_all (l : List ByteArray) (ok : OK l) (a b y : Int) (hy : -1 ≤ y ∧ y ≤ 100) : ∀ (d : Nat) (x n : Int), x + d = ((row l 0).size : Int) → -1 ≤ x → 0 ≤ n → n + 2 * d ≤ 800000 → ∀ k,
    spec_fiFences.l1 (k + 4 * d + 1) l a b n y x = spec_fiFences.l0 k l a b (n + sm (fun x => cell l a b x y) d x) (y + 1) := by
  have h1 := ok.1
  have h2 := (ok.2 0 (by omega)).2.1
  intro d
  induction d with
  | zero =>
    intro x n e1 e2 e3 e4 k
    simp only [spec_fiFences.l1, sm]
    rw [row0, if_pos (by omega), if_neg (by omega), wid (x := y + 1) (by omega) (by omega), Int.add_zero]
  | succ d ih =>
    intro x n e1 e2 e3 e4 k
    have c := cell_01 l a b x y
    obtain ⟨M, hM⟩ : ∃ M, M = k + 4 * d + 1 := ⟨_, rfl⟩
    rw [show k + 4 * (d + 1) + 1 = (M + 3) + 1 from by omega]
    rw [spec_fiFences.l1]
    rw [row0, if_pos (by omega), if_pos (by omega), at_spec l ok, Option.bind_some, wid (x := x + 1) (by omega) (by omega), at_spec l ok, Option.bind_some, wid (x := y + 1) (by omega) (by omega), at_spec l ok, Option.bind_some, Option.bind_some]
    have q := l2_all l a b n y x (S (A l x y)) (S (A l (x + 1) y)) (S (A l x (y + 1))) (by omega) (by omega) M
    have e5 : (([S (A l (x + 1) y), S (A l x (y + 1))] : List Int).length : Int) = 2 := rfl
    rw [e5, q, hM]
    have := ih (x + 1) (n + cell l a b x y) (by omega) (by omega) (by omega) (by omega) k
    unfold cell at this
    rw [this]
    simp only [sm]
    congr 1
    unfold cell
    omega

def line (l : List ByteArray) (a b y : Int) : Int := sm (fun x => cell l a b x y) ((row l 0).size + 1) (-1)
theorem sm_bound (f : Int → Int) (hf : ∀ x, 0 ≤ f x ∧ f x ≤ 2) : ∀ n lo, 0 ≤ sm f n lo ∧ sm f n lo ≤ 2 * n := by
  intro n
  induction n with
  | zero => intro lo; simp [sm]
  | succ n ih =>
    intro lo
    have h1 := ih (lo + 1)
    have h2 := hf lo
    simp only [sm]
    omega
theorem line_b (l : List ByteArray) (ok : OK l) (a b y : Int) : 0 ≤ line l a b y ∧ line l a b y ≤ 26 := by
  have h1 := ok.1
  have h2 := (ok.2 0 (by omega)).2.1
  have := sm_bound (fun x => cell l a b x y) (fun x => cell_01 l a b x y) ((row l 0).size + 1) (-1)
  unfold line
  omega
theorem l0_all (l : List ByteArray) (ok : OK l) (a b : Int) : ∀ (d : Nat) (y n : Int), y + d = (l.length : Int) → -1 ≤ y → 0 ≤ n → n + 26 * d ≤ 700000 → ∀ k,
    spec_fiFences.l0 (k + 100 * d + 1) l a b n y = some (n + sm (line l a b) d y) := by
  have h1 := ok.1
  have h2 := (ok.2 0 (by omega)).2.1
  intro d
  induction d with
  | zero =>
    intro y n e1 e2 e3 e4 k
    simp only [spec_fiFences.l0, sm]
    rw [if_neg (by omega), Int.add_zero]
  | succ d ih =>
    intro y n e1 e2 e3 e4 k
    have hb := line_b l ok a b y
    obtain ⟨M, hM⟩ : ∃ M, M = (k + 100 - (4 * ((row l 0).size + 1) + 2)) + 100 * d + 1 := ⟨_, rfl⟩
    rw [show k + 100 * (d + 1) + 1 = (M + 4 * ((row l 0).size + 1) + 1) + 1 from by omega]
    rw [spec_fiFences.l0]
    rw [if_pos (by omega)]
    have q := l1_all l ok a b y (by omega) ((row l 0).size + 1) (-1) n (by omega) (by omega) e3 (by omega) M
    rw [q]
    have := ih (y + 1) (n + line l a b y) (by omega) (by omega) (by omega) (by omega) (k + 100 - (4 * ((row l 0).size + 1) + 2))
    rw [← hM] at this
    unfold line at this ⊢
    rw [this]
    simp only [sm]
    congr 1
    omega
/-- The reference's whole count. -/
def F (l : List ByteArray) (a b : Int) : Int := sm (line l a b) (l.length + 1) (-1)
theorem F_b (l : List ByteArray) (ok : OK l) (a b : Int) : 0 ≤ F l a b ∧ F l a b ≤ 400 := by
  have h1 := ok.1
  unfold F
  have : ∀ n lo, 0 ≤ sm (line l a b) n lo ∧ sm (line l a b) n lo ≤ 26 * n := by
    intro n
    induction n with
    | zero => intro lo; simp [sm]
    | succ n ih =>
      intro lo
      have h1 := ih (lo + 1)
      have h2 := line_b l ok a b lo
      simp only [sm]
      omega
  have := this (l.length + 1) (-1)
  omega
theorem fences (l : List ByteArray) (ok : OK l) (a b : Int) (k : Nat) (hk : 2000 < k) : spec_fiFences.f k l a b = some (F l a b) := by
  have h1 := ok.1
  unfold spec_fiFences.f
  have := l0_all l ok a b (l.length + 1) (-1) 0 (by omega) (by omega) (by omega) (by omega) (k - 100 * (l.length + 1) - 1)
  rw [show k - 100 * (l.length + 1) - 1 + 100 * (l.length + 1) + 1 = k from by omega, Int.zero_add] at this
  exact this

/-! the identity -/
def T (l : List ByteArray) (D : Int → Int → Int) : Int := sm (fun y => sm (fun x => D (A l x y) (A l x (y - 1)) + D (A l x y) (A l (x + 1) y) + D (A l x y) (A l x (y + 1)) + D (A l x y) (A l (x - 1) y)) (row l 0).size 0) l.length 0
theorem T_congr (l : List ByteArray) (ok : OK l) (D D' : Int → Int → Int) (h : ∀ o t, o ≠ 32 → D o t = D' o t) : T l D = T l D' := by
  unfold T
  apply sm_congr
  intro y y1 y2
  apply sm_congr
  intro x x1 x2
  have := (A_in l ok x y (by omega) (by omega)).2
  rw [h _ _ this, h _ _ this, h _ _ this, h _ _ this]
theorem T_add (l : List ByteArray) (D D' : Int → Int → Int) : T l (fun o t => D o t + 2 * D' o t) = T l D + 2 * T l D' := by
  unfold T
  rw [← sm_mul, ← sm_add]
  congr 1
  funext y
  rw [← sm_mul, ← sm_add]
  congr 1
  funext x
  dsimp only
  omega
theorem both (l : List ByteArray) (ok : OK l) (a b m : Int) (D : Int → Int → Int) (hD : ∀ o t, Val o → Val t → m * crit a b (S o) (S t) = D o t + D t o) (h0 : ∀ t, D 32 t = 0) : m * F l a b = T l D := by
  have hv := A_val l ok
  unfold F
  rw [← sm_mul]
  -- a line, twice told
  have e1 : ∀ y, m * line l a b y = sm (fun x => D (A l x y) (A l (x + 1) y)) ((row l 0).size + 1) (-1) + sm (fun x => D (A l (x + 1) y) (A l x y)) ((row l 0).size + 1) (-1) + (sm (fun x => D (A l x y) (A l x (y + 1))) ((row l 0).size + 1) (-1) + sm (fun x => D (A l x (y + 1)) (A l x y)) ((row l 0).size + 1) (-1)) := by
    intro y
    unfold line
    rw [← sm_mul, ← sm_add, ← sm_add, ← sm_add]
    congr 1
    funext x
    unfold cell
    rw [Int.mul_add, hD _ _ (hv x y) (hv (x + 1) y), hD _ _ (hv x y) (hv x (y + 1))]
  have e2 : ∀ y, sm (fun x => D (A l x y) (A l (x + 1) y)) ((row l 0).size + 1) (-1) = sm (fun x => D (A l x y) (A l (x + 1) y)) (row l 0).size 0 := by
    intro y
    simp only [sm]
    rw [A_out l (-1) y (by omega), h0, Int.zero_add]
    rfl
  have e3 : ∀ y, sm (fun x => D (A l (x + 1) y) (A l x y)) ((row l 0).size + 1) (-1) = sm (fun x => D (A l x y) (A l (x - 1) y)) (row l 0).size 0 := by
    intro y
    have : (fun x => D (A l (x + 1) y) (A l x y)) = (fun x => (fun z => D (A l z y) (A l (z - 1) y)) (x + 1)) := by
      funext x
      show _ = D (A l (x + 1) y) (A l (x + 1 - 1) y)
      rw [Int.add_sub_cancel]
    rw [this, sm_shift (fun z => D (A l z y) (A l (z - 1) y)), sm_last, show (-1 : Int) + 1 = 0 from rfl]
    rw [A_out l (0 + ((row l 0).size : Int)) y (by omega), h0, Int.add_zero]
  have e4 : ∀ y, sm (fun x => D (A l x y) (A l x (y + 1))) ((row l 0).size + 1) (-1) = sm (fun x => D (A l x y) (A l x (y + 1))) (row l 0).size 0 := by
    intro y
    simp only [sm]
    rw [A_out l (-1) y (by omega), h0, Int.zero_add]
    rfl
  have e5 : ∀ y, sm (fun x => D (A l x (y + 1)) (A l x y)) ((row l 0).size + 1) (-1) = sm (fun x => D (A l x (y + 1)) (A l x y)) (row l 0).size 0 := by
    intro y
    simp only [sm]
    rw [A_out l (-1) (y + 1) (by omega), h0, Int.zero_add]
    rfl
  have e6 : (fun y => m * line l a b y) = fun y => ((sm (fun x => D (A l x y) (A l (x + 1) y)) (row l 0).size 0 + sm (fun x => D (A l x y) (A l (x - 1) y)) (row l 0).size 0) + sm (fun x => D (A l x y) (A l x (y + 1))) (row l 0).size 0) + (fun z => sm (fun x => D (A l x z) (A l x (z - 1))) (row l 0).size 0) (y + 1) := by
    funext y
    rw [e1, e2, e3, e4, e5]
    show _ = _ + sm (fun x => D (A l x (y + 1)) (A l x (y + 1 - 1))) (row l 0).size 0
    rw [Int.add_sub_cancel]
    omega
  rw [e6, sm_add, sm_shift (fun z => sm (fun x => D (A l x z) (A l x (z - 1))) (row l 0).size 0), show (-1 : Int) + 1 = 0 from rfl, sm_last (fun z => sm (fun x => D (A l x z) (A l x (z - 1))) (row l 0).size 0) l.length 0]
  have z1 : sm (fun x => D (A l x (0 + (l.length : Int))) (A l x (0 + (l.length : Int) - 1))) (row l 0).size 0 = 0 := by
    apply sm_zero
    intro x _ _
    rw [A_out l x (0 + (l.length : Int)) (by omega), h0]
  have z2 : sm (fun x => D (A l x (-1)) (A l (x + 1) (-1))) (row l 0).size 0 = 0 := by
    apply sm_zero
    intro x _ _
    rw [A_out l x (-1) (by omega), h0]
  have z3 : sm (fun x => D (A l x (-1)) (A l (x - 1) (-1))) (row l 0).size 0 = 0 := by
    apply sm_zero
    intro x _ _
    rw [A_out l x (-1) (by omega), h0]
  have z4 : sm (fun x => D (A l x (-1)) (A l x (-1 + 1))) (row l 0).size 0 = 0 := by
    apply sm_zero
    intro x _ _
    rw [A_out l x (-1) (by omega), h0]
  rw [z1, Int.add_zero, show sm (fun y => sm (fun x => D (A l x y) (A l (x + 1) y)) (row l 0).size 0 + sm (fun x => D (A l x y) (A l (x - 1) y)) (row l 0).size 0 + sm (fun x => D (A l x y) (A l x (y + 1))) (row l 0).size 0) (l.length + 1) (-1) = (sm (fun x => D (A l x (-1)) (A l (x + 1) (-1))) (row l 0).size 0 + sm (fun x => D (A l x (-1)) (A l (x - 1) (-1))) (row l 0).size 0 + sm (fun x => D (A l x (-1)) (A l x (-1 + 1))) (row l 0).size 0) + sm (fun y => sm (fun x => D (A l x y) (A l (x + 1) y)) (row l 0).size 0 + sm (fun x => D (A l x y) (A l (x - 1) y)) (row l 0).size 0 + sm (fun x => D (A l x y) (A l x (y + 1))) (row l 0).size 0) l.length (-1 + 1) from rfl, z2, z3, z4, show (-1 : Int) + 1 = 0 from rfl]
  simp only [Int.zero_add, Int.add_zero]
  rw [← sm_add]
  unfold T
  congr 1
  funext y
  rw [← sm_add, ← sm_add, ← sm_add]
  congr 1
  funext x
  omega

/-! the program's count -/
def isI (c o t : Int) : Int := if impl_FenceAround_1.is c o t = true then 1 else 0
theorem isI_01 (c o t : Int) : 0 ≤ isI c o t ∧ isI c o t ≤ 1 := by unfold isI; split <;> omega
theorem get49 (L : List S49) (i : Nat) (h : i < L.length) : rd_T49 L (i : Int) = L[i] := by
  unfold rd_T49; rw [Int.toNat_natCast, List.getD_eq_getElem?_getD, List.getElem?_eq_getElem h]; rfl
theorem s_step (l : List ByteArray) (ok : OK l) (c n : Int) (L : List S49) (N i : Int) (Q : List S49) (M : Int) (j : Nat) (px py : Int) (h1 : (j : Int) < M) (h3 : j < Q.length) (hn : 0 ≤ n ∧ n ≤ 1000000) (hM : M ≤ 100) (k : Nat) :
    impl_sides.l1 (k + 1) l c n L N i Q M (j : Int) px py = impl_sides.l1 k l c (n + isI c (A l px py) (A l Q[j].f0 Q[j].f1)) L N i Q M ((j : Int) + 1) px py := by
  simp only [impl_sides.l1]
  rw [if_pos h1, if_pos (by omega), if_pos (by omega), at_impl l ok, Option.bind_some, get49 Q j h3, at_impl l ok, Option.bind_some]
  unfold impl_FenceAround_1.f isI
  rw [Option.bind_some, wid (x := n + 1) (by omega) (by omega), wid (x := (j : Int) + 1) (by omega) (by omega)]
  split
  · rfl
  · rw [Int.add_zero]
def four (l : List ByteArray) (D : Int → Int → Int) (x y : Int) : Int := D (A l x y) (A l x (y - 1)) + D (A l x y) (A l (x + 1) y) + D (A l x y) (A l x (y + 1)) + D (A l x y) (A l (x - 1) y)
theorem s_l1 (l : List ByteArray) (ok : OK l) (c n : Int) (L : List S49) (N i : Int) (px py : Int) (hn : 0 ≤ n ∧ n ≤ 900000) (hp : -1000 ≤ px ∧ px ≤ 1000 ∧ -1000 ≤ py ∧ py ≤ 1000) (hi : 0 ≤ i ∧ i ≤ 1000) (k : Nat) :
    ((impl_beside4.f px py).bind fun t => impl_sides.l1 (k + 5) l c n L N i t (t.length : Int) 0 px py) = impl_sides.l0 k l c (n + four l (isI c) px py) L N (i + 1) := by
  unfold impl_beside4.f
  rw [Option.bind_some, wid (x := py - 1) (by omega) (by omega), wid (x := px + 1) (by omega) (by omega), wid (x := py + 1) (by omega) (by omega), wid (x := px - 1) (by omega) (by omega)]
  have q1 := isI_01 c (A l px py) (A l px (py - 1))
  have q2 := isI_01 c (A l px py) (A l (px + 1) py)
  have q3 := isI_01 c (A l px py) (A l px (py + 1))
  have q4 := isI_01 c (A l px py) (A l (px - 1) py)
  have e : (([(⟨px, py - 1⟩ : S49), ⟨px + 1, py⟩, ⟨px, py + 1⟩, ⟨px - 1, py⟩] : List S49).length : Int) = 4 := rfl
  rw [e]
  have r1 := s_step l ok c n L N i [⟨px, py - 1⟩, ⟨px + 1, py⟩, ⟨px, py + 1⟩, ⟨px - 1, py⟩] 4 0 px py (by omega) (by simp) (by omega) (by omega) (k + 4)
  have r2 := s_step l ok c (n + isI c (A l px py) (A l px (py - 1))) L N i [⟨px, py - 1⟩, ⟨px + 1, py⟩, ⟨px, py + 1⟩, ⟨px - 1, py⟩] 4 1 px py (by omega) (by simp) (by omega) (by omega) (k + 3)
  have r3 := s_step l ok c (n + isI c (A l px py) (A l px (py - 1)) + isI c (A l px py) (A l (px + 1) py)) L N i [⟨px, py - 1⟩, ⟨px + 1, py⟩, ⟨px, py + 1⟩, ⟨px - 1, py⟩] 4 2 px py (by omega) (by simp) (by omega) (by omega) (k + 2)
  have r4 := s_step l ok c (n + isI c (A l px py) (A l px (py - 1)) + isI c (A l px py) (A l (px + 1) py) + isI c (A l px py) (A l px (py + 1))) L N i [⟨px, py - 1⟩, ⟨px + 1, py⟩, ⟨px, py + 1⟩, ⟨px - 1, py⟩] 4 3 px py (by omega) (by simp) (by omega) (by omega) (k + 1)
  refine Eq.trans r1 (Eq.trans r2 (Eq.trans r3 (Eq.trans r4 ?_)))
  rw [show ((3 : Nat) : Int) + 1 = 4 from rfl]
  simp only [impl_sides.l1]
  rw [if_neg (by omega), wid (x := i + 1) (by omega) (by omega)]
  congr 1
  unfold four
  show n + isI c (A l px py) (A l px (py - 1)) + isI c (A l px py) (A l (px + 1) py) + isI c (A l px py) (A l px (py + 1)) + isI c (A l px py) (A l (px - 1) py) = _
  omega
theorem four_b (l : List ByteArray) (c x y : Int) : 0 ≤ four l (isI c) x y ∧ four l (isI c) x y ≤ 4 := by
  have q1 := isI_01 c (A l x y) (A l x (y - 1))
  have q2 := isI_01 c (A l x y) (A l (x + 1) y)
  have q3 := isI_01 c (A l x y) (A l x (y + 1))
  have q4 := isI_01 c (A l x y) (A l (x - 1) y)
  unfold four
  omega
theorem s_l0 (l : List ByteArray) (ok : OK l) (c : Int) (L : List S49) (hL : L.length ≤ 200) (hp : ∀ p ∈ L, -1000 ≤ p.f0 ∧ p.f0 ≤ 1000 ∧ -1000 ≤ p.f1 ∧ p.f1 ≤ 1000) : ∀ (d i : Nat) (n : Int), i + d = L.length → 0 ≤ n → n + 4 * d ≤ 900000 → ∀ k,
    impl_sides.l0 (k + 6 * d + 1) l c n L (L.length : Int) (i : Int) = some (n + ((L.drop i).map fun p => four l (isI c) p.f0 p.f1).sum) := by
  intro d
  induction d with
  | zero =>
    intro i n h1 h2 h3 k
    simp only [impl_sides.l0]
    rw [if_neg (by omega), List.drop_of_length_le (by omega)]
    simp
  | succ d ih =>
    intro i n h1 h2 h3 k
    obtain ⟨M, hM⟩ : ∃ M, M = k + 6 * d + 1 := ⟨_, rfl⟩
    rw [show k + 6 * (d + 1) + 1 = (M + 5) + 1 from by omega]
    rw [impl_sides.l0]
    have hb := four_b l c L[i].f0 L[i].f1
    rw [if_pos (by omega), if_pos (by omega), if_pos (by omega), get49 L i (by omega), s_l1 l ok c n L _ (i : Int) L[i].f0 L[i].f1 (by omega) (hp _ (List.getElem_mem _)) (by omega) M, hM, show (i : Int) + 1 = ((i + 1 : Nat) : Int) from by omega, ih (i + 1) _ (by omega) (by omega) (by omega) k, List.drop_eq_getElem_cons (by omega : i < L.length), List.map_cons, List.sum_cons, Int.add_assoc]

def rowL : Nat → Int → Int → List S49
  | 0, _, _ => []
  | d + 1, x, y => ⟨x, y⟩ :: rowL d (x + 1) y
def allL (w : Nat) : Nat → Int → List S49
  | 0, _ => []
  | d + 1, y => rowL w 0 y ++ allL w d (y + 1)
theorem rowL_len (y : Int) : ∀ d x, (rowL d x y).length = d := by
  intro d
  induction d with
  | zero => intro x; rfl
  | succ d ih => intro x; simp [rowL, ih]
theorem allL_len (w : Nat) : ∀ d y, (allL w d y).length = d * w := by
  intro d
  induction d with
  | zero => intro y; simp [allL]
  | succ d ih => intro y; simp only [allL, List.length_append]; rw [rowL_len, ih, Nat.succ_mul]; omega
theorem rowL_mem (y : Int) : ∀ d x, ∀ p ∈ rowL d x y, x ≤ p.f0 ∧ p.f0 ≤ x + d ∧ p.f1 = y := by
  intro d
  induction d with
  | zero => intro x p hp; cases hp
  | succ d ih =>
    intro x p hp
    rcases List.mem_cons.1 hp with e | e
    · subst e; exact ⟨Int.le_refl _, by show x ≤ x + _; omega, rfl⟩
    · have := ih (x + 1) p e
      exact ⟨by omega, by omega, this.2.2⟩
theorem allL_mem (w : Nat) : ∀ d y, ∀ p ∈ allL w d y, 0 ≤ p.f0 ∧ p.f0 ≤ w ∧ y ≤ p.f1 ∧ p.f1 ≤ y + d := by
  intro d
  induction d with
  | zero => intro y p hp; cases hp
  | succ d ih =>
    intro y p hp
    rcases List.mem_append.1 hp with e | e
    · have := rowL_mem y w 0 p e
      exact ⟨by omega, by omega, by omega, by omega⟩
    · have := ih (y + 1) p e
      exact ⟨by omega, by omega, by omega, by omega⟩
theorem rowL_sum (g : Int → Int → Int) (y : Int) : ∀ d x, ((rowL d x y).map fun p => g p.f0 p.f1).sum = sm (fun x => g x y) d x := by
  intro d
  induction d with
  | zero => intro x; rfl
  | succ d ih => intro x; simp only [rowL, List.map_cons, List.sum_cons, sm]; rw [ih]
theorem allL_sum (g : Int → Int → Int) (w : Nat) : ∀ d y, ((allL w d y).map fun p => g p.f0 p.f1).sum = sm (fun y => sm (fun x => g x y) w 0) d y := by
  intro d
  induction d with
  | zero => intro y; rfl
  | succ d ih => intro y; simp only [allL, List.map_append, List.sum_append, sm]; rw [ih, rowL_sum]
theorem p_l1 (l : List ByteArray) (y N i : Int) (hi : 0 ≤ i ∧ i ≤ 1000) (w : Int) (hw : w ≤ 1000) : ∀ (d : Nat) (x : Int) (P : List S49), x + d = w → 0 ≤ x → P.length + d ≤ 100000 → ∀ k,
    impl_places.l1 (k + d + 1) P y l N i w x = impl_places.l0 k (P ++ rowL d x y) l N (i + 1) := by
  intro d
  induction d with
  | zero =>
    intro x P h1 h2 h3 k
    simp only [impl_places.l1, rowL]
    rw [if_neg (by omega), wid (x := i + 1) (by omega) (by omega), List.append_nil]
  | succ d ih =>
    intro x P h1 h2 h3 k
    obtain ⟨M, hM⟩ : ∃ M, M = k + d + 1 := ⟨_, rfl⟩
    rw [show k + (d + 1) + 1 = M + 1 from by omega]
    simp only [impl_places.l1]
    rw [if_pos (by omega), if_pos (by omega), wid (x := x + 1) (by omega) (by omega), hM, ih (x + 1) (P ++ [(⟨x, y⟩ : S49)]) (by omega) (by omega) (by simp; omega) k, List.append_assoc]
    rfl
theorem p_l0 (l : List ByteArray) (ok : OK l) : ∀ (d i : Nat) (P : List S49), i + d = l.length → P.length + d * (row l 0).size ≤ 10000 → ∀ k,
    impl_places.l0 (k + 20 * d + 1) P l (l.length : Int) (i : Int) = some (P ++ allL (row l 0).size d (i : Int)) := by
  have h1 := ok.1
  have h2 := (ok.2 0 (by omega)).2.1
  intro d
  induction d with
  | zero =>
    intro i P e1 e2 k
    simp only [impl_places.l0, allL]
    rw [if_neg (by omega), List.append_nil]
  | succ d ih =>
    intro i P e1 e2 k
    rw [Nat.succ_mul] at e2
    obtain ⟨M, hM⟩ : ∃ M, M = (k + 20 - ((row l 0).size + 2)) + 20 * d + 1 := ⟨_, rfl⟩
    rw [show k + 20 * (d + 1) + 1 = (M + (row l 0).size + 1) + 1 from by omega]
    rw [impl_places.l0]
    have hs := (ok.2 i (by omega)).1
    have hr : rdOf ByteArray.empty l (i : Int) = row l i := rfl
    rw [if_pos (by omega), if_pos (by omega), if_pos (by omega), hr, hs, p_l1 l (i : Int) _ (i : Int) (by omega) ((row l 0).size : Int) (by omega) (row l 0).size 0 P (by omega) (by omega) (by omega) M, hM, show (i : Int) + 1 = ((i + 1 : Nat) : Int) from by omega, ih (i + 1) _ (by omega) (by rw [List.length_append, rowL_len]; omega) _, List.append_assoc]
    rfl
theorem sides (l : List ByteArray) (ok : OK l) (c : Int) (k : Nat) (hk : 2000 < k) : impl_sides.f k l c = some (T l (isI c)) := by
  have h1 := ok.1
  have h2 := (ok.2 0 (by omega)).2.1
  have hm : l.length * (row l 0).size ≤ 12 * 12 := Nat.mul_le_mul h1.2 h2.2
  unfold impl_sides.f impl_places.f
  have p := p_l0 l ok l.length 0 [] (by omega) (by simp; omega) (k - 20 * l.length - 1)
  rw [show k - 20 * l.length - 1 + 20 * l.length + 1 = k from by omega, List.nil_append, show ((0 : Nat) : Int) = 0 from rfl] at p
  rw [p, Option.bind_some]
  have hl := allL_len (row l 0).size l.length 0
  have q := s_l0 l ok c (allL (row l 0).size l.length 0) (by omega) (fun p hp => by have := allL_mem _ _ _ p hp; exact ⟨by omega, by omega, by omega, by omega⟩) (allL (row l 0).size l.length 0).length 0 0 (by omega) (by omega) (by omega) (k - 6 * (allL (row l 0).size l.length 0).length - 1)
  rw [show k - 6 * (allL (row l 0).size l.length 0).length - 1 + 6 * (allL (row l 0).size l.length 0).length + 1 = k from by omega, show ((0 : Nat) : Int) = 0 from rfl, List.drop_zero, Int.zero_add, allL_sum (four l (isI c))] at q
  exact q

theorem T_nonneg (l : List ByteArray) (c : Int) : 0 ≤ T l (isI c) := by
  have nn : ∀ (f : Int → Int), (∀ x, 0 ≤ f x) → ∀ n lo, 0 ≤ sm f n lo := by
    intro f hf n
    induction n with
    | zero => intro lo; exact Int.le_refl _
    | succ n ih =>
      intro lo
      have := ih (lo + 1)
      have := hf lo
      simp only [sm]
      omega
  unfold T
  apply nn
  intro y
  apply nn
  intro x
  have := four_b l c x y
  unfold four at this
  omega
theorem S_of (v : Int) : v = 32 ∧ S v = 46 ∨ v ≠ 32 ∧ S v = v := by
  unfold S
  by_cases h : v = 32
  · exact .inl ⟨h, if_pos h⟩
  · exact .inr ⟨h, if_neg h⟩
theorem isI_around (c o t : Int) (h : c < 1000) : isI c o t = if o = c then (if t = o then 0 else 1) else 0 := by
  have e : impl_FenceAround_1.is c o t = (o == c && t != o) := by
    unfold impl_FenceAround_1.is
    rw [if_neg (by omega), if_neg (by omega), if_pos h]
  unfold isI
  rw [e]
  by_cases c1 : o = c
  · by_cases c2 : t = o
    · simp [c1, c2]
    · rw [c1] at c2
      simp [c1, c2]
  · simp [c1]
theorem isI_between (a b o t : Int) (h : 0 ≤ a ∧ a ≤ 255) (h' : 0 ≤ b ∧ b ≤ 255) : isI (2000 + 256 * a + b) o t = if o = a then (if t = b then 1 else 0) else 0 := by
  have e : impl_FenceAround_1.is (2000 + 256 * a + b) o t = (o == a && t == b) := by
    unfold impl_FenceAround_1.is
    rw [if_neg (by omega), if_neg (by omega), if_neg (by omega), show (2000 + 256 * a + b - 2000) / 256 = a from by omega, show (2000 + 256 * a + b - 2000) % 256 = b from by omega]
  unfold isI
  rw [e]
  by_cases c1 : o = a
  · by_cases c2 : t = b
    · simp [c1, c2]
    · simp [c1, c2]
  · simp [c1]
theorem isI_in (o t : Int) : isI 1000 o t = if t = 32 then 0 else (if o = t then 0 else 1) := by
  have e : impl_FenceAround_1.is 1000 o t = (t != 32 && o != t) := by
    unfold impl_FenceAround_1.is
    rw [if_pos rfl]
  unfold isI
  rw [e]
  by_cases c1 : t = 32
  · simp [c1]
  · by_cases c2 : o = t
    · simp [c1, c2]
    · simp [c1, c2]
theorem isI_out (o t : Int) : isI 1001 o t = if t = 32 then (if o = 46 then 0 else 1) else 0 := by
  have e : impl_FenceAround_1.is 1001 o t = (t == 32 && o != 46) := by
    unfold impl_FenceAround_1.is
    rw [if_neg (by omega), if_pos rfl]
  unfold isI
  rw [e]
  by_cases c1 : t = 32
  · by_cases c2 : o = 46
    · simp [c1, c2]
    · simp [c1, c2]
  · simp [c1]
theorem around (l : List ByteArray) (ok : OK l) (c : Int) (h : 97 ≤ c ∧ c ≤ 101) : F l c 0 = T l (isI c) := by
  have := both l ok c 0 1 (isI c) (fun o t vo vt => by
    rw [isI_around c o t (by omega), isI_around c t o (by omega)]
    have s1 := S_of o
    have s2 := S_of t
    generalize S o = so at *
    generalize S t = st at *
    unfold Val at vo vt
    unfold crit
    repeat' split
    all_goals omega) (fun t => by rw [isI_around c 32 t (by omega), if_neg (by omega)])
  omega
theorem between (l : List ByteArray) (ok : OK l) (a b : Int) (h : 97 ≤ a ∧ a ≤ 101) (h' : 97 ≤ b ∧ b ≤ 101) (hne : a ≠ b) : F l a b = T l (isI (2000 + 256 * a + b)) := by
  have := both l ok a b 1 (isI (2000 + 256 * a + b)) (fun o t vo vt => by
    rw [isI_between a b o t (by omega) (by omega), isI_between a b t o (by omega) (by omega)]
    have s1 := S_of o
    have s2 := S_of t
    generalize S o = so at *
    generalize S t = st at *
    unfold Val at vo vt
    unfold crit
    repeat' split
    all_goals omega) (fun t => by rw [isI_between a b 32 t (by omega) (by omega), if_neg (by omega)])
  omega
theorem whole (l : List ByteArray) (ok : OK l) : 2 * F l 0 0 = T l (isI 1000) + 2 * T l (isI 1001) := by
  have := both l ok 0 0 2 (fun o t => (if o = 32 then 0 else isI 1000 o t) + 2 * (if o = 32 then 0 else isI 1001 o t)) (fun o t vo vt => by
    rw [isI_in o t, isI_in t o, isI_out o t, isI_out t o]
    have s1 := S_of o
    have s2 := S_of t
    generalize S o = so at *
    generalize S t = st at *
    unfold Val at vo vt
    unfold crit
    repeat' split
    all_goals omega) (fun t => by simp)
  rw [this, T_add, T_congr l ok (fun o t => if o = 32 then 0 else isI 1000 o t) (isI 1000) (fun o t h => if_neg h), T_congr l ok (fun o t => if o = 32 then 0 else isI 1001 o t) (isI 1001) (fun o t h => if_neg h)]
end Go.Proofs.Ytihjikmpbbjbfaa.Sides
