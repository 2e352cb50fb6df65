/- In how many ways gates stand: the program's product and the reference's sums come to the same numbers; plain lemmas, no condition beside those named. -/
import Derived.Test.YtelfljoapaoeoaaX1
import Derived.Test.YtelfljoapaoeoaaX3
import Derived.Test.YtelfljoapaoeoaaGates
namespace Go.Proofs.Ytelfljoapaoeoaa.Ways
open Go.RowKit Go.Proofs.Ytelfljoapaoeoaa.X Go.Proofs.YtelfljoapaoeoaaW.PrintWords Go.Proofs.YtelfljoapaoeoaaW.PrintLast Go.Proofs.Ytelfljoapaoeoaa Go.Proofs.Ytelfljoapaoeoaa.Gates
set_option linter.unusedVariables false
set_option linter.unusedSimpArgs false

/-- In how many ways k out of n can be taken. -/
def bin : Nat → Nat → Nat
  | _, 0 => 1
  | 0, _ + 1 => 0
  | n + 1, k + 1 => bin n k + bin n (k + 1)
theorem bin_zero (n : Nat) : bin n 0 = 1 := by cases n <;> rfl
theorem bin_succ (n k : Nat) : bin (n + 1) (k + 1) = bin n k + bin n (k + 1) := rfl
theorem bin_none (k : Nat) : bin 0 (k + 1) = 0 := rfl

theorem bin_le (n : Nat) : ∀ k, bin n k ≤ 2 ^ n := by
  induction n with
  | zero => intro k; cases k with
    | zero => exact Nat.le_refl _
    | succ k => rw [bin_none]; exact Nat.zero_le _
  | succ n ih =>
    intro k
    have hp : 2 ^ (n + 1) = 2 ^ n + 2 ^ n := by rw [Nat.pow_succ]; omega
    cases k with
    | zero => rw [bin_zero]; exact Nat.one_le_two_pow
    | succ k => rw [bin_succ, hp]; exact Nat.add_le_add (ih k) (ih (k + 1))

theorem bin_mul (n : Nat) : ∀ k, bin (n + 1) (k + 1) * (k + 1) = (n + 1) * bin n k := by
  induction n with
  | zero =>
    intro k
    cases k with
    | zero => rfl
    | succ k => rw [bin_succ, bin_none, bin_none]; simp
  | succ n ih =>
    intro k
    rw [bin_succ]
    cases k with
    | zero =>
      have := ih 0
      rw [bin_zero] at this ⊢
      omega
    | succ j =>
      have h1 := ih j
      have h2 := ih (j + 1)
      have h3 := bin_succ n j
      have e1 : bin (n + 1) (j + 1) * (j + 1 + 1) = bin (n + 1) (j + 1) * (j + 1) + bin (n + 1) (j + 1) := Nat.mul_succ _ _
      rw [Nat.add_mul, e1, h1, h2]
      have e2 : (n + 1 + 1) * bin (n + 1) (j + 1) = (n + 1) * bin (n + 1) (j + 1) + bin (n + 1) (j + 1) := Nat.succ_mul _ _
      rw [e2, h3, Nat.mul_add]
      omega

theorem bin_step (n k : Nat) : bin n (k + 1) * (k + 1) + bin n k * k = n * bin n k := by
  cases n with
  | zero =>
    rw [bin_none]
    cases k with
    | zero => rfl
    | succ k => rw [bin_none]; simp
  | succ n =>
    have h1 := bin_mul n k
    cases k with
    | zero => rw [bin_zero] at h1 ⊢; omega
    | succ j =>
      have h2 := bin_mul n j
      have h3 := bin_succ n j
      rw [h1, h2, h3, Nat.mul_add]
      have : (n + 1) * bin n (j + 1) + (n + 1) * bin n j = (n + 1) * (bin n j + bin n (j + 1)) := by rw [Nat.mul_add]; omega
      rw [this, Nat.mul_add]

theorem bin_big (n : Nat) : ∀ k, n < k → bin n k = 0 := by
  induction n with
  | zero => intro k h; obtain ⟨j, rfl⟩ : ∃ j, k = j + 1 := ⟨k - 1, by omega⟩; rfl
  | succ n ih =>
    intro k h
    obtain ⟨j, rfl⟩ : ∃ j, k = j + 1 := ⟨k - 1, by omega⟩
    rw [bin_succ, ih j (by omega), ih (j + 1) (by omega)]

/-- The product, one factor on. -/
theorem bin_quot (n k : Nat) : ((bin n k : Int) * ((n : Int) - k)).tdiv ((k : Int) + 1) = (bin n (k + 1) : Int) := by
  have h := bin_step n k
  have h' : (bin n k : Int) * ((n : Int) - k) = (bin n (k + 1) : Int) * ((k : Int) + 1) := by
    have z : ((bin n (k + 1) * (k + 1) + bin n k * k : Nat) : Int) = ((n * bin n k : Nat) : Int) := by rw [h]
    simp only [Int.natCast_add, Int.natCast_mul, Int.natCast_one] at z
    rw [Int.mul_sub, Int.mul_comm (bin n k : Int) (n : Int)]
    omega
  rw [h']
  exact Int.mul_tdiv_cancel _ (by omega)

theorem bin_small (n k : Nat) (h : n ≤ 40) : bin n k ≤ 1099511627776 :=
  Nat.le_trans (bin_le n k) (Nat.le_trans (Nat.pow_le_pow_right (by omega) h) (by decide))

theorem choose_l0 (n m : Nat) (hn : n ≤ 40) (hm : m ≤ 11) : ∀ (d k i : Nat), i + d = m → d < k →
    impl_choose.l0 k (n : Int) (bin n i : Int) (m : Int) (i : Int) = some (bin n m : Int) := by
  intro d
  induction d with
  | zero =>
    intro k i h1 h2
    obtain ⟨k, rfl⟩ : ∃ q, k = q + 1 := ⟨k - 1, by omega⟩
    simp only [impl_choose.l0]
    rw [if_neg (by omega), show i = m from by omega]
  | succ d ih =>
    intro k i h1 h2
    obtain ⟨k, rfl⟩ : ∃ q, k = q + 1 := ⟨k - 1, by omega⟩
    have hb := bin_small n i hn
    have hb' := bin_small n (i + 1) hn
    have hq := bin_quot n i
    simp only [impl_choose.l0]
    rw [wid (x := (i : Int) + 1) (by omega) (by omega), if_pos (by omega), if_neg (by omega), wid (x := (n : Int) - i) (by omega) (by omega)]
    have hlo : -(1099511627776 * 40) ≤ (bin n i : Int) * ((n : Int) - i) ∧ (bin n i : Int) * ((n : Int) - i) ≤ 1099511627776 * 40 := by
      rcases Nat.lt_or_ge n i with c | c
      · rw [bin_big n i c]; simp
      · have h0 : (0 : Int) ≤ (n : Int) - i := by omega
        constructor
        · have := Int.mul_nonneg (Int.natCast_nonneg (bin n i)) h0
          omega
        · exact Int.mul_le_mul (by omega) (by omega) h0 (by omega)
    rw [wid (x := (bin n i : Int) * ((n : Int) - i)) (by omega) (by omega), hq, wid (x := (bin n (i + 1) : Int)) (by omega) (by omega)]
    exact ih k (i + 1) (by omega) (by omega)

theorem choose_some (n m : Nat) (hn : n ≤ 40) (hm : m ≤ 11) (k : Nat) (hk : m < k) : impl_choose.f k (n : Int) (m : Int) = some (bin n m : Int) := by
  unfold impl_choose.f
  have := choose_l0 n m hn hm m k 0 (by omega) hk
  rw [bin_zero] at this
  exact this

/-- A row of the reference: in how many ways k parts have j boards. -/
def g : Nat → Nat → Nat
  | 0, 0 => 1
  | 0, _ + 1 => 0
  | _ + 1, 0 => 0
  | k + 1, j + 1 => bin j k
def S (k : Nat) : Nat → Nat
  | 0 => 0
  | d + 1 => S k d + g k d
theorem S_g (k : Nat) : ∀ d, S k (d + 1) = g (k + 1) (d + 1) := by
  cases k with
  | zero =>
    intro d
    induction d with
    | zero => rfl
    | succ d ih =>
      show S 0 (d + 1) + g 0 (d + 1) = bin (d + 1) 0
      rw [ih, bin_zero]; show bin d 0 + 0 = 1; rw [bin_zero]
  | succ k =>
    intro d
    induction d with
    | zero => rfl
    | succ d ih =>
      show S (k + 1) (d + 1) + g (k + 1) (d + 1) = bin (d + 1) (k + 1)
      rw [ih, bin_succ]
      show bin d (k + 1) + bin d k = _
      omega
theorem g_le (k j : Nat) (h : j ≤ 40) : g k j ≤ 1099511627776 := by
  cases k with
  | zero => cases j with
    | zero => decide
    | succ j => exact Nat.zero_le _
  | succ k => cases j with
    | zero => exact Nat.zero_le _
    | succ j => exact bin_small j k (by omega)
theorem S_le (k d : Nat) (h : d ≤ 40) : S k d ≤ 1099511627776 := by
  cases d with
  | zero => exact Nat.zero_le _
  | succ d => rw [S_g]; exact g_le _ _ h

/-- A row so far: filled up to 'at'. -/
def row (b k c : Nat) : List Int := (List.range (b + 1)).map fun j => if j < c then (g k j : Int) else 0
theorem row_len (b k c : Nat) : (row b k c).length = b + 1 := by unfold row; simp
theorem row_get (b k c i : Nat) (h : i < (row b k c).length) : (row b k c)[i] = if i < c then (g k i : Int) else 0 := by simp [row]
theorem row_rd (b k c j : Nat) (h : j ≤ b) : rd (row b k c) (j : Int) = if j < c then (g k j : Int) else 0 := by
  rw [rd_get _ _ (by rw [row_len]; omega)]
  unfold row
  simp
theorem row_set (b k at_ : Nat) (h : at_ ≤ b) (v : Int) (hv : v = (g k at_ : Int)) : (row b k at_).set at_ v = row b k (at_ + 1) := by
  apply List.ext_getElem
  · simp [row_len]
  · intro i h1 h2
    rw [List.getElem_set, row_get (c := at_ + 1)]
    by_cases e : at_ = i
    · subst e
      rw [if_pos rfl, if_pos (by omega), hv]
    · rw [if_neg e, row_get]
      by_cases c : i < at_
      · rw [if_pos c, if_pos (by omega)]
      · rw [if_neg c, if_neg (by omega)]
theorem row_one (b k : Nat) : List.replicate (b + 1) (0 : Int) = row b (k + 1) 1 := by
  apply List.ext_getElem
  · simp [row_len]
  · intro i h1 h2
    rw [row_get, List.getElem_replicate]
    by_cases e : i < 1
    · obtain rfl : i = 0 := by omega
      rfl
    · rw [if_neg e]
theorem row_zero (b : Nat) : (List.replicate (b + 1) (0 : Int)).set 0 1 = row b 0 (b + 1) := by
  apply List.ext_getElem
  · simp [row_len]
  · intro i h1 h2
    have hi : i < b + 1 := by rw [row_len] at h2; exact h2
    rw [List.getElem_set, row_get, List.getElem_replicate, if_pos hi]
    cases i with
    | zero => rfl
    | succ i => rw [if_neg (by omega)]; rfl

theorem ways_l2 (b m : Nat) (f : Int) (hb : b ≤ 40) (hf : (b : Int) ≤ f) (hf' : f ≤ 1000) (k : Nat) (at_ : Nat) (ha : 1 ≤ at_) (ha' : at_ ≤ b) : ∀ (d n : Nat) (x : List Int), n + d = at_ + 1 → 1 ≤ n → x.length = b + 1 → 0 ≤ rd x (at_ : Int) → rd x (at_ : Int) + (S k d : Int) ≤ 1099511627776 → ∀ K,
    spec_gaWays.l2 (K + d + 1) b m f (row b k (b + 1)) k x at_ n = spec_gaWays.l1 K b m f (row b k (b + 1)) k (x.set at_ (rd x (at_ : Int) + (S k d : Int))) ((at_ : Int) + 1) := by
  intro d
  induction d with
  | zero =>
    intro n x h1 h2 hx h0 hS K
    simp only [spec_gaWays.l2]
    rw [wid (x := (at_ : Int) + 1) (by omega) (by omega)]
    have e : x.set at_ (rd x (at_ : Int) + (S k 0 : Int)) = x := by
      show x.set at_ (rd x (at_ : Int) + 0) = x
      rw [Int.add_zero, rd_get x at_ (by omega), List.set_getElem_self]
    rw [e]
    split
    · rw [if_neg (by omega)]
    · rfl
  | succ d ih =>
    intro n x h1 h2 hx h0 hS K
    obtain ⟨M, hM⟩ : ∃ M, M = K + d + 1 := ⟨_, rfl⟩
    rw [show K + (d + 1) + 1 = M + 1 from by omega]
    simp only [spec_gaWays.l2]
    rw [wid (x := (at_ : Int) - n) (by omega) (by omega), show (at_ : Int) - n = (d : Int) from by omega, if_pos (by omega), if_pos (by omega), if_pos (by omega), if_pos (by rw [hx]; omega), if_pos (by omega), if_pos (by rw [row_len]; omega), row_rd b k (b + 1) d (by omega), if_pos (by omega), wid (x := (n : Int) + 1) (by omega) (by omega), Int.toNat_natCast]
    have hg := g_le k d (by omega)
    have hs : (S k (d + 1) : Int) = (S k d : Int) + (g k d : Int) := by show ((S k d + g k d : Nat) : Int) = _; omega
    rw [hs] at hS ⊢
    have hS0 : 0 ≤ (S k d : Int) := Int.natCast_nonneg _
    rw [wid (x := rd x (at_ : Int) + (g k d : Int)) (by omega) (by omega)]
    have e : rd (x.set at_ (rd x (at_ : Int) + (g k d : Int))) (at_ : Int) = rd x (at_ : Int) + (g k d : Int) := by
      rw [rd_get _ _ (by simp; omega), List.getElem_set_self]
    have := ih (n + 1) (x.set at_ (rd x (at_ : Int) + (g k d : Int))) (by omega) (by omega) (by simp; omega) (by rw [e]; omega) (by rw [e]; omega) K
    rw [e, List.set_set, show (((n + 1 : Nat)) : Int) = (n : Int) + 1 from by omega] at this
    rw [hM, this]
    congr 2
    omega

theorem ways_l1 (b m : Nat) (f : Int) (hb : b ≤ 40) (hf : (b : Int) ≤ f) (hf' : f ≤ 1000) (k : Nat) (hk : k ≤ 100) : ∀ (e at_ : Nat), at_ + e = b + 1 → 1 ≤ at_ → ∃ F, ∀ K,
    spec_gaWays.l1 (K + F) b m f (row b k (b + 1)) k (row b (k + 1) at_) at_ = spec_gaWays.l0 K b m f (row b (k + 1) (b + 1)) ((k : Int) + 1) := by
  intro e
  induction e with
  | zero =>
    intro at_ h1 h2
    refine ⟨1, fun K => ?_⟩
    simp only [spec_gaWays.l1]
    rw [if_neg (by omega), wid (x := (k : Int) + 1) (by omega) (by omega), show at_ = b + 1 from by omega]
  | succ e ih =>
    intro at_ h1 h2
    obtain ⟨F, hF⟩ := ih (at_ + 1) (by omega) (by omega)
    refine ⟨F + at_ + 1 + 1, fun K => ?_⟩
    obtain ⟨M, hM⟩ : ∃ M, M = K + F + at_ + 1 := ⟨_, rfl⟩
    rw [show K + (F + at_ + 1 + 1) = M + 1 from by omega]
    simp only [spec_gaWays.l1]
    rw [if_pos (by omega)]
    have hr : rd (row b (k + 1) at_) (at_ : Int) = 0 := by rw [row_rd _ _ _ _ (by omega), if_neg (by omega)]
    have := ways_l2 b m f hb hf hf' k at_ h2 (by omega) at_ 1 (row b (k + 1) at_) (by omega) (by omega) (row_len _ _ _) (by omega) (by rw [hr]; have := S_le k at_ (by omega); omega) (K + F)
    rw [hr, Int.zero_add] at this
    rw [show ((1 : Nat) : Int) = 1 from rfl] at this
    rw [hM, this, row_set b (k + 1) at_ (by omega) _ (by obtain ⟨q, rfl⟩ : ∃ q, at_ = q + 1 := ⟨at_ - 1, by omega⟩; rw [S_g])]
    have := hF K
    rw [show (((at_ + 1 : Nat)) : Int) = (at_ : Int) + 1 from by omega] at this
    exact this

theorem ways_l0 (b m : Nat) (f : Int) (hb : b ≤ 40) (hm : m ≤ 50) (hf : (b : Int) ≤ f) (hf' : f ≤ 1000) : ∀ (e k : Nat), k + e = m + 1 → ∃ F, ∀ K,
    spec_gaWays.l0 (K + F) b m f (row b k (b + 1)) k = some (g (m + 1) b : Int) := by
  intro e
  induction e with
  | zero =>
    intro k h1
    refine ⟨1, fun K => ?_⟩
    simp only [spec_gaWays.l0]
    rw [if_neg (by omega), if_pos (by omega), if_pos (by rw [row_len]; omega), row_rd _ _ _ _ (Nat.le_refl _), if_pos (by omega), show k = m + 1 from by omega]
  | succ e ih =>
    intro k h1
    obtain ⟨F1, h1'⟩ := ih (k + 1) (by omega)
    obtain ⟨F2, h2'⟩ := ways_l1 b m f hb hf hf' k (by omega) b 1 (by omega) (by omega)
    refine ⟨F1 + F2 + 1, fun K => ?_⟩
    obtain ⟨M, hM⟩ : ∃ M, M = K + F1 + F2 := ⟨_, rfl⟩
    rw [show K + (F1 + F2 + 1) = M + 1 from by omega]
    simp only [spec_gaWays.l0]
    rw [wid (x := (b : Int) + 1) (by omega) (by omega), if_pos (by omega), if_pos (by omega), if_pos (by omega), show ((b : Int) + 1).toNat = b + 1 from by omega, row_one b k]
    have := h2' (K + F1)
    rw [show ((1 : Nat) : Int) = 1 from rfl] at this
    rw [hM, this]
    have := h1' K
    rw [show (((k + 1 : Nat)) : Int) = (k : Int) + 1 from by omega] at this
    exact this

theorem ways_some (b m : Nat) (f : Int) (hb : b ≤ 40) (hm : m ≤ 50) (hf : (b : Int) ≤ f) (hf' : f ≤ 1000) : ∃ F, ∀ K, spec_gaWays.f (K + F) b m f = some (g (m + 1) b : Int) := by
  obtain ⟨F, hF⟩ := ways_l0 b m f hb hm hf hf' (m + 1) 0 (by omega)
  refine ⟨F, fun K => ?_⟩
  unfold spec_gaWays.f
  rw [wid (x := (b : Int) + 1) (by omega) (by omega), if_pos (by omega), show ((b : Int) + 1).toNat = b + 1 from by omega, if_pos (by omega), Option.bind_some, if_pos (by first | (simp; done) | (simp; omega)), show Int.toNat 0 = 0 from rfl, row_zero]
  exact hF K

/-- The two come to one number. -/
theorem both (b m : Nat) (f : Int) (hb : 1 ≤ b) (hb' : b ≤ 40) (hm : m ≤ 11) (hf : (b : Int) ≤ f) (hf' : f ≤ 1000) :
    ∃ F, ∀ K, spec_gaWays.f (K + F) b m f = some (bin (b - 1) m : Int) ∧ impl_choose.f (K + F) ((b : Int) - 1) m = some (bin (b - 1) m : Int) := by
  obtain ⟨F, hF⟩ := ways_some b m f hb' (by omega) hf hf'
  refine ⟨F + m + 1, fun K => ?_⟩
  obtain ⟨q, rfl⟩ : ∃ q, b = q + 1 := ⟨b - 1, by omega⟩
  have h1 := hF (K + m + 1)
  have h2 := choose_some q m (by omega) hm (K + (F + m + 1)) (by omega)
  rw [show K + m + 1 + F = K + (F + m + 1) from by omega] at h1
  rw [show (((q + 1 : Nat)) : Int) - 1 = (q : Int) from by omega, Nat.add_sub_cancel]
  exact ⟨h1, h2⟩
end Go.Proofs.Ytelfljoapaoeoaa.Ways
