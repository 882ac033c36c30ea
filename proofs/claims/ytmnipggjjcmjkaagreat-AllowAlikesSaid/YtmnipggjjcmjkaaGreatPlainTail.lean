/-
  Tails: the chances of events, one after the other; how they rise and fall; how great the numbers get. No program is in sight here.
-/

set_option linter.unusedSimpArgs false
set_option linter.unusedVariables false
namespace Go.Proofs.YtmnipggjjcmjkaaGreat

/-- The chance that just i of n events happen. -/
def binQ (p : Rat) : Nat → Nat → Rat
  | 0, 0 => 1
  | 0, _ + 1 => 0
  | n + 1, 0 => binQ p n 0 * (1 - p)
  | n + 1, i + 1 => binQ p n (i + 1) * (1 - p) + binQ p n i * p
/-- .. that at least k of n happen. -/
def tlQ (p : Rat) : Nat → Nat → Rat
  | _, 0 => 1
  | 0, _ + 1 => 0
  | n + 1, k + 1 => tlQ p n (k + 1) * (1 - p) + tlQ p n k * p
/-- The sum of m values from a on. -/
def sumF (f : Nat → Rat) (a : Nat) : Nat → Rat
  | 0 => 0
  | m + 1 => sumF f a m + f (a + m)
theorem binQ_far (p : Rat) : ∀ n i, n < i → binQ p n i = 0
  | 0, 0, h => absurd h (Nat.lt_irrefl _)
  | 0, _ + 1, _ => rfl
  | n + 1, 0, h => absurd h (Nat.not_lt_zero _)
  | n + 1, i + 1, h => by
    show binQ p n (i + 1) * (1 - p) + binQ p n i * p = 0
    rw [binQ_far p n (i + 1) (by omega), binQ_far p n i (by omega)]; grind
theorem tlQ_far (p : Rat) : ∀ n k, n < k → tlQ p n k = 0
  | _, 0, h => absurd h (Nat.not_lt_zero _)
  | 0, _ + 1, _ => rfl
  | n + 1, k + 1, h => by
    show tlQ p n (k + 1) * (1 - p) + tlQ p n k * p = 0
    rw [tlQ_far p n (k + 1) (by omega), tlQ_far p n k (by omega)]; grind
/-- The chances are the steps of the tails. -/
theorem tlQ_step (p : Rat) : ∀ n k, tlQ p n k = tlQ p n (k + 1) + binQ p n k
  | 0, 0 => by show (1 : Rat) = 0 + 1; grind
  | 0, k + 1 => by show (0 : Rat) = 0 + 0; grind
  | n + 1, 0 => by
    have h := tlQ_step p n 0
    show (1 : Rat) = (tlQ p n 1 * (1 - p) + tlQ p n 0 * p) + binQ p n 0 * (1 - p)
    have h0 : tlQ p n 0 = 1 := by cases n <;> rfl
    grind
  | n + 1, k + 1 => by
    have h := tlQ_step p n (k + 1)
    have h' := tlQ_step p n k
    show tlQ p n (k + 1) * (1 - p) + tlQ p n k * p = (tlQ p n (k + 2) * (1 - p) + tlQ p n (k + 1) * p) + (binQ p n (k + 1) * (1 - p) + binQ p n k * p)
    grind
theorem tlQ_zero (p : Rat) (n : Nat) : tlQ p n 0 = 1 := by cases n <;> rfl
theorem sum_bin (p : Rat) (n k : Nat) : ∀ m, sumF (binQ p n) k m + tlQ p n (k + m) = tlQ p n k
  | 0 => by show (0 : Rat) + _ = _; rw [Nat.add_zero]; grind
  | m + 1 => by
    have h := sum_bin p n k m
    have h' := tlQ_step p n (k + m)
    show sumF (binQ p n) k m + binQ p n (k + m) + tlQ p n (k + m + 1) = _
    grind
/-- The sum from k to n is the tail. -/
theorem sum_tail (p : Rat) {n k m : Nat} (h : n < k + m) : sumF (binQ p n) k m = tlQ p n k := by
  have := sum_bin p n k m
  rw [tlQ_far p n _ h] at this
  grind
section
variable {p : Rat} (h0 : 0 ≤ p) (h1 : p ≤ 1)
include h0 h1
theorem tlQ_bd : ∀ n k, 0 ≤ tlQ p n k ∧ tlQ p n k ≤ 1 ∧ tlQ p n (k + 1) ≤ tlQ p n k
  | 0, 0 => by show (0 : Rat) ≤ 1 ∧ (1 : Rat) ≤ 1 ∧ (0 : Rat) ≤ 1; decide +kernel
  | 0, k + 1 => by show (0 : Rat) ≤ 0 ∧ (0 : Rat) ≤ 1 ∧ (0 : Rat) ≤ 0; decide +kernel
  | n + 1, 0 => by
    have a := tlQ_bd n 0
    have b := tlQ_bd n 1
    have h2 := Rat.mul_nonneg b.1 (show 0 ≤ 1 - p by grind)
    have h3 := Rat.mul_nonneg a.1 h0
    have h4 := Rat.mul_nonneg (show 0 ≤ 1 - tlQ p n 1 by grind) (show 0 ≤ 1 - p by grind)
    show (0 : Rat) ≤ 1 ∧ (1 : Rat) ≤ 1 ∧ tlQ p n 1 * (1 - p) + tlQ p n 0 * p ≤ 1
    rw [tlQ_zero] at *
    refine ⟨by decide +kernel, by decide +kernel, by grind⟩
  | n + 1, k + 1 => by
    have a := tlQ_bd n k
    have b := tlQ_bd n (k + 1)
    have h2 := Rat.mul_nonneg b.1 (show 0 ≤ 1 - p by grind)
    have h3 := Rat.mul_nonneg a.1 h0
    have h4 := Rat.mul_nonneg (show 0 ≤ 1 - tlQ p n (k + 1) by grind) (show 0 ≤ 1 - p by grind)
    have h5 := Rat.mul_nonneg (show 0 ≤ 1 - tlQ p n k by grind) h0
    have h6 := Rat.mul_nonneg (show 0 ≤ tlQ p n (k + 1) - tlQ p n (k + 2) by grind) (show 0 ≤ 1 - p by grind)
    have h7 := Rat.mul_nonneg (show 0 ≤ tlQ p n k - tlQ p n (k + 1) by grind) h0
    show (0 : Rat) ≤ tlQ p n (k + 1) * (1 - p) + tlQ p n k * p ∧ tlQ p n (k + 1) * (1 - p) + tlQ p n k * p ≤ 1 ∧ tlQ p n (k + 2) * (1 - p) + tlQ p n (k + 1) * p ≤ tlQ p n (k + 1) * (1 - p) + tlQ p n k * p
    refine ⟨by grind, by grind, by grind⟩
theorem tlQ_more (n k : Nat) : tlQ p n k ≤ tlQ p (n + 1) k := by
  cases k with
  | zero => rw [tlQ_zero, tlQ_zero]; exact Rat.le_refl
  | succ k =>
    have a := tlQ_bd h0 h1 n k
    have h7 := Rat.mul_nonneg (show 0 ≤ tlQ p n k - tlQ p n (k + 1) by grind) h0
    show _ ≤ tlQ p n (k + 1) * (1 - p) + tlQ p n k * p
    grind
end
theorem tlQ_anti {p : Rat} (h0 : 0 ≤ p) (h1 : p ≤ 1) (n : Nat) {k m : Nat} (h : k ≤ m) : tlQ p n m ≤ tlQ p n k := by
  induction h with
  | refl => exact Rat.le_refl
  | step _ ih => exact Rat.le_trans (tlQ_bd h0 h1 n _).2.2 ih
theorem tlQ_up {p : Rat} (h0 : 0 ≤ p) (h1 : p ≤ 1) (k : Nat) {n m : Nat} (h : n ≤ m) : tlQ p n k ≤ tlQ p m k := by
  induction h with
  | refl => exact Rat.le_refl
  | step _ ih => exact Rat.le_trans ih (tlQ_more h0 h1 _ k)
theorem tlQ_mono {p q : Rat} (h0 : 0 ≤ p) (h1 : p ≤ q) (h2 : q ≤ 1) : ∀ n k, tlQ p n k ≤ tlQ q n k
  | n, 0 => by rw [tlQ_zero, tlQ_zero]; exact Rat.le_refl
  | 0, k + 1 => Rat.le_refl
  | n + 1, k + 1 => by
    have a := tlQ_mono h0 h1 h2 n (k + 1)
    have b := tlQ_mono h0 h1 h2 n k
    have c := (tlQ_bd h0 (Rat.le_trans h1 h2) n k).2.2
    have h3 := Rat.mul_nonneg (show 0 ≤ tlQ q n (k + 1) - tlQ p n (k + 1) by grind) (show 0 ≤ 1 - q by grind)
    have h4 := Rat.mul_nonneg (show 0 ≤ tlQ q n k - tlQ p n k by grind) (show 0 ≤ q by grind)
    have h5 := Rat.mul_nonneg (show 0 ≤ tlQ p n k - tlQ p n (k + 1) by grind) (show 0 ≤ q - p by grind)
    show tlQ p n (k + 1) * (1 - p) + tlQ p n k * p ≤ tlQ q n (k + 1) * (1 - q) + tlQ q n k * q
    grind
/-- Both tails together. -/
theorem bin_swap (p : Rat) : ∀ n i, i ≤ n → binQ p n i = binQ (1 - p) n (n - i)
  | 0, 0, _ => rfl
  | n + 1, 0, _ => by
    have h := bin_swap p n 0 (Nat.zero_le _)
    have f := binQ_far (1 - p) n (n + 1) (by omega)
    show binQ p n 0 * (1 - p) = binQ (1 - p) n (n + 1) * (1 - (1 - p)) + binQ (1 - p) n n * (1 - p)
    rw [f, h]; simp only [Nat.sub_zero]; grind
  | n + 1, i + 1, hi => by
    have h := bin_swap p n i (by omega)
    show binQ p n (i + 1) * (1 - p) + binQ p n i * p = _
    rw [show n + 1 - (i + 1) = n - i by omega]
    by_cases e : i = n
    · subst e
      rw [binQ_far p i (i + 1) (by omega), h, Nat.sub_self]
      show _ = binQ (1 - p) i 0 * (1 - (1 - p))
      grind
    · have h' := bin_swap p n (i + 1) (by omega)
      obtain ⟨d, hd⟩ : ∃ d, n - i = d + 1 := ⟨n - i - 1, by omega⟩
      rw [h, h', hd, show n - (i + 1) = d by omega]
      show _ = binQ (1 - p) n (d + 1) * (1 - (1 - p)) + binQ (1 - p) n d * (1 - p)
      grind
theorem tails_one (p : Rat) (n : Nat) : ∀ k, k ≤ n + 1 → tlQ p n k + tlQ (1 - p) n (n + 1 - k) = 1
  | 0, _ => by rw [tlQ_zero, tlQ_far _ _ _ (by omega)]; grind
  | k + 1, h => by
    have ih := tails_one p n k (by omega)
    have a := tlQ_step p n k
    have b := tlQ_step (1 - p) n (n - k)
    have c := bin_swap p n k (by omega)
    rw [show n + 1 - k = n - k + 1 by omega] at ih
    rw [show n + 1 - (k + 1) = n - k by omega]
    grind
theorem mul_den_num (p : Rat) : p * (p.den : Rat) = (p.num : Rat) := by
  have h : mkRat p.num p.den = p := Rat.mkRat_self p
  have h2 : mkRat p.num p.den = (p.num : Rat) / (p.den : Rat) := Rat.mkRat_eq_div _ _
  have h3 : (p.den : Rat) ≠ 0 := by exact_mod_cast p.den_nz
  have h4 : (p.num : Rat) / (p.den : Rat) = p := by rw [← h2]; exact h
  have h5 : (p.num : Rat) / (p.den : Rat) * (p.den : Rat) = p.num := Rat.div_mul_cancel h3
  rw [h4] at h5
  exact h5
/-- A number from 0 to 1 of which D times is whole has at most D above and below. -/
theorem part_bd1 {x : Rat} {D : Nat} {z : Int} (hD : 0 < D) (h : x * (D : Rat) = z) (h0 : 0 ≤ x) (h1 : x ≤ 1) : x.num.natAbs ≤ D ∧ x.den ≤ D := by
  have hD' : (D : Rat) ≠ 0 := by exact_mod_cast (show D ≠ 0 by omega)
  have e : x = mkRat z D := by
    rw [Rat.mkRat_eq_div, ← h]
    have : x * (D : Rat) / (D : Rat) = x := by
      have := Rat.div_mul_cancel (a := x * (D : Rat)) hD'
      grind
    exact this.symm
  have hd : x.den ≤ D := by
    rw [e, Rat.den_mkRat, if_neg (by omega)]
    exact Nat.div_le_self _ _
  have hn := mul_den_num x
  have hdp : (0 : Rat) ≤ (x.den : Rat) := by exact_mod_cast Nat.zero_le _
  have a := Rat.mul_nonneg h0 hdp
  have b := Rat.mul_nonneg (show 0 ≤ 1 - x by grind) hdp
  have c : (x.num : Rat) ≤ (x.den : Rat) := by grind
  have d : (0 : Rat) ≤ (x.num : Rat) := by grind
  have c' : x.num ≤ (x.den : Int) := by exact_mod_cast c
  have d' : 0 ≤ x.num := by exact_mod_cast d
  exact ⟨by omega, hd⟩
theorem bin_int (p : Rat) : ∀ n i, ∃ z : Int, binQ p n i * ((p.den ^ n : Nat) : Rat) = z
  | 0, 0 => ⟨1, by show (1 : Rat) * ((1 : Nat) : Rat) = ((1 : Int) : Rat); decide +kernel⟩
  | 0, _ + 1 => ⟨0, by show (0 : Rat) * ((1 : Nat) : Rat) = ((0 : Int) : Rat); decide +kernel⟩
  | n + 1, 0 => by
    obtain ⟨z, hz⟩ := bin_int p n 0
    refine ⟨z * (p.den - p.num), ?_⟩
    have hp := mul_den_num p
    show binQ p n 0 * (1 - p) * _ = _
    rw [Nat.pow_succ, Rat.natCast_mul, Rat.intCast_mul, Rat.intCast_sub, ← hz, Rat.intCast_natCast]
    grind
  | n + 1, i + 1 => by
    obtain ⟨z, hz⟩ := bin_int p n (i + 1)
    obtain ⟨u, hu⟩ := bin_int p n i
    refine ⟨z * (p.den - p.num) + u * p.num, ?_⟩
    have hp := mul_den_num p
    show (binQ p n (i + 1) * (1 - p) + binQ p n i * p) * _ = _
    rw [Nat.pow_succ, Rat.natCast_mul, Rat.intCast_add, Rat.intCast_mul, Rat.intCast_mul, Rat.intCast_sub, ← hz, ← hu, Rat.intCast_natCast]
    grind
theorem bin_bd {p : Rat} (h0 : 0 ≤ p) (h1 : p ≤ 1) (n i : Nat) : 0 ≤ binQ p n i ∧ binQ p n i ≤ 1 := by
  have a := tlQ_step p n i
  have b := tlQ_bd h0 h1 n i
  have c := tlQ_bd h0 h1 n (i + 1)
  constructor <;> grind
theorem bin_num {p : Rat} (h0 : 0 ≤ p) (h1 : p ≤ 1) (n i : Nat) : (binQ p n i).num.natAbs ≤ p.den ^ n ∧ (binQ p n i).den ≤ p.den ^ n := by
  obtain ⟨z, hz⟩ := bin_int p n i
  exact part_bd1 (Nat.pow_pos p.den_pos) hz (bin_bd h0 h1 n i).1 (bin_bd h0 h1 n i).2
end Go.Proofs.YtmnipggjjcmjkaaGreat
