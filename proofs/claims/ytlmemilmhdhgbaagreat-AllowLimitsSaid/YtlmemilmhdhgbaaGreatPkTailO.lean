/-
  Tails: the chances of events, one after the other; how they rise and fall; how great the numbers get. No program is in sight here.
-/
import Derived.Test.YtlmemilmhdhgbaaGreatPkScanO
import Derived.Test.YtlmemilmhdhgbaaGreatPkGrO
set_option linter.unusedSimpArgs false
set_option linter.unusedVariables false
namespace Go.Proofs.YtlmemilmhdhgbaaGreat
def binQ (p : Rat) : Nat → Nat → Rat
  | 0, 0 => 1
  | 0, _ + 1 => 0
  | n + 1, 0 => binQ p n 0 * (1 - p)
  | n + 1, i + 1 => binQ p n (i + 1) * (1 - p) + binQ p n i * p
def tlQ (p : Rat) : Nat → Nat → Rat
  | _, 0 => 1
  | 0, _ + 1 => 0
  | n + 1, k + 1 => tlQ p n (k + 1) * (1 - p) + tlQ p n k * p
def sumF (f : Nat → Rat) (a : Nat) : Nat → Rat
  | 0 => 0
  | m + 1 => sumF f a m + f (a + m)
theorem binQ_far (p : Rat) : ∀ n i, n < i → binQ p n i = 0
  | 0, 0, h => absurd h (Nat.lt_irrefl _)
  | 0, _ + 1, _ => rfl
  | n + 1, 0, h => absurd h (Nat.not_lt_zero _)
  | n + 1, i + 1, h => by
    show binQ p n (i + 1) * (1 - p) + binQ p n i * p = 0
    rw [binQ_far p n (i + 1) (by omega), binQ_far p n i (by omega)]; grind
theorem tlQ_far (p : Rat) : ∀ n k, n < k → tlQ p n k = 0
  | _, 0, h => absurd h (Nat.not_lt_zero _)
  | 0, _ + 1, _ => rfl
  | n + 1, k + 1, h => by
    show tlQ p n (k + 1) * (1 - p) + tlQ p n k * p = 0
    rw [tlQ_far p n (k + 1) (by omega), tlQ_far p n k (by omega)]; grind
theorem tlQ_step (p : Rat) : ∀ n k, tlQ p n k = tlQ p n (k + 1) + binQ p n k
  | 0, 0 => by show (1 : Rat) = 0 + 1; grind
  | 0, k + 1 => by show (0 : Rat) = 0 + 0; grind
  | n + 1, 0 => by
    have h := tlQ_step p n 0
    show (1 : Rat) = (tlQ p n 1 * (1 - p) + tlQ p n 0 * p) + binQ p n 0 * (1 - p)
    have h0 : tlQ p n 0 = 1 := by cases n <;> rfl
    grind
  | n + 1, k + 1 => by
    have h := tlQ_step p n (k + 1)
    have h' := tlQ_step p n k
    show tlQ p n (k + 1) * (1 - p) + tlQ p n k * p = (tlQ p n (k + 2) * (1 - p) + tlQ p n (k + 1) * p) + (binQ p n (k + 1) * (1 - p) + binQ p n k * p)
    grind
theorem tlQ_zero (p : Rat) (n : Nat) : tlQ p n 0 = 1 := by cases n <;> rfl
theorem sum_bin (p : Rat) (n k : Nat) : ∀ m, sumF (binQ p n) k m + tlQ p n (k + m) = tlQ p n k
  | 0 => by show (0 : Rat) + _ = _; rw [Nat.add_zero]; grind
  | m + 1 => by
    have h := sum_bin p n k m
    have h' := tlQ_step p n (k + m)
    show sumF (binQ p n) k m + binQ p n (k + m) + tlQ p n (k + m + 1) = _
    grind
theorem sum_tail (p : Rat) {n k m : Nat} (h : n < k + m) : sumF (binQ p n) k m = tlQ p n k := by
  have := sum_bin p n k m
  rw [tlQ_far p n _ h] at this
  grind
section
variable {p : Rat} (h0 : 0 ≤ p) (h1 : p ≤ 1)
include h0 h1
theorem tlQ_bd : ∀ n k, 0 ≤ tlQ p n k ∧ tlQ p n k ≤ 1 ∧ tlQ p n (k + 1) ≤ tlQ p n k
  | 0, 0 => by show (0 : Rat) ≤ 1 ∧ (1 : Rat) ≤ 1 ∧ (0 : Rat) ≤ 1; decide +kernel
  | 0, k + 1 => by show (0 : Rat) ≤ 0 ∧ (0 : Rat) ≤ 1 ∧ (0 : Rat) ≤ 0; decide +kernel
  | n + 1, 0 => by
    have a := tlQ_bd n 0
    have b := tlQ_bd n 1
    have h2 := Rat.mul_nonneg b.1 (show 0 ≤ 1 - p by grind)
    have h3 := Rat.mul_nonneg a.1 h0
    have h4 := Rat.mul_nonneg (show 0 ≤ 1 - tlQ p n 1 by grind) (show 0 ≤ 1 - p by grind)
    show (0 : Rat) ≤ 1 ∧ (1 : Rat) ≤ 1 ∧ tlQ p n 1 * (1 - p) + tlQ p n 0 * p ≤ 1
    rw [tlQ_zero] at *
    refine ⟨by decide +kernel, by decide +kernel, by grind⟩
  | n + 1, k + 1 => by
    have a := tlQ_bd n k
    have b := tlQ_bd n (k + 1)
    have h2 := Rat.mul_nonneg b.1 (show 0 ≤ 1 - p by grind)
    have h3 := Rat.mul_nonneg a.1 h0
    have h4 := Rat.mul_nonneg (show 0 ≤ 1 - tlQ p n (k + 1) by grind) (show 0 ≤ 1 - p by grind)
    have h5 := Rat.mul_nonneg (show 0 ≤ 1 - tlQ p n k by grind) h0
    have h6 := Rat.mul_nonneg (show 0 ≤ tlQ p n (k + 1) - tlQ p n (k + 2) by grind) (show 0 ≤ 1 - p by grind)
    have h7 := Rat.mul_nonneg (show 0 ≤ tlQ p n k - tlQ p n (k + 1) by grind) h0
    show (0 : Rat) ≤ tlQ p n (k + 1) * (1 - p) + tlQ p n k * p ∧ tlQ p n (k + 1) * (1 - p) + tlQ p n k * p ≤ 1 ∧ tlQ p n (k + 2) * (1 - p) + tlQ p n (k + 1) * p ≤ tlQ p n (k + 1) * (1 - p) + tlQ p n k * p
    refine ⟨by grind, by grind, by grind⟩
end
theorem mul_den_num (p : Rat) : p * (p.den : Rat) = (p.num : Rat) := by
  have h : mkRat p.num p.den = p := Rat.mkRat_self p
  have h2 : mkRat p.num p.den = (p.num : Rat) / (p.den : Rat) := Rat.mkRat_eq_div _ _
  have h3 : (p.den : Rat) ≠ 0 := by exact_mod_cast p.den_nz
  have h4 : (p.num : Rat) / (p.den : Rat) = p := by rw [← h2]; exact h
  have h5 : (p.num : Rat) / (p.den : Rat) * (p.den : Rat) = p.num := Rat.div_mul_cancel h3
  rw [h4] at h5
  exact h5
theorem part_bd1 {x : Rat} {D : Nat} {z : Int} (hD : 0 < D) (h : x * (D : Rat) = z) (h0 : 0 ≤ x) (h1 : x ≤ 1) : x.num.natAbs ≤ D ∧ x.den ≤ D := by
  have hD' : (D : Rat) ≠ 0 := by exact_mod_cast (show D ≠ 0 by omega)
  have e : x = mkRat z D := by
    rw [Rat.mkRat_eq_div, ← h]
    have : x * (D : Rat) / (D : Rat) = x := by
      have := Rat.div_mul_cancel (a := x * (D : Rat)) hD'
      grind
    exact this.symm
  have hd : x.den ≤ D := by
    rw [e, Rat.den_mkRat, if_neg (by omega)]
    exact Nat.div_le_self _ _
  have hn := mul_den_num x
  have hdp : (0 : Rat) ≤ (x.den : Rat) := by exact_mod_cast Nat.zero_le _
  have a := Rat.mul_nonneg h0 hdp
  have b := Rat.mul_nonneg (show 0 ≤ 1 - x by grind) hdp
  have c : (x.num : Rat) ≤ (x.den : Rat) := by grind
  have d : (0 : Rat) ≤ (x.num : Rat) := by grind
  have c' : x.num ≤ (x.den : Int) := by exact_mod_cast c
  have d' : 0 ≤ x.num := by exact_mod_cast d
  exact ⟨by omega, hd⟩
theorem bin_int (p : Rat) : ∀ n i, ∃ z : Int, binQ p n i * ((p.den ^ n : Nat) : Rat) = z
  | 0, 0 => ⟨1, by show (1 : Rat) * ((1 : Nat) : Rat) = ((1 : Int) : Rat); decide +kernel⟩
  | 0, _ + 1 => ⟨0, by show (0 : Rat) * ((1 : Nat) : Rat) = ((0 : Int) : Rat); decide +kernel⟩
  | n + 1, 0 => by
    obtain ⟨z, hz⟩ := bin_int p n 0
    refine ⟨z * (p.den - p.num), ?_⟩
    have hp := mul_den_num p
    show binQ p n 0 * (1 - p) * _ = _
    rw [Nat.pow_succ, Rat.natCast_mul, Rat.intCast_mul, Rat.intCast_sub, ← hz, Rat.intCast_natCast]
    grind
  | n + 1, i + 1 => by
    obtain ⟨z, hz⟩ := bin_int p n (i + 1)
    obtain ⟨u, hu⟩ := bin_int p n i
    refine ⟨z * (p.den - p.num) + u * p.num, ?_⟩
    have hp := mul_den_num p
    show (binQ p n (i + 1) * (1 - p) + binQ p n i * p) * _ = _
    rw [Nat.pow_succ, Rat.natCast_mul, Rat.intCast_add, Rat.intCast_mul, Rat.intCast_mul, Rat.intCast_sub, ← hz, ← hu, Rat.intCast_natCast]
    grind
theorem bin_bd {p : Rat} (h0 : 0 ≤ p) (h1 : p ≤ 1) (n i : Nat) : 0 ≤ binQ p n i ∧ binQ p n i ≤ 1 := by
  have a := tlQ_step p n i
  have b := tlQ_bd h0 h1 n i
  have c := tlQ_bd h0 h1 n (i + 1)
  constructor <;> grind
theorem bin_num {p : Rat} (h0 : 0 ≤ p) (h1 : p ≤ 1) (n i : Nat) : (binQ p n i).num.natAbs ≤ p.den ^ n ∧ (binQ p n i).den ≤ p.den ^ n := by
  obtain ⟨z, hz⟩ := bin_int p n i
  exact part_bd1 (Nat.pow_pos p.den_pos) hz (bin_bd h0 h1 n i).1 (bin_bd h0 h1 n i).2
end Go.Proofs.YtlmemilmhdhgbaaGreat
namespace Go.Proofs.YtlmemilmhdhgbaaGreat
open Go.RowKit Dg
def binL (p : Rat) (n : Nat) : List Rat := (List.range (n + 1)).map (binQ p n)
def nxL (p : Rat) (n j : Nat) : List Rat := (List.range j).map (binQ p (n + 1))
theorem binL_len (p : Rat) (n : Nat) : (binL p n).length = n + 1 := by simp [binL]
theorem nxL_len (p : Rat) (n j : Nat) : (nxL p n j).length = j := by simp [nxL]
theorem nxL_succ (p : Rat) (n j : Nat) : nxL p n (j + 1) = nxL p n j ++ [binQ p (n + 1) j] := by unfold nxL; rw [List.range_succ, List.map_append]; rfl
theorem nxL_all (p : Rat) (n : Nat) : nxL p n (n + 2) = binL p (n + 1) := rfl
theorem binL_at {p : Rat} {n i : Nat} (h : i ≤ n) : nthQ (binL p n) i = binQ p n i := by
  unfold nthQ binL
  rw [List.getD_eq_getElem?_getD, List.getElem?_map, List.getElem?_range (by omega)]; rfl
theorem nx_first (p : Rat) (n : Nat) : binQ p (n + 1) 0 = nthQ (binL p n) 0 * (1 - p) := by rw [binL_at (Nat.zero_le _)]; rfl
theorem nx_mid {p : Rat} {n j : Nat} (h0 : 0 < j) (h1 : j ≤ n) : binQ p (n + 1) j = nthQ (binL p n) j * (1 - p) + nthQ (binL p n) (j - 1) * p := by
  obtain ⟨i, rfl⟩ : ∃ i, j = i + 1 := ⟨j - 1, by omega⟩
  rw [binL_at h1, binL_at (show i + 1 - 1 ≤ n by omega)]; rfl
theorem nx_last {p : Rat} {n j : Nat} (h : n < j) (h1 : j ≤ n + 1) : binQ p (n + 1) j = 0 + nthQ (binL p n) (j - 1) * p := by
  obtain rfl : j = n + 1 := by omega
  rw [binL_at (show n + 1 - 1 ≤ n by omega)]
  show binQ p n (n + 1) * (1 - p) + binQ p n n * p = _
  rw [binQ_far p n (n + 1) (by omega), show n + 1 - 1 = n by omega]; grind
theorem bin_sz {p : Rat} (h0 : 0 ≤ p) (h1 : p ≤ 1) (sp : SzQ 1 p) (n i : Nat) : SzQ (n + 1) (binQ p n i) := by
  have a := bin_num h0 h1 n i
  have b : p.den ^ n ≤ 4294967296 ^ n := Nat.pow_le_pow_left (by have := sp.2; simp at this; omega) n
  have c : 4294967296 ^ n < 4294967296 ^ (n + 1) := Nat.pow_lt_pow_right (by decide) (by omega)
  exact ⟨by omega, by omega⟩
theorem binL_sz {p : Rat} (h0 : 0 ≤ p) (h1 : p ≤ 1) (sp : SzQ 1 p) {n : Nat} (i : Nat) (hi : i < (binL p n).length) : SzQ (n + 1) (nthQ (binL p n) i) := by
  rw [binL_len] at hi
  rw [binL_at (by omega)]
  exact bin_sz h0 h1 sp n i
theorem sum_sz {p : Rat} (h0 : 0 ≤ p) (h1 : p ≤ 1) (sp : SzQ 1 p) (n a : Nat) : ∀ m, SzQ (m * (n + 2) + 1) (sumF (binQ p n) a m)
  | 0 => szQ_zero.mono (by omega)
  | m + 1 => (SzQ.add (sum_sz h0 h1 sp n a m) (bin_sz h0 h1 sp n (a + m))).mono (by rw [Nat.succ_mul]; omega)
theorem binL_mid {p : Rat} (h0 : 0 ≤ p) (h1 : p ≤ 1) (sp : SzQ 1 p) {n : Nat} (hn : n ≤ 64) (i : Nat) (hi : i < (binL p n).length) : SzQ 100 (nthQ (binL p n) i) := (binL_sz h0 h1 sp i hi).mono (by omega)
theorem sum_mid {p : Rat} (h0 : 0 ≤ p) (h1 : p ≤ 1) (sp : SzQ 1 p) {n : Nat} (hn : n ≤ 64) (a m : Nat) (hm : m ≤ 65) : SzQ 5000 (sumF (binQ p n) a m) := (sum_sz h0 h1 sp n a m).mono (by
  have := Nat.mul_le_mul hm (show n + 2 ≤ 66 by omega)
  omega)
theorem sum_next {p : Rat} {n k j : Nat} (h : k ≤ j) (hj : j ≤ n) : sumF (binQ p n) k (j - k) + nthQ (binL p n) j = sumF (binQ p n) k (j + 1 - k) := by
  rw [show j + 1 - k = (j - k) + 1 by omega, binL_at hj]
  show _ = sumF (binQ p n) k (j - k) + binQ p n (k + (j - k))
  rw [show k + (j - k) = j by omega]
def tailQ (n : Nat) (k : Int) (p : Rat) : Rat := if k ≤ 0 then 1 else tlQ p n k.toNat
theorem tailQ_le {n : Nat} {k : Int} {p : Rat} (h : k ≤ 0) : tailQ n k p = 1 := if_pos h
theorem tailQ_gt {n k : Nat} {p : Rat} (h : 0 < k) : tailQ n k p = tlQ p n k := by unfold tailQ; rw [if_neg (by omega)]; rfl
theorem tl_num {p : Rat} (h0 : 0 ≤ p) (h1 : p ≤ 1) (n : Nat) : ∀ k, ∃ z : Int, tlQ p n k * ((p.den ^ n : Nat) : Rat) = z := fun k => by
  have h : ∀ m, ∃ z : Int, sumF (binQ p n) k m * ((p.den ^ n : Nat) : Rat) = z := fun m => by
    induction m with
    | zero => exact ⟨0, by show (0 : Rat) * _ = ((0 : Int) : Rat); rw [Rat.zero_mul]; rfl⟩
    | succ m ih =>
      obtain ⟨z, hz⟩ := ih
      obtain ⟨u, hu⟩ := bin_int p n (k + m)
      refine ⟨z + u, ?_⟩
      show (sumF (binQ p n) k m + binQ p n (k + m)) * _ = _
      rw [Rat.add_mul, hz, hu, Rat.intCast_add]
  rw [← sum_tail p (show n < k + (n + 1) by omega)]
  exact h _
theorem tl_sz {p : Rat} (h0 : 0 ≤ p) (h1 : p ≤ 1) (sp : SzQ 1 p) (n k : Nat) : SzQ (n + 1) (tlQ p n k) := by
  obtain ⟨z, hz⟩ := tl_num h0 h1 n k
  have a := part_bd1 (Nat.pow_pos p.den_pos) hz (tlQ_bd h0 h1 n k).1 (tlQ_bd h0 h1 n k).2.1
  have b : p.den ^ n ≤ 4294967296 ^ n := Nat.pow_le_pow_left (by have := sp.2; simp at this; omega) n
  have c : 4294967296 ^ n < 4294967296 ^ (n + 1) := Nat.pow_lt_pow_right (by decide) (by omega)
  exact ⟨by omega, by omega⟩
theorem tail_sz {p : Rat} (h0 : 0 ≤ p) (h1 : p ≤ 1) (sp : SzQ 1 p) (n : Nat) (k : Int) : SzQ (n + 1) (tailQ n k p) := by
  unfold tailQ
  split
  · exact szQ_one.mono (by omega)
  · exact tl_sz h0 h1 sp n _
def rkF (p : Rat) (n : Nat) (c : Rat) : Nat → Nat
  | 0 => 0
  | r + 1 => if c ≤ tlQ p n (r + 1) then r + 1 else rkF p n c r
theorem rkF_yes {p c : Rat} {n r : Nat} (h : c ≤ tlQ p n (r + 1)) : rkF p n c (r + 1) = r + 1 := if_pos h
theorem rkF_no {p c : Rat} {n r : Nat} (h : ¬ c ≤ tlQ p n (r + 1)) : rkF p n c (r + 1) = rkF p n c r := if_neg h
theorem rkF_le (p c : Rat) (n : Nat) : ∀ r, rkF p n c r ≤ r
  | 0 => Nat.le_refl _
  | r + 1 => by unfold rkF; split; exact Nat.le_refl _; exact Nat.le_succ_of_le (rkF_le p c n r)
end Go.Proofs.YtlmemilmhdhgbaaGreat
