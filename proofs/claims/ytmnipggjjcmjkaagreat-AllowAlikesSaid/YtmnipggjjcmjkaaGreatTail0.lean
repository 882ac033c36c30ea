/-
  Tails as the program's lists have them; ranks and coupons as plain functions; sizes. No function of the program is walked here.
-/
import Derived.Test.YtmnipggjjcmjkaaGreatPlainTail
import Derived.Test.YtmnipggjjcmjkaaGreatPkScan
import Derived.Test.YtmnipggjjcmjkaaGreatPkGr
set_option linter.unusedSimpArgs false
set_option linter.unusedVariables false
namespace Go.Proofs.YtmnipggjjcmjkaaGreat
open Go.RowKit Dg

/-- The chances of 0, 1, .. n events. -/
def binL (p : Rat) (n : Nat) : List Rat := (List.range (n + 1)).map (binQ p n)
/-- .. of one event more: the first j of them. -/
def nxL (p : Rat) (n j : Nat) : List Rat := (List.range j).map (binQ p (n + 1))
theorem binL_len (p : Rat) (n : Nat) : (binL p n).length = n + 1 := by simp [binL]
theorem nxL_len (p : Rat) (n j : Nat) : (nxL p n j).length = j := by simp [nxL]
theorem nxL_succ (p : Rat) (n j : Nat) : nxL p n (j + 1) = nxL p n j ++ [binQ p (n + 1) j] := by unfold nxL; rw [List.range_succ, List.map_append]; rfl
theorem nxL_all (p : Rat) (n : Nat) : nxL p n (n + 2) = binL p (n + 1) := rfl
theorem binL_at {p : Rat} {n i : Nat} (h : i ≤ n) : nthQ (binL p n) i = binQ p n i := by
  unfold nthQ binL
  rw [List.getD_eq_getElem?_getD, List.getElem?_map, List.getElem?_range (by omega)]; rfl
theorem binL_zero (p : Rat) : binL p 0 = [1] := rfl
theorem nx_first (p : Rat) (n : Nat) : binQ p (n + 1) 0 = nthQ (binL p n) 0 * (1 - p) := by rw [binL_at (Nat.zero_le _)]; rfl
theorem nx_mid {p : Rat} {n j : Nat} (h0 : 0 < j) (h1 : j ≤ n) : binQ p (n + 1) j = nthQ (binL p n) j * (1 - p) + nthQ (binL p n) (j - 1) * p := by
  obtain ⟨i, rfl⟩ : ∃ i, j = i + 1 := ⟨j - 1, by omega⟩
  rw [binL_at h1, binL_at (show i + 1 - 1 ≤ n by omega)]; rfl
theorem nx_last {p : Rat} {n j : Nat} (h : n < j) (h1 : j ≤ n + 1) : binQ p (n + 1) j = 0 + nthQ (binL p n) (j - 1) * p := by
  obtain rfl : j = n + 1 := by omega
  rw [binL_at (show n + 1 - 1 ≤ n by omega)]
  show binQ p n (n + 1) * (1 - p) + binQ p n n * p = _
  rw [binQ_far p n (n + 1) (by omega), show n + 1 - 1 = n by omega]; grind
theorem bin_sz {p : Rat} (h0 : 0 ≤ p) (h1 : p ≤ 1) (sp : SzQ 1 p) (n i : Nat) : SzQ (n + 1) (binQ p n i) := by
  have a := bin_num h0 h1 n i
  have b : p.den ^ n ≤ 4294967296 ^ n := Nat.pow_le_pow_left (by have := sp.2; simp at this; omega) n
  have c : 4294967296 ^ n < 4294967296 ^ (n + 1) := Nat.pow_lt_pow_right (by decide) (by omega)
  exact ⟨by omega, by omega⟩
theorem binL_sz {p : Rat} (h0 : 0 ≤ p) (h1 : p ≤ 1) (sp : SzQ 1 p) {n : Nat} (i : Nat) (hi : i < (binL p n).length) : SzQ (n + 1) (nthQ (binL p n) i) := by
  rw [binL_len] at hi
  rw [binL_at (by omega)]
  exact bin_sz h0 h1 sp n i
theorem sum_sz {p : Rat} (h0 : 0 ≤ p) (h1 : p ≤ 1) (sp : SzQ 1 p) (n a : Nat) : ∀ m, SzQ (m * (n + 2) + 1) (sumF (binQ p n) a m)
  | 0 => szQ_zero.mono (by omega)
  | m + 1 => (SzQ.add (sum_sz h0 h1 sp n a m) (bin_sz h0 h1 sp n (a + m))).mono (by rw [Nat.succ_mul]; omega)
theorem binL_mid {p : Rat} (h0 : 0 ≤ p) (h1 : p ≤ 1) (sp : SzQ 1 p) {n : Nat} (hn : n ≤ 64) (i : Nat) (hi : i < (binL p n).length) : SzQ 100 (nthQ (binL p n) i) := (binL_sz h0 h1 sp i hi).mono (by omega)
theorem sum_mid {p : Rat} (h0 : 0 ≤ p) (h1 : p ≤ 1) (sp : SzQ 1 p) {n : Nat} (hn : n ≤ 64) (a m : Nat) (hm : m ≤ 65) : SzQ 5000 (sumF (binQ p n) a m) := (sum_sz h0 h1 sp n a m).mono (by
  have := Nat.mul_le_mul hm (show n + 2 ≤ 66 by omega)
  omega)
theorem sum_next {p : Rat} {n k j : Nat} (h : k ≤ j) (hj : j ≤ n) : sumF (binQ p n) k (j - k) + nthQ (binL p n) j = sumF (binQ p n) k (j + 1 - k) := by
  rw [show j + 1 - k = (j - k) + 1 by omega, binL_at hj]
  show _ = sumF (binQ p n) k (j - k) + binQ p n (k + (j - k))
  rw [show k + (j - k) = j by omega]
/-- The chance that at least k of n events happen, for any number k. -/
def tailQ (n : Nat) (k : Int) (p : Rat) : Rat := if k ≤ 0 then 1 else tlQ p n k.toNat
theorem tailQ_le {n : Nat} {k : Int} {p : Rat} (h : k ≤ 0) : tailQ n k p = 1 := if_pos h
theorem tailQ_gt {n k : Nat} {p : Rat} (h : 0 < k) : tailQ n k p = tlQ p n k := by unfold tailQ; rw [if_neg (by omega)]; rfl
theorem tailQ_nat (n k : Nat) (p : Rat) : tailQ n k p = tlQ p n k := by
  by_cases h : 0 < k
  · exact tailQ_gt h
  · obtain rfl : k = 0 := by omega
    rw [tlQ_zero]; exact tailQ_le (by omega)
theorem tl_num {p : Rat} (h0 : 0 ≤ p) (h1 : p ≤ 1) (n : Nat) : ∀ k, ∃ z : Int, tlQ p n k * ((p.den ^ n : Nat) : Rat) = z := fun k => by
  have h : ∀ m, ∃ z : Int, sumF (binQ p n) k m * ((p.den ^ n : Nat) : Rat) = z := fun m => by
    induction m with
    | zero => exact ⟨0, by show (0 : Rat) * _ = ((0 : Int) : Rat); rw [Rat.zero_mul]; rfl⟩
    | succ m ih =>
      obtain ⟨z, hz⟩ := ih
      obtain ⟨u, hu⟩ := bin_int p n (k + m)
      refine ⟨z + u, ?_⟩
      show (sumF (binQ p n) k m + binQ p n (k + m)) * _ = _
      rw [Rat.add_mul, hz, hu, Rat.intCast_add]
  rw [← sum_tail p (show n < k + (n + 1) by omega)]
  exact h _
theorem tl_sz {p : Rat} (h0 : 0 ≤ p) (h1 : p ≤ 1) (sp : SzQ 1 p) (n k : Nat) : SzQ (n + 1) (tlQ p n k) := by
  obtain ⟨z, hz⟩ := tl_num h0 h1 n k
  have a := part_bd1 (Nat.pow_pos p.den_pos) hz (tlQ_bd h0 h1 n k).1 (tlQ_bd h0 h1 n k).2.1
  have b : p.den ^ n ≤ 4294967296 ^ n := Nat.pow_le_pow_left (by have := sp.2; simp at this; omega) n
  have c : 4294967296 ^ n < 4294967296 ^ (n + 1) := Nat.pow_lt_pow_right (by decide) (by omega)
  exact ⟨by omega, by omega⟩
theorem tail_sz {p : Rat} (h0 : 0 ≤ p) (h1 : p ≤ 1) (sp : SzQ 1 p) (n : Nat) (k : Int) : SzQ (n + 1) (tailQ n k p) := by
  unfold tailQ
  split
  · exact szQ_one.mono (by omega)
  · exact tl_sz h0 h1 sp n _
/-- The greatest rank up to r whose tail reaches c; 0: none. -/
def rkF (p : Rat) (n : Nat) (c : Rat) : Nat → Nat
  | 0 => 0
  | r + 1 => if c ≤ tlQ p n (r + 1) then r + 1 else rkF p n c r
theorem rkF_yes {p c : Rat} {n r : Nat} (h : c ≤ tlQ p n (r + 1)) : rkF p n c (r + 1) = r + 1 := if_pos h
theorem rkF_no {p c : Rat} {n r : Nat} (h : ¬ c ≤ tlQ p n (r + 1)) : rkF p n c (r + 1) = rkF p n c r := if_neg h
theorem rkF_le (p c : Rat) (n : Nat) : ∀ r, rkF p n c r ≤ r
  | 0 => Nat.le_refl _
  | r + 1 => by unfold rkF; split; exact Nat.le_refl _; exact Nat.le_succ_of_le (rkF_le p c n r)
theorem rkF_tail {p c : Rat} {n : Nat} : ∀ r, 0 < rkF p n c r → c ≤ tlQ p n (rkF p n c r)
  | 0, h => absurd h (Nat.lt_irrefl _)
  | r + 1, h => by
    by_cases e : c ≤ tlQ p n (r + 1)
    · rw [rkF_yes e]; exact e
    · rw [rkF_no e] at h ⊢; exact rkF_tail r h
theorem rkF_max {p c : Rat} {n s : Nat} (hs : c ≤ tlQ p n s) : ∀ r, s ≤ r → s ≤ rkF p n c r
  | 0, h => by omega
  | r + 1, h => by
    by_cases e : c ≤ tlQ p n (r + 1)
    · rw [rkF_yes e]; exact h
    · rw [rkF_no e]
      by_cases e2 : s = r + 1
      · subst e2; exact absurd hs e
      · exact rkF_max hs r (by omega)
/-- A higher confidence, or a smaller chance, has no greater rank. -/
theorem rkF_mono {p q c d : Rat} (h0 : 0 ≤ q) (h1 : q ≤ p) (h2 : p ≤ 1) (hc : c ≤ d) (n r : Nat) : rkF q n d r ≤ rkF p n c r := by
  by_cases e : 0 < rkF q n d r
  · have a := rkF_tail r e
    exact rkF_max (Rat.le_trans hc (Rat.le_trans a (tlQ_mono h0 h1 h2 n _))) r (rkF_le q d n r)
  · omega
/-- The least of the m numbers from n on for which the tail from r on reaches c; 0: none. -/
def cpF (p : Rat) (r : Nat) (c : Rat) : Nat → Nat → Nat
  | 0, _ => 0
  | m + 1, n => if c ≤ tlQ p n r then n else cpF p r c m (n + 1)
theorem cpF_yes {p c : Rat} {r m n : Nat} (h : c ≤ tlQ p n r) : cpF p r c (m + 1) n = n := if_pos h
theorem cpF_no {p c : Rat} {r m n : Nat} (h : ¬ c ≤ tlQ p n r) : cpF p r c (m + 1) n = cpF p r c m (n + 1) := if_neg h
theorem cpF_bd (p c : Rat) (r : Nat) : ∀ m n, cpF p r c m n = 0 ∨ (n ≤ cpF p r c m n ∧ cpF p r c m n < n + m)
  | 0, _ => .inl rfl
  | m + 1, n => by
    by_cases e : c ≤ tlQ p n r
    · rw [cpF_yes e]; exact .inr ⟨Nat.le_refl _, by omega⟩
    · rw [cpF_no e]
      rcases cpF_bd p c r m (n + 1) with h | h
      · exact .inl h
      · exact .inr ⟨by omega, by omega⟩
theorem cpF_mono {p q c d : Rat} (h0 : 0 ≤ q) (h1 : q ≤ p) (h2 : p ≤ 1) (hc : c ≤ d) (r : Nat) : ∀ m n, 0 < n → cpF q r d m n ≠ 0 → cpF p r c m n ≠ 0 ∧ cpF p r c m n ≤ cpF q r d m n
  | 0, _, _, h => absurd rfl h
  | m + 1, n, hn, h => by
    by_cases e : d ≤ tlQ q n r
    · have e2 : c ≤ tlQ p n r := Rat.le_trans hc (Rat.le_trans e (tlQ_mono h0 h1 h2 n r))
      rw [cpF_yes e, cpF_yes e2]; exact ⟨by omega, Nat.le_refl _⟩
    · rw [cpF_no e] at h ⊢
      by_cases e2 : c ≤ tlQ p n r
      · rw [cpF_yes e2]
        rcases cpF_bd q d r m (n + 1) with k | k
        · exact absurd k h
        · exact ⟨by omega, by omega⟩
      · rw [cpF_no e2]; exact cpF_mono h0 h1 h2 hc r m (n + 1) (by omega) h
end Go.Proofs.YtmnipggjjcmjkaaGreat
