/-
  The words of float64: their bits, whether they stand for a number, and for which one. No function of the program is in sight here.
-/
import Derived.Test.YtkfekkhhfpkfaaaGreatPkGrQ
import Derived.Test.YtkfekkhhfpkfaaaGreatPkFloatQ
import Derived.Laws.Bits64b
import Ieee.Arith
import Derived.Laws.BitsAllLaws
import Derived.Laws.FloatArith
import Derived.Laws.NewFold
set_option linter.unusedSimpArgs false
set_option linter.unusedVariables false
set_option maxRecDepth 100000
set_option maxHeartbeats 4000000
namespace Go.Proofs.YtkfekkhhfpkfaaaGreat
open Go.RowKit Dg
def flM (b : Nat) : Nat := b % 4503599627370496
def flE (b : Nat) : Nat := b / 4503599627370496 % 2048
def flS (b : Nat) : Bool := decide (b / 9223372036854775808 = 1)
def flN (b : Nat) : Nat := if flE b = 0 then flM b else flM b + 4503599627370496
def flX (b : Nat) : Nat := if flE b = 0 then 1 else flE b
def flQ (b : Nat) : Rat := if 1075 ≤ flX b then mkQ (flS b) (flN b * 2 ^ (flX b - 1075)) 1 else mkQ (flS b) (flN b) (2 ^ (1075 - flX b))
theorem flM_lt (b : Nat) : flM b < 4503599627370496 := Nat.mod_lt _ (by decide)
theorem flE_lt (b : Nat) : flE b < 2048 := Nat.mod_lt _ (by decide)
theorem flN_lt (b : Nat) : flN b < 9007199254740992 := by
  have := flM_lt b
  unfold flN
  split <;> omega
theorem flX_bd (b : Nat) (h : flE b ≠ 2047) : 1 ≤ flX b ∧ flX b ≤ 2046 := by
  have := flE_lt b
  unfold flX
  split <;> omega
theorem band52 {b : Nat} (h : b < 18446744073709551616) : bits BinOp.and IntKind.u64 (b : Int) 4503599627370495 = (flM b : Int) := by
  rw [show (4503599627370495 : Int) = ((4503599627370495 : Nat) : Int) from rfl, bits_and_u64_nat _ _ h (by decide)]
  exact congrArg _ (Nat.and_two_pow_sub_one_eq_mod b 52)
theorem band11 {b : Nat} (h : b < 18446744073709551616) : bits BinOp.and IntKind.u64 ((b / 4503599627370496 : Nat) : Int) 2047 = (flE b : Int) := by
  rw [show (2047 : Int) = ((2047 : Nat) : Int) from rfl, bits_and_u64_nat _ _ (by omega) (by decide)]
  exact congrArg _ (Nat.and_two_pow_sub_one_eq_mod _ 11)
theorem bor52 {m : Nat} (h : m < 4503599627370496) : bits BinOp.or IntKind.u64 (m : Int) 4503599627370496 = ((m + 4503599627370496 : Nat) : Int) := by
  rw [show (4503599627370496 : Int) = ((4503599627370496 : Nat) : Int) from rfl, bits_or_u64_nat _ _ (by omega) (by decide)]
  have := Nat.two_pow_add_eq_or_of_lt (i := 52) (b := m) (by simpa using h) 1
  rw [Nat.or_comm, Nat.add_comm]
  exact congrArg _ this.symm
theorem pow32 (k K : Nat) (h : k ≤ 32 * K) : 2 ^ k ≤ 4294967296 ^ K := by
  rw [show (4294967296 : Nat) = 2 ^ 32 from rfl, ← Nat.pow_mul]; exact Nat.pow_le_pow_right (by decide) h
theorem flQ_sz {b : Nat} (h : flE b ≠ 2047) : SzQ 40 (flQ b) := by
  have h1 := flX_bd b h
  have h2 := flN_lt b
  unfold flQ
  split
  · refine mkQ_size _ _ _ (by decide) _ ?_ (by decide)
    have := pow32 (flX b - 1075 + 53) 32 (by omega)
    rw [Nat.pow_add] at this
    have h3 : flN b * 2 ^ (flX b - 1075) < 2 ^ (flX b - 1075) * 2 ^ 53 := by
      rw [Nat.mul_comm]; exact Nat.mul_lt_mul_of_pos_left (by omega) (Nat.two_pow_pos _)
    have h4 : (4294967296 : Nat) ^ 32 ≤ 4294967296 ^ 40 := Nat.pow_le_pow_right (by decide) (by decide)
    omega
  · have := pow32 (1075 - flX b) 34 (by omega)
    have h4 : (4294967296 : Nat) ^ 34 < 4294967296 ^ 40 := Nat.pow_lt_pow_right (by decide) (by decide)
    exact mkQ_size _ _ _ (by have := Nat.two_pow_pos (1075 - flX b); omega) _ (Nat.lt_of_lt_of_le h2 (by decide)) (by omega)
end Go.Proofs.YtkfekkhhfpkfaaaGreat
namespace Go.Proofs.YtkfekkhhfpkfaaaGreat
open Go.RowKit Dg
theorem dbl : Ieee.double.signWeight = 9223372036854775808 ∧ Ieee.double.binade = 4503599627370496 ∧ Ieee.double.infRung = 9218868437227405312 ∧ Ieee.double.leastPlace = -1074 ∧ Ieee.double.fractionBits = 52 := by decide
theorem sgl : Ieee.single.signWeight = 2147483648 ∧ Ieee.single.binade = 8388608 ∧ Ieee.single.infRung = 2139095040 ∧ Ieee.single.leastPlace = -149 ∧ Ieee.single.fractionBits = 23 := by decide
theorem rd_num {b : Nat} (h : flE b ≠ 2047) : Ieee.double.read b = .number (b / 9223372036854775808 % 2 == 1) (flN b) ((flX b : Int) - 1075) := by
  obtain ⟨e1, e2, e3, e4, _⟩ := dbl
  unfold flE at h
  simp only [Ieee.Format.read, e1, e2, e3, e4]
  by_cases h0 : b / 4503599627370496 % 2048 = 0
  · rw [if_pos (by omega)]
    unfold flN flX flE flM
    rw [if_pos h0, if_pos h0]
    congr 1
    omega
  · rw [if_neg (by omega), if_pos (by omega)]
    unfold flN flX flE flM
    rw [if_neg h0, if_neg h0]
    congr 1
    · omega
    · omega
theorem rd_inf {b : Nat} (h : flE b = 2047) (h0 : flM b = 0) : Ieee.double.read b = .infinity (b / 9223372036854775808 % 2 == 1) := by
  obtain ⟨e1, e2, e3, e4, _⟩ := dbl
  unfold flE at h
  unfold flM at h0
  simp only [Ieee.Format.read, e1, e2, e3, e4]
  rw [if_neg (by omega), if_neg (by omega), if_pos (by omega)]
theorem rd_nan {b : Nat} (h : flE b = 2047) (h0 : flM b ≠ 0) : ∃ s f, Ieee.double.read b = .nan s f := by
  obtain ⟨e1, e2, e3, e4, _⟩ := dbl
  unfold flE at h
  unfold flM at h0
  simp only [Ieee.Format.read, e1, e2, e3, e4]
  rw [if_neg (by omega), if_neg (by omega), if_neg (by omega)]
  exact ⟨_, _, rfl⟩
theorem cmp_self (x : Int) : compare x x = .eq := by simp [compare, compareOfLessAndEq]
theorem ord_fin {b : Nat} (h : flE b ≠ 2047) : Ieee.double.order b b = some .eq := by
  unfold Ieee.Format.order
  rw [rd_num h]
  simp only [Ieee.Datum.order, cmp_self]
theorem ord_inf {b : Nat} (h : flE b = 2047) (h0 : flM b = 0) : Ieee.double.order b b = some .eq := by
  unfold Ieee.Format.order
  rw [rd_inf h h0]
  cases (b / 9223372036854775808 % 2 == 1) <;> rfl
theorem ord_nan {b c : Nat} (h : flE b = 2047) (h0 : flM b ≠ 0) : Ieee.double.order b c = none := by
  obtain ⟨s, f, e⟩ := rd_nan h h0
  unfold Ieee.Format.order
  rw [e]
  cases Ieee.double.read c <;> rfl
theorem signed_le (s : Bool) (m : Nat) : Ieee.signed s m 0 ≤ (m : Int) ∧ -(m : Int) ≤ Ieee.signed s m 0 := by
  unfold Ieee.signed
  rw [Nat.shiftLeft_zero]
  cases s <;> simp <;> omega
theorem rd_max : Ieee.double.read 9218868437227405311 = .number false 9007199254740991 971 := by decide
theorem shl_ge (M k : Nat) : M ≤ M <<< k := by
  rw [Nat.shiftLeft_eq]
  exact Nat.le_mul_of_pos_right _ (Nat.two_pow_pos k)
theorem cmp_le {x y : Int} (h : x ≤ y) : compare x y ≠ .gt := by
  simp only [compare, compareOfLessAndEq]
  split
  · simp
  · split
    · simp
    · omega
theorem max_fin {b : Nat} (h : flE b ≠ 2047) : Ieee.double.order b 9218868437227405311 ≠ some .gt := by
  have h1 := flX_bd b h
  have h2 := flN_lt b
  unfold Ieee.Format.order
  rw [rd_num h, rd_max]
  simp only [Ieee.Datum.order]
  rw [show min ((flX b : Int) - 1075) 971 = (flX b : Int) - 1075 by omega, Int.sub_self]
  have h3 := signed_le (b / 9223372036854775808 % 2 == 1) (flN b)
  have h4 := shl_ge 9007199254740991 (971 - ((flX b : Int) - 1075)).toNat
  intro e
  injection e with e
  refine cmp_le ?_ e
  show Ieee.signed _ (flN b) 0 ≤ Ieee.signed false _ _
  have h5 : Ieee.signed false 9007199254740991 (971 - ((flX b : Int) - 1075)).toNat = ((9007199254740991 <<< (971 - ((flX b : Int) - 1075)).toNat : Nat) : Int) := rfl
  rw [h5]
  omega
def cvF (x : Nat) : Nat := Ieee.double.write (Ieee.single.read x)
def f32E (x : Nat) : Nat := x / 8388608 % 256
def f32N (x : Nat) : Nat := if f32E x = 0 then x % 8388608 else x % 8388608 + 8388608
def f32X (x : Nat) : Nat := if f32E x = 0 then 1 else f32E x
def f32S (x : Nat) : Bool := x / 2147483648 % 2 == 1
theorem rd32_num {x : Nat} (h : f32E x ≠ 255) : Ieee.single.read x = .number (f32S x) (f32N x) ((f32X x : Int) - 150) := by
  obtain ⟨e1, e2, e3, e4, _⟩ := sgl
  unfold f32E at h
  simp only [Ieee.Format.read, e1, e2, e3, e4]
  by_cases h0 : x / 8388608 % 256 = 0
  · rw [if_pos (by omega)]
    unfold f32N f32X f32E f32S
    rw [if_pos h0, if_pos h0]
    congr 1
    omega
  · rw [if_neg (by omega), if_pos (by omega)]
    unfold f32N f32X f32E f32S
    rw [if_neg h0, if_neg h0]
    congr 1
    · omega
    · omega
theorem f32_bd {x : Nat} (h : f32E x ≠ 255) : f32N x < 16777216 ∧ 1 ≤ f32X x ∧ f32X x ≤ 254 := by
  unfold f32N f32X
  have : f32E x < 256 := Nat.mod_lt _ (by decide)
  have : x % 8388608 < 8388608 := Nat.mod_lt _ (by decide)
  split <;> omega
theorem cut_zero (w : Ieee.Toward) (hw : w = .even) (s : Bool) (n : Nat) : w.cut s n 0 = n := by
  subst hw
  simp [Ieee.Toward.cut, Nat.mod_one]
theorem rung_bd {m l X K : Nat} (h0 : m ≠ 0) (hl : l = m.log2) (hm : m < 16777216) (hX : X ≤ 254) (hK : K = m * 2 ^ (52 - l)) : 4503599627370496 ≤ K ∧ K < 9007199254740992 ∧ l < 24 := by
  subst hl hK
  have l1 : 2 ^ m.log2 ≤ m := Nat.log2_self_le h0
  have l2 : m < 2 ^ (m.log2 + 1) := Nat.lt_log2_self
  have l3 : m.log2 < 24 := (Nat.log2_lt h0).2 (by omega)
  have k1 : 2 ^ m.log2 * 2 ^ (52 - m.log2) = 4503599627370496 := by rw [← Nat.pow_add, show m.log2 + (52 - m.log2) = 52 by omega]
  have k2 : 2 ^ (m.log2 + 1) * 2 ^ (52 - m.log2) = 9007199254740992 := by rw [← Nat.pow_add, show m.log2 + 1 + (52 - m.log2) = 53 by omega]
  have k3 := Nat.mul_le_mul_right (2 ^ (52 - m.log2)) l1
  have k4 := Nat.mul_lt_mul_of_pos_right l2 (Nat.two_pow_pos (52 - m.log2))
  rw [k1] at k3
  rw [k2] at k4
  exact ⟨k3, k4, l3⟩
theorem rung_lt {Y K : Nat} (h : Y ≤ 1149) (hK : K < 9007199254740992) : Y * 4503599627370496 + K < 9218868437227405312 := by
  have := Nat.mul_le_mul_right 4503599627370496 h
  omega
theorem cv_word {x : Nat} (h : f32E x ≠ 255) : ∃ r, cvF x = Ieee.double.word (f32S x) r ∧ r < 9218868437227405312 ∧ (f32N x = 0 → r = 0) ∧ (f32N x ≠ 0 → 4503599627370496 ≤ r) := by
  obtain ⟨e1, e2, e3, e4, e5⟩ := dbl
  obtain ⟨b1, b2, b3⟩ := f32_bd h
  unfold cvF
  rw [rd32_num h]
  unfold Ieee.Format.write Ieee.Format.nearest
  dsimp only
  generalize f32N x = m at *
  generalize f32X x = X at *
  generalize f32S x = s at *
  clear h
  by_cases h0 : m = 0
  · rw [if_pos h0]
    exact ⟨0, rfl, by omega, fun _ => rfl, fun hn => absurd h0 hn⟩
  · rw [if_neg h0, e2, e3, e4, e5]
    obtain ⟨l, hl⟩ : ∃ l, l = m.log2 := ⟨_, rfl⟩
    obtain ⟨K, hK⟩ : ∃ K, K = m * 2 ^ (52 - l) := ⟨_, rfl⟩
    obtain ⟨k1, k2, k3⟩ := rung_bd h0 hl b1 b3 hK
    rw [← hl]
    have hl1 : max ((X : Int) - 150 + (l : Int) - ((52 : Nat) : Int)) (-1074) = (X : Int) - 202 + (l : Int) := by omega
    have hl2 : (X : Int) - 150 - ((X : Int) - 202 + (l : Int)) = ((52 - l : Nat) : Int) := by omega
    have hl3 : ((X : Int) - 202 + (l : Int) - ((X : Int) - 150)).toNat = 0 := by omega
    obtain ⟨Y, hY⟩ : ∃ Y, Y = ((X : Int) - 202 + (l : Int) - -1074).toNat := ⟨_, rfl⟩
    have hY2 : Y ≤ 1149 := by omega
    rw [hl1, hl2, hl3, Int.toNat_natCast, cut_zero _ rfl, Nat.shiftLeft_eq, ← hK, ← hY]
    have hP := rung_lt hY2 k2
    exact ⟨_, rfl, Nat.lt_of_le_of_lt (Nat.min_le_left _ _) hP, fun hn => absurd hn h0, fun _ => by rw [Nat.min_eq_left (Nat.le_of_lt hP)]; exact Nat.le_trans k1 (Nat.le_add_left _ _)⟩
theorem word_E {s : Bool} {r : Nat} (hr : r < 9218868437227405312) : Ieee.double.word s r < 18446744073709551616 ∧ flE (Ieee.double.word s r) ≠ 2047 ∧ (Ieee.double.word s r / 9223372036854775808 % 2 == 1) = s ∧ flE (Ieee.double.word s r) = r / 4503599627370496 ∧ flM (Ieee.double.word s r) = r % 4503599627370496 := by
  obtain ⟨e1, e2, e3, e4, e5⟩ := dbl
  unfold Ieee.Format.word flE flM
  rw [e1]
  cases s
  · refine ⟨?_, ?_, ?_, ?_, ?_⟩ <;> simp <;> omega
  · refine ⟨?_, ?_, ?_, ?_, ?_⟩ <;> simp <;> omega
theorem cv_fin {x : Nat} (h : f32E x ≠ 255) : cvF x < 18446744073709551616 ∧ flE (cvF x) ≠ 2047 := by
  obtain ⟨r, e, hr, _⟩ := cv_word h
  rw [e]
  exact ⟨(word_E hr).1, (word_E hr).2.1⟩
end Go.Proofs.YtkfekkhhfpkfaaaGreat
namespace Go.Proofs.YtkfekkhhfpkfaaaGreat
open Go.RowKit Dg
attribute [local go_sem ↓] Go.wp_at_zero Go.wp_at_succ
theorem bandNot63 {b : Nat} (h : b < 18446744073709551616) : bits BinOp.andNot IntKind.u64 (b : Int) 9223372036854775808 = ((b % 9223372036854775808 : Nat) : Int) := by
  rw [show (9223372036854775808 : Int) = ((9223372036854775808 : Nat) : Int) from rfl, u64_andNot_nat _ _ h (by decide)]
  exact congrArg _ (Nat.and_two_pow_sub_one_eq_mod b 63)
theorem flE_abs (b : Nat) : flE (b % 9223372036854775808) = flE b ∧ flM (b % 9223372036854775808) = flM b := by
  unfold flE flM
  omega
theorem run_abs (b : Nat) (w : World) : (callFunc 167 #[.int .u64 ((b : Int) % 9223372036854775808)]).run Tryz.prog w = .ok (.value (.float .f64 (b % 9223372036854775808))) w := by
  have h := run_frombits ((b : Int) % 9223372036854775808) w
  rwa [show ((b : Int) % 9223372036854775808).toNat = b % 9223372036854775808 by omega] at h
theorem m_Abs {b : Nat} (h : b < 18446744073709551616) (w : World) : Calls Tryz.prog 126 #[.float .f64 b] w (RetV w (.float .f64 (b % 9223372036854775808))) := by
  have hb1 := run_bits
  have hb2 := run_abs b
  have H := bandNot63 h
  clear h
  go_enter Tryz.func126, Tryz.ntmps126
  go_wp2
  go_ret
  exact ⟨rfl, Below.refl _ _⟩
theorem nan_fin {b : Nat} (h : flE b ≠ 2047) (w : World) : Calls Tryz.prog 74 #[.float .f64 b] w (RetV w (.bool false)) := by
  have hO : FloatKind.f64.format.order b b = some .eq := ord_fin h
  clear h
  go_enter Tryz.func74, Tryz.ntmps74
  go_wp2
  go_ret
  exact ⟨rfl, Below.refl _ _⟩
theorem inf_fin {b : Nat} (hb : b < 18446744073709551616) (h : flE b ≠ 2047) (w : World) : Calls Tryz.prog 75 #[.float .f64 b, .int .i64 0] w (RetV w (.bool false)) := by
  have hO : (FloatKind.f64.format.order (b % 9223372036854775808) 9218868437227405311 == some .gt) = false := by
    have h1 := max_fin (b := b % 9223372036854775808) (by rw [(flE_abs b).1]; exact h)
    show (Ieee.double.order (b % 9223372036854775808) 9218868437227405311 == some .gt) = false
    simpa using h1
  clear h
  go_enter Tryz.func75, Tryz.ntmps75
  go_wp2_with fail
  with_reducible refine (m_Abs hb w).mono ?_
  rintro e w1 ⟨rfl, hb1⟩
  go_wp2
  go_ret
  exact ⟨rfl, hb1⟩
end Go.Proofs.YtkfekkhhfpkfaaaGreat
namespace Go.Proofs.YtkfekkhhfpkfaaaGreat
open Go.RowKit Dg
attribute [local go_sem ↓] Go.wp_at_zero Go.wp_at_succ
theorem nan_nan {b : Nat} (h : flE b = 2047) (h0 : flM b ≠ 0) (w : World) : Calls Tryz.prog 74 #[.float .f64 b] w (RetV w (.bool true)) := by
  have hO : FloatKind.f64.format.order b b = none := ord_nan h h0
  clear h h0
  go_enter Tryz.func74, Tryz.ntmps74
  go_wp2
  go_ret
  exact ⟨rfl, Below.refl _ _⟩
theorem nan_inf {b : Nat} (h : flE b = 2047) (h0 : flM b = 0) (w : World) : Calls Tryz.prog 74 #[.float .f64 b] w (RetV w (.bool false)) := by
  have hO : FloatKind.f64.format.order b b = some .eq := ord_inf h h0
  clear h h0
  go_enter Tryz.func74, Tryz.ntmps74
  go_wp2
  go_ret
  exact ⟨rfl, Below.refl _ _⟩
theorem inf_inf {b : Nat} (hb : b < 18446744073709551616) (h : flE b = 2047) (h0 : flM b = 0) (w : World) : Calls Tryz.prog 75 #[.float .f64 b, .int .i64 0] w (RetV w (.bool true)) := by
  have hO : (FloatKind.f64.format.order (b % 9223372036854775808) 9218868437227405311 == some .gt) = true := by
    have e : b % 9223372036854775808 = 9218868437227405312 := by unfold flE at h; unfold flM at h0; omega
    rw [e]
    decide
  clear h h0
  go_enter Tryz.func75, Tryz.ntmps75
  go_wp2_with fail
  with_reducible refine (m_Abs hb w).mono ?_
  rintro e w1 ⟨rfl, hb1⟩
  go_wp2
  go_ret
  exact ⟨rfl, hb1⟩
theorem float_nan {b : Nat} (hb : b < 18446744073709551616) (h : flE b = 2047) (h0 : flM b ≠ 0) (w : World) : Calls Tryz.prog 16 #[.float .f64 b] w (RetPE w 0 1) := by
  have hs := Below.refl w.heap.size w
  go_enter Tryz.func16, Tryz.ntmps16
  go_wp2_with fail
  refine Calls.abs ?_
  intro w1 hW
  have hsz := hs.size
  have hbw : Below w.heap.size w w1 := by rw [hW]; exact (Below.alloc (Below.refl w.heap.size w) (by first | exact hs.size | (have := hs.size; simp; done) | (have := hs.size; simp; omega)) _)
  have hs1 : Below w.heap.size w w1 := hs.trans hbw
  have hk : KeepD w w1 := by rw [hW]; exact ((KeepD.refl _).alloc _)
  have Bl1z : Bx w1 (w.heap.size) 32 #[.bool false, .slice none 0 0, .slice none 0 0] := by rw [hW]; exact (Bx.new' _ _ _ _ (by first | rfl | (simp; done)))
  replace hs := hs1
  clear hs1
  have Blz := Bl1z
  clear Bl1z
  clear hW hk hsz hbw
  have hz_w1 := Blz.lt
  refine (nan_nan h h0 _).mono ?_
  rintro e w2 ⟨rfl, hb⟩
  replace hs := bStep hs hb
  replace Blz := Blz.mono hb
  clear hb
  have B0 := Blz.a0
  have B1 := Blz.a1
  have B2 := Blz.a2
  have fz := Blz.free
  have Lz := Blz.lt
  go_wp2
  refine bodyPost.abs ?_
  intro w3 hW
  have hsz := hs.size
  have lz := Blz.lt
  have hbw : Below w.heap.size w2 w3 := by rw [hW]; exact (Below.setCell (Below.setCell (Below.setCell (Below.refl w.heap.size w2) (by first | exact Nat.le_refl _ | omega | (have := hs.size; simp; done) | (have := hs.size; simp; omega)) _) (by first | exact Nat.le_refl _ | omega | (have := hs.size; simp; done) | (have := hs.size; simp; omega)) _) (by first | exact Nat.le_refl _ | omega | (have := hs.size; simp; done) | (have := hs.size; simp; omega)) _)
  have hs1 : Below w.heap.size w w3 := hs.trans hbw
  have hk : KeepD w2 w3 := by rw [hW]; exact (KeepD.set (KeepD.set (KeepD.set (KeepD.refl _) Blz.ty (by decide) _ _) (TyB.store Blz.ty _ _) (by decide) _ _) (TyB.store (TyB.store Blz.ty _ _) _ _) (by decide) _ _)
  have Bl1z : Bx w3 (w.heap.size) 32 #[.bool false, .slice none 0 0, .slice none 0 0] := by rw [hW]; exact (Bx.set (Bx.set (Bx.set Blz 0 _ rfl) 1 _ rfl) 2 _ rfl)
  replace hs := hs1
  clear hs1
  replace Blz := Bl1z
  clear Bl1z
  clear hW hk hsz hbw lz
  exact ret_PE rfl rfl rfl rfl Blz (PV.zero _) hs
theorem float_inf {b : Nat} (hb : b < 18446744073709551616) (h : flE b = 2047) (h0 : flM b = 0) (w : World) : Calls Tryz.prog 16 #[.float .f64 b] w (RetPE w 0 1) := by
  have hs := Below.refl w.heap.size w
  go_enter Tryz.func16, Tryz.ntmps16
  go_wp2_with fail
  refine Calls.abs ?_
  intro w1 hW
  have hsz := hs.size
  have hbw : Below w.heap.size w w1 := by rw [hW]; exact (Below.alloc (Below.refl w.heap.size w) (by first | exact hs.size | (have := hs.size; simp; done) | (have := hs.size; simp; omega)) _)
  have hs1 : Below w.heap.size w w1 := hs.trans hbw
  have hk : KeepD w w1 := by rw [hW]; exact ((KeepD.refl _).alloc _)
  have Bl1z : Bx w1 (w.heap.size) 32 #[.bool false, .slice none 0 0, .slice none 0 0] := by rw [hW]; exact (Bx.new' _ _ _ _ (by first | rfl | (simp; done)))
  replace hs := hs1
  clear hs1
  have Blz := Bl1z
  clear Bl1z
  clear hW hk hsz hbw
  have hz_w1 := Blz.lt
  refine (nan_inf h h0 _).mono ?_
  rintro e w2 ⟨rfl, hb⟩
  replace hs := bStep hs hb
  replace Blz := Blz.mono hb
  clear hb
  go_wp2_with fail
  refine (inf_inf hb h h0 _).mono ?_
  rintro e w3 ⟨rfl, hb⟩
  replace hs := bStep hs hb
  replace Blz := Blz.mono hb
  clear hb
  have B0 := Blz.a0
  have B1 := Blz.a1
  have B2 := Blz.a2
  have fz := Blz.free
  have Lz := Blz.lt
  go_wp2
  refine bodyPost.abs ?_
  intro w4 hW
  have hsz := hs.size
  have lz := Blz.lt
  have hbw : Below w.heap.size w3 w4 := by rw [hW]; exact (Below.setCell (Below.setCell (Below.setCell (Below.refl w.heap.size w3) (by first | exact Nat.le_refl _ | omega | (have := hs.size; simp; done) | (have := hs.size; simp; omega)) _) (by first | exact Nat.le_refl _ | omega | (have := hs.size; simp; done) | (have := hs.size; simp; omega)) _) (by first | exact Nat.le_refl _ | omega | (have := hs.size; simp; done) | (have := hs.size; simp; omega)) _)
  have hs1 : Below w.heap.size w w4 := hs.trans hbw
  have hk : KeepD w3 w4 := by rw [hW]; exact (KeepD.set (KeepD.set (KeepD.set (KeepD.refl _) Blz.ty (by decide) _ _) (TyB.store Blz.ty _ _) (by decide) _ _) (TyB.store (TyB.store Blz.ty _ _) _ _) (by decide) _ _)
  have Bl1z : Bx w4 (w.heap.size) 32 #[.bool false, .slice none 0 0, .slice none 0 0] := by rw [hW]; exact (Bx.set (Bx.set (Bx.set Blz 0 _ rfl) 1 _ rfl) 2 _ rfl)
  replace hs := hs1
  clear hs1
  replace Blz := Bl1z
  clear Bl1z
  clear hW hk hsz hbw lz
  exact ret_PE rfl rfl rfl rfl Blz (PV.zero _) hs
theorem float_odd {b : Nat} (hb : b < 18446744073709551616) (h : flE b = 2047) (w : World) : Calls Tryz.prog 16 #[.float .f64 b] w (RetPE w 0 1) := by
  by_cases h0 : flM b = 0
  · exact float_inf hb h h0 w
  · exact float_nan hb h h0 w
end Go.Proofs.YtkfekkhhfpkfaaaGreat
namespace Go.Proofs.YtkfekkhhfpkfaaaGreat
open Go.RowKit Dg
attribute [local go_sem ↓] Go.wp_at_zero Go.wp_at_succ
theorem float_low {b M N E : Nat} {s : Bool} (H1 : bits BinOp.and IntKind.u64 (b : Int) 4503599627370495 = (M : Int)) (HS : ((b : Int) / 9223372036854775808 == 1) = s) (H2 : bits BinOp.and IntKind.u64 ((b : Int) / 4503599627370496) 2047 = 0) (hN : M < 9007199254740992) (hE : E = 1074)
  (hnan : ∀ w : World, Calls Tryz.prog 74 #[.float .f64 b] w (RetV w (.bool false))) (hinf : ∀ w : World, Calls Tryz.prog 75 #[.float .f64 b, .int .i64 0] w (RetV w (.bool false))) (w : World) :
  Calls Tryz.prog 16 #[.float .f64 b] w (RetPE w (mkQ s (M) (2 ^ E)) 0) := by
 have hs := Below.refl w.heap.size w
 have hb1 := run_bits
 have c1 : ∀ w : World, Calls Tryz.prog 77 #[.int .u64 (M : Int)] w (RetN .u64 18446744073709551616 w M) := fun w => ln_word M w (by omega)
 have c2 : ∀ w : World, Calls Tryz.prog 77 #[.int .u64 (1)] w (RetN .u64 18446744073709551616 w 1) := fun w => ln_word 1 w (by decide)
 obtain ⟨X, hX⟩ : ∃ X, X = 1 * 2 ^ (E) := ⟨_, rfl⟩
 have x1 : 0 < X := by rw [hX]; exact Nat.mul_pos (by decide) (Nat.two_pow_pos _)
 have zX : X < 18446744073709551616 ^ 20 := by rw [hX, Nat.one_mul]; exact pow64 _ 20 (by omega)
 have c3 : ∀ (v : Value) (w : World), NatV .u64 18446744073709551616 w v 1 → Calls Tryz.prog 78 #[v, .int .i64 (1074)] w (RetN .u64 18446744073709551616 w X) := fun v w h => by
  rw [hX, show (1074 : Int) = (E : Int) by omega]
  exact ln_left h (K := 1) (by decide) (by decide) (by omega)
 have eX : mkQ s M X = mkQ s (M) (2 ^ E) := by rw [hX, Nat.one_mul]
 have HX1 := Lib.hid x1
 have HX2 := Lib.hid zX
 have HNN := Lib.hid hnan
 have HNI := Lib.hid hinf
 have HC1 := Lib.hid c1
 have HC2 := Lib.hid c2
 have HC3 := Lib.hid c3
 have HEX := Lib.hid eX
 have HN := Lib.hid hN
 clear c1 c2 c3 zX eX hX hnan hinf hN x1 hE
 go_enter Tryz.func16, Tryz.ntmps16
 go_wp2_with fail
 refine Calls.abs ?_
 intro w1 hW
 have hsz := hs.size
 have hbw : Below w.heap.size w w1 := by rw [hW]; exact (Below.alloc (Below.refl w.heap.size w) (by first | exact hs.size | (have := hs.size; simp; done) | (have := hs.size; simp; omega)) _)
 have hs1 : Below w.heap.size w w1 := hs.trans hbw
 have hk : KeepD w w1 := by rw [hW]; exact ((KeepD.refl _).alloc _)
 have Bl1z : Bx w1 (w.heap.size) 32 #[.bool false, .slice none 0 0, .slice none 0 0] := by rw [hW]; exact (Bx.new' _ _ _ _ (by first | rfl | (simp; done)))
 replace hs := hs1
 clear hs1
 have Blz := Bl1z
 clear Bl1z
 clear hW hk hsz hbw
 have hz_w1 := Blz.lt
 refine (HNN.out _).mono ?_
 rintro e w2 ⟨rfl, hb⟩
 replace hs := bStep hs hb
 replace Blz := Blz.mono hb
 clear hb
 go_wp2_with fail
 refine (HNI.out _).mono ?_
 rintro e w3 ⟨rfl, hb⟩
 replace hs := bStep hs hb
 replace Blz := Blz.mono hb
 clear hb
 go_wp2_with fail
 refine (HC1.out _).mono ?_
 rintro e w4 ⟨_, rfl, hm, hb⟩
 obtain ⟨ahm, nhm, chm, rfl⟩ := hm.shape
 replace hs := bStep hs hb
 replace Blz := Blz.mono hb
 clear hb
 go_wp2_with fail
 refine (HC2.out _).mono ?_
 rintro e w5 ⟨_, rfl, ho, hb⟩
 obtain ⟨aho, nho, cho, rfl⟩ := ho.shape
 replace hs := bStep hs hb
 replace Blz := Blz.mono hb
 replace hm := hm.mono hb
 clear hb
 go_wp2_with fail
 refine (HC3.out _ _ ho).mono ?_
 rintro e w6 ⟨_, rfl, hl, hb⟩
 obtain ⟨ahl, nhl, chl, rfl⟩ := hl.shape
 replace hs := bStep hs hb
 replace Blz := Blz.mono hb
 replace hm := hm.mono hb
 replace ho := ho.mono hb
 clear hb
 have hR := p_reduced_calls s _ _ M X 20 _ hm hl HX1.out (by decide) (Nat.lt_trans HN.out (by decide +kernel)) HX2.out
 go_wp2_with fail
 refine hR.mono ?_
 clear hR
 rintro e w7 ⟨_, rfl, hq, hb⟩
 obtain ⟨shq, ahq, nhq, chq, Ahq, Nhq, Chq, rfl⟩ := hq.shape
 replace hs := bStep hs hb
 replace Blz := Blz.mono hb
 replace hm := hm.mono hb
 replace ho := ho.mono hb
 replace hl := hl.mono hb
 clear hb
 replace hq := hq.of_eq HEX.out
 have B0 := Blz.a0
 have B1 := Blz.a1
 have B2 := Blz.a2
 have fz := Blz.free
 have Lz := Blz.lt
 go_wp2
 refine bodyPost.abs ?_
 intro w8 hW
 have hsz := hs.size
 have lz := Blz.lt
 have hbw : Below w.heap.size w7 w8 := by rw [hW]; exact (Below.setCell (Below.setCell (Below.setCell (Below.refl w.heap.size w7) (by first | exact Nat.le_refl _ | omega | (have := hs.size; simp; done) | (have := hs.size; simp; omega)) _) (by first | exact Nat.le_refl _ | omega | (have := hs.size; simp; done) | (have := hs.size; simp; omega)) _) (by first | exact Nat.le_refl _ | omega | (have := hs.size; simp; done) | (have := hs.size; simp; omega)) _)
 have hs1 : Below w.heap.size w w8 := hs.trans hbw
 have hk : KeepD w7 w8 := by rw [hW]; exact (KeepD.set (KeepD.set (KeepD.set (KeepD.refl _) Blz.ty (by decide) _ _) (TyB.store Blz.ty _ _) (by decide) _ _) (TyB.store (TyB.store Blz.ty _ _) _ _) (by decide) _ _)
 have Bl1z : Bx w8 (w.heap.size) 32 #[.bool shq, .slice ahq nhq chq, .slice Ahq Nhq Chq] := by rw [hW]; exact (Bx.set (Bx.set (Bx.set Blz 0 _ rfl) 1 _ rfl) 2 _ rfl)
 replace hs := hs1
 clear hs1
 replace Blz := Bl1z
 clear Bl1z
 replace hq := hq.keep hk
 clear hW hk hsz hbw lz
 exact ret_PE rfl rfl rfl rfl Blz hq hs
theorem float_mid {b M N E : Nat} {s : Bool} (H1 : bits BinOp.and IntKind.u64 (b : Int) 4503599627370495 = (M : Int)) (HS : ((b : Int) / 9223372036854775808 == 1) = s) (H2 : bits BinOp.and IntKind.u64 ((b : Int) / 4503599627370496) 2047 = (E : Int)) (H3 : bits BinOp.or IntKind.u64 (M : Int) 4503599627370496 = (N : Int)) (hN : N < 9007199254740992) (h1 : 1 ≤ E) (h2 : E < 1075)
  (hnan : ∀ w : World, Calls Tryz.prog 74 #[.float .f64 b] w (RetV w (.bool false))) (hinf : ∀ w : World, Calls Tryz.prog 75 #[.float .f64 b, .int .i64 0] w (RetV w (.bool false))) (w : World) :
  Calls Tryz.prog 16 #[.float .f64 b] w (RetPE w (mkQ s (N) (2 ^ (1075 - E))) 0) := by
 have hs := Below.refl w.heap.size w
 have hb1 := run_bits
 have hE0 : ((E : Int) == 0) = false := by simp; omega
 have hXd : ((1075 : Int) ≤ (E : Int)) = False := eq_false (by omega)
 have c1 : ∀ w : World, Calls Tryz.prog 77 #[.int .u64 (N : Int)] w (RetN .u64 18446744073709551616 w N) := fun w => ln_word N w (by omega)
 have c2 : ∀ w : World, Calls Tryz.prog 77 #[.int .u64 (1)] w (RetN .u64 18446744073709551616 w 1) := fun w => ln_word 1 w (by decide)
 obtain ⟨X, hX⟩ : ∃ X, X = 1 * 2 ^ (1075 - E) := ⟨_, rfl⟩
 have x1 : 0 < X := by rw [hX]; exact Nat.mul_pos (by decide) (Nat.two_pow_pos _)
 have zX : X < 18446744073709551616 ^ 20 := by rw [hX, Nat.one_mul]; exact pow64 _ 20 (by omega)
 have c3 : ∀ (v : Value) (w : World), NatV .u64 18446744073709551616 w v 1 → Calls Tryz.prog 78 #[v, .int .i64 (1075 - (E : Int))] w (RetN .u64 18446744073709551616 w X) := fun v w h => by
  rw [hX, show (1075 : Int) - (E : Int) = ((1075 - E : Nat) : Int) by omega]
  exact ln_left h (K := 1) (by decide) (by decide) (by omega)
 have eX : mkQ s N X = mkQ s (N) (2 ^ (1075 - E)) := by rw [hX, Nat.one_mul]
 have HX1 := Lib.hid x1
 have HX2 := Lib.hid zX
 have HNN := Lib.hid hnan
 have HNI := Lib.hid hinf
 have HC1 := Lib.hid c1
 have HC2 := Lib.hid c2
 have HC3 := Lib.hid c3
 have HEX := Lib.hid eX
 have HN := Lib.hid hN
 clear c1 c2 c3 zX eX hX hnan hinf hN x1
 go_enter Tryz.func16, Tryz.ntmps16
 go_wp2_with fail
 refine Calls.abs ?_
 intro w1 hW
 have hsz := hs.size
 have hbw : Below w.heap.size w w1 := by rw [hW]; exact (Below.alloc (Below.refl w.heap.size w) (by first | exact hs.size | (have := hs.size; simp; done) | (have := hs.size; simp; omega)) _)
 have hs1 : Below w.heap.size w w1 := hs.trans hbw
 have hk : KeepD w w1 := by rw [hW]; exact ((KeepD.refl _).alloc _)
 have Bl1z : Bx w1 (w.heap.size) 32 #[.bool false, .slice none 0 0, .slice none 0 0] := by rw [hW]; exact (Bx.new' _ _ _ _ (by first | rfl | (simp; done)))
 replace hs := hs1
 clear hs1
 have Blz := Bl1z
 clear Bl1z
 clear hW hk hsz hbw
 have hz_w1 := Blz.lt
 refine (HNN.out _).mono ?_
 rintro e w2 ⟨rfl, hb⟩
 replace hs := bStep hs hb
 replace Blz := Blz.mono hb
 clear hb
 go_wp2_with fail
 refine (HNI.out _).mono ?_
 rintro e w3 ⟨rfl, hb⟩
 replace hs := bStep hs hb
 replace Blz := Blz.mono hb
 clear hb
 go_wp2_with fail
 refine (HC1.out _).mono ?_
 rintro e w4 ⟨_, rfl, hm, hb⟩
 obtain ⟨ahm, nhm, chm, rfl⟩ := hm.shape
 replace hs := bStep hs hb
 replace Blz := Blz.mono hb
 clear hb
 go_wp2_with fail
 refine (HC2.out _).mono ?_
 rintro e w5 ⟨_, rfl, ho, hb⟩
 obtain ⟨aho, nho, cho, rfl⟩ := ho.shape
 replace hs := bStep hs hb
 replace Blz := Blz.mono hb
 replace hm := hm.mono hb
 clear hb
 go_wp2_with fail
 refine (HC3.out _ _ ho).mono ?_
 rintro e w6 ⟨_, rfl, hl, hb⟩
 obtain ⟨ahl, nhl, chl, rfl⟩ := hl.shape
 replace hs := bStep hs hb
 replace Blz := Blz.mono hb
 replace hm := hm.mono hb
 replace ho := ho.mono hb
 clear hb
 have hR := p_reduced_calls s _ _ N X 20 _ hm hl HX1.out (by decide) (Nat.lt_trans HN.out (by decide +kernel)) HX2.out
 go_wp2_with fail
 refine hR.mono ?_
 clear hR
 rintro e w7 ⟨_, rfl, hq, hb⟩
 obtain ⟨shq, ahq, nhq, chq, Ahq, Nhq, Chq, rfl⟩ := hq.shape
 replace hs := bStep hs hb
 replace Blz := Blz.mono hb
 replace hm := hm.mono hb
 replace ho := ho.mono hb
 replace hl := hl.mono hb
 clear hb
 replace hq := hq.of_eq HEX.out
 have B0 := Blz.a0
 have B1 := Blz.a1
 have B2 := Blz.a2
 have fz := Blz.free
 have Lz := Blz.lt
 go_wp2
 refine bodyPost.abs ?_
 intro w8 hW
 have hsz := hs.size
 have lz := Blz.lt
 have hbw : Below w.heap.size w7 w8 := by rw [hW]; exact (Below.setCell (Below.setCell (Below.setCell (Below.refl w.heap.size w7) (by first | exact Nat.le_refl _ | omega | (have := hs.size; simp; done) | (have := hs.size; simp; omega)) _) (by first | exact Nat.le_refl _ | omega | (have := hs.size; simp; done) | (have := hs.size; simp; omega)) _) (by first | exact Nat.le_refl _ | omega | (have := hs.size; simp; done) | (have := hs.size; simp; omega)) _)
 have hs1 : Below w.heap.size w w8 := hs.trans hbw
 have hk : KeepD w7 w8 := by rw [hW]; exact (KeepD.set (KeepD.set (KeepD.set (KeepD.refl _) Blz.ty (by decide) _ _) (TyB.store Blz.ty _ _) (by decide) _ _) (TyB.store (TyB.store Blz.ty _ _) _ _) (by decide) _ _)
 have Bl1z : Bx w8 (w.heap.size) 32 #[.bool shq, .slice ahq nhq chq, .slice Ahq Nhq Chq] := by rw [hW]; exact (Bx.set (Bx.set (Bx.set Blz 0 _ rfl) 1 _ rfl) 2 _ rfl)
 replace hs := hs1
 clear hs1
 replace Blz := Bl1z
 clear Bl1z
 replace hq := hq.keep hk
 clear hW hk hsz hbw lz
 exact ret_PE rfl rfl rfl rfl Blz hq hs
theorem float_high {b M N E : Nat} {s : Bool} (H1 : bits BinOp.and IntKind.u64 (b : Int) 4503599627370495 = (M : Int)) (HS : ((b : Int) / 9223372036854775808 == 1) = s) (H2 : bits BinOp.and IntKind.u64 ((b : Int) / 4503599627370496) 2047 = (E : Int)) (H3 : bits BinOp.or IntKind.u64 (M : Int) 4503599627370496 = (N : Int)) (hN : N < 9007199254740992) (h1 : 1075 ≤ E) (h2 : E < 2047)
  (hnan : ∀ w : World, Calls Tryz.prog 74 #[.float .f64 b] w (RetV w (.bool false))) (hinf : ∀ w : World, Calls Tryz.prog 75 #[.float .f64 b, .int .i64 0] w (RetV w (.bool false))) (w : World) :
  Calls Tryz.prog 16 #[.float .f64 b] w (RetPE w (mkQ s (N * 2 ^ (E - 1075)) (1)) 0) := by
 have hs := Below.refl w.heap.size w
 have hb1 := run_bits
 have hE0 : ((E : Int) == 0) = false := by simp; omega
 have hXd : ((1075 : Int) ≤ (E : Int)) = True := eq_true (by omega)
 have c1 : ∀ w : World, Calls Tryz.prog 77 #[.int .u64 (N : Int)] w (RetN .u64 18446744073709551616 w N) := fun w => ln_word N w (by omega)
 have c2 : ∀ w : World, Calls Tryz.prog 77 #[.int .u64 (1)] w (RetN .u64 18446744073709551616 w 1) := fun w => ln_word 1 w (by decide)
 obtain ⟨k, hk⟩ : ∃ k : Nat, E = k + 1075 := ⟨E - 1075, by omega⟩
 obtain ⟨X, hX⟩ : ∃ X, X = N * 2 ^ k := ⟨_, rfl⟩
 have zX : X < 18446744073709551616 ^ 20 := by
  rw [hX]
  have h1 := pow64 (k + 53) 20 (by omega)
  rw [Nat.pow_add] at h1
  have h2 : N * 2 ^ k < 2 ^ k * 2 ^ 53 := by rw [Nat.mul_comm]; exact Nat.mul_lt_mul_of_pos_left (by omega) (Nat.two_pow_pos _)
  omega
 have c3 : ∀ (v : Value) (w : World), NatV .u64 18446744073709551616 w v N → Calls Tryz.prog 78 #[v, .int .i64 ((E : Int) - 1075)] w (RetN .u64 18446744073709551616 w X) := fun v w h => by
  rw [show (E : Int) - 1075 = (k : Int) by omega, hX]
  exact ln_left (k := k) h (K := 1) (by omega) (by decide) (by omega)
 have eX : mkQ s X 1 = mkQ s (N * 2 ^ (E - 1075)) (1) := by rw [hX]; congr 2; congr 1; omega
 have HX2 := Lib.hid zX
 have HNN := Lib.hid hnan
 have HNI := Lib.hid hinf
 have HC1 := Lib.hid c1
 have HC2 := Lib.hid c2
 have HC3 := Lib.hid c3
 have HEX := Lib.hid eX
 have HN := Lib.hid hN
 clear c1 c2 c3 zX eX hX hnan hinf hN hk
 go_enter Tryz.func16, Tryz.ntmps16
 go_wp2_with fail
 refine Calls.abs ?_
 intro w1 hW
 have hsz := hs.size
 have hbw : Below w.heap.size w w1 := by rw [hW]; exact (Below.alloc (Below.refl w.heap.size w) (by first | exact hs.size | (have := hs.size; simp; done) | (have := hs.size; simp; omega)) _)
 have hs1 : Below w.heap.size w w1 := hs.trans hbw
 have hk : KeepD w w1 := by rw [hW]; exact ((KeepD.refl _).alloc _)
 have Bl1z : Bx w1 (w.heap.size) 32 #[.bool false, .slice none 0 0, .slice none 0 0] := by rw [hW]; exact (Bx.new' _ _ _ _ (by first | rfl | (simp; done)))
 replace hs := hs1
 clear hs1
 have Blz := Bl1z
 clear Bl1z
 clear hW hk hsz hbw
 have hz_w1 := Blz.lt
 refine (HNN.out _).mono ?_
 rintro e w2 ⟨rfl, hb⟩
 replace hs := bStep hs hb
 replace Blz := Blz.mono hb
 clear hb
 go_wp2_with fail
 refine (HNI.out _).mono ?_
 rintro e w3 ⟨rfl, hb⟩
 replace hs := bStep hs hb
 replace Blz := Blz.mono hb
 clear hb
 go_wp2_with fail
 refine (HC1.out _).mono ?_
 rintro e w4 ⟨_, rfl, hm, hb⟩
 obtain ⟨ahm, nhm, chm, rfl⟩ := hm.shape
 replace hs := bStep hs hb
 replace Blz := Blz.mono hb
 clear hb
 go_wp2_with fail
 refine (HC3.out _ _ hm).mono ?_
 rintro e w5 ⟨_, rfl, hl, hb⟩
 obtain ⟨ahl, nhl, chl, rfl⟩ := hl.shape
 replace hs := bStep hs hb
 replace Blz := Blz.mono hb
 replace hm := hm.mono hb
 clear hb
 go_wp2_with fail
 refine (HC2.out _).mono ?_
 rintro e w6 ⟨_, rfl, ho, hb⟩
 obtain ⟨aho, nho, cho, rfl⟩ := ho.shape
 replace hs := bStep hs hb
 replace Blz := Blz.mono hb
 replace hm := hm.mono hb
 replace hl := hl.mono hb
 clear hb
 have hR := p_reduced_calls s _ _ X 1 20 _ hl ho (by decide) (by decide) HX2.out (by decide +kernel)
 go_wp2_with fail
 refine hR.mono ?_
 clear hR
 rintro e w7 ⟨_, rfl, hq, hb⟩
 obtain ⟨shq, ahq, nhq, chq, Ahq, Nhq, Chq, rfl⟩ := hq.shape
 replace hs := bStep hs hb
 replace Blz := Blz.mono hb
 replace hm := hm.mono hb
 replace hl := hl.mono hb
 replace ho := ho.mono hb
 clear hb
 replace hq := hq.of_eq HEX.out
 have B0 := Blz.a0
 have B1 := Blz.a1
 have B2 := Blz.a2
 have fz := Blz.free
 have Lz := Blz.lt
 go_wp2
 refine bodyPost.abs ?_
 intro w8 hW
 have hsz := hs.size
 have lz := Blz.lt
 have hbw : Below w.heap.size w7 w8 := by rw [hW]; exact (Below.setCell (Below.setCell (Below.setCell (Below.refl w.heap.size w7) (by first | exact Nat.le_refl _ | omega | (have := hs.size; simp; done) | (have := hs.size; simp; omega)) _) (by first | exact Nat.le_refl _ | omega | (have := hs.size; simp; done) | (have := hs.size; simp; omega)) _) (by first | exact Nat.le_refl _ | omega | (have := hs.size; simp; done) | (have := hs.size; simp; omega)) _)
 have hs1 : Below w.heap.size w w8 := hs.trans hbw
 have hk : KeepD w7 w8 := by rw [hW]; exact (KeepD.set (KeepD.set (KeepD.set (KeepD.refl _) Blz.ty (by decide) _ _) (TyB.store Blz.ty _ _) (by decide) _ _) (TyB.store (TyB.store Blz.ty _ _) _ _) (by decide) _ _)
 have Bl1z : Bx w8 (w.heap.size) 32 #[.bool shq, .slice ahq nhq chq, .slice Ahq Nhq Chq] := by rw [hW]; exact (Bx.set (Bx.set (Bx.set Blz 0 _ rfl) 1 _ rfl) 2 _ rfl)
 replace hs := hs1
 clear hs1
 replace Blz := Bl1z
 clear Bl1z
 replace hq := hq.keep hk
 clear hW hk hsz hbw lz
 exact ret_PE rfl rfl rfl rfl Blz hq hs
theorem float_fin {b : Nat} (hb : b < 18446744073709551616) (h : flE b ≠ 2047) (w : World) : Calls Tryz.prog 16 #[.float .f64 b] w (RetPE w (flQ b) 0) := by
 have H1 := band52 hb
 have H2 : bits BinOp.and IntKind.u64 ((b : Int) / 4503599627370496) 2047 = (flE b : Int) := by
  have := band11 hb
  rwa [Int.natCast_ediv] at this
 have HS : ((b : Int) / 9223372036854775808 == 1) = flS b := by
  unfold flS
  by_cases e : b / 9223372036854775808 = 1
  ·rw [decide_eq_true e, beq_iff_eq]; omega
  ·rw [decide_eq_false e, beq_eq_false_iff_ne]; omega
 have hM := flM_lt b
 have hE := flE_lt b
 unfold flQ flX flN
 by_cases h0 : flE b = 0
 ·rw [if_pos h0, if_pos h0, if_neg (by decide)]
  rw [h0] at H2
  obtain ⟨k, hk⟩ : ∃ k : Nat, k = 1075 - 1 := ⟨_, rfl⟩
  rw [← hk]
  exact float_low (N := 0) H1 HS H2 (by omega) (by omega) (nan_fin h) (inf_fin hb h) w
 ·have H3 := bor52 hM
  rw [if_neg h0, if_neg h0]
  by_cases h1 : 1075 ≤ flE b
  ·rw [if_pos h1]
   exact float_high H1 HS H2 H3 (by omega) h1 (by omega) (nan_fin h) (inf_fin hb h) w
  ·rw [if_neg h1]
   exact float_mid H1 HS H2 H3 (by omega) (by omega) (by omega) (nan_fin h) (inf_fin hb h) w
end Go.Proofs.YtkfekkhhfpkfaaaGreat
namespace Go.Proofs.YtkfekkhhfpkfaaaGreat
open Go.RowKit Dg
theorem sgl_nan {x : Nat} (h : f32E x = 255) (h0 : x % 8388608 ≠ 0) : ∃ s f, Ieee.single.read x = .nan s f := by
  obtain ⟨e1, e2, e3, e4, _⟩ := sgl
  unfold f32E at h
  simp only [Ieee.Format.read, e1, e2, e3, e4]
  rw [if_neg (by omega), if_neg (by omega), if_neg (by omega)]
  exact ⟨_, _, rfl⟩
theorem sgl_inf {x : Nat} (h : f32E x = 255) (h0 : x % 8388608 = 0) : Ieee.single.read x = .infinity (f32S x) := by
  obtain ⟨e1, e2, e3, e4, _⟩ := sgl
  unfold f32E at h
  simp only [Ieee.Format.read, e1, e2, e3, e4]
  rw [if_neg (by omega), if_neg (by omega), if_pos (by omega)]
  rfl
theorem cvF_inf {x : Nat} (h : f32E x = 255) (h0 : x % 8388608 = 0) : cvF x < 18446744073709551616 ∧ flE (cvF x) = 2047 := by
  unfold cvF
  rw [sgl_inf h h0]
  cases f32S x <;> decide +kernel
theorem cvF_fin_inf {x : Nat} (h : f32E x ≠ 255) : (Ieee.double.read (cvF x)).isInfinity = false := by
  rw [rd_num (cv_fin h).2]
  rfl
theorem cv_num {x : Nat} (h : f32E x ≠ 255) (w : World) : (convert 45 55 (.float .f32 x)).run Tryz.prog w = .ok (.float .f64 (cvF x)) w := by
  refine run_convert_float_float (P := Tryz.prog) (w := w) 45 55 .f32 .f64 x (cvF x) (by kernel_rfl) (by kernel_rfl) ?_
  have e1 : FloatKind.f32.decode x = Ieee.single.read x := rfl
  have e2 := cvF_fin_inf h
  have e3 := rd32_num h
  unfold floatToFloatBits
  rw [if_neg (by decide), e1, e3]
  show (if (Ieee.double.read (Ieee.double.write (Ieee.Datum.number (f32S x) (f32N x) ((f32X x : Int) - 150)))).isInfinity = true then none else some (Ieee.double.write (Ieee.Datum.number (f32S x) (f32N x) ((f32X x : Int) - 150)))) = some (cvF x)
  unfold cvF at e2 ⊢
  rw [e3] at e2 ⊢
  rw [e2]
  rfl
theorem cv_inf {x : Nat} (h : f32E x = 255) (h0 : x % 8388608 = 0) (w : World) : (convert 45 55 (.float .f32 x)).run Tryz.prog w = .ok (.float .f64 (cvF x)) w := by
  refine run_convert_float_float (P := Tryz.prog) (w := w) 45 55 .f32 .f64 x (cvF x) (by kernel_rfl) (by kernel_rfl) ?_
  have e1 : FloatKind.f32.decode x = Ieee.single.read x := rfl
  unfold floatToFloatBits cvF
  rw [if_neg (by decide), e1, sgl_inf h h0]
  rfl
def nanW (x : Nat) (w : World) : Nat := (Question.nanConv .f64 x).cut (w.tape w.drawn (Question.nanConv .f64 x))
theorem nanW_odd (x : Nat) (w : World) : nanW x w < 18446744073709551616 ∧ flE (nanW x w) = 2047 := by
  have e : ∃ t : Nat, nanW x w = (t % 2) * 2 ^ 63 + 0x7ff0000000000000 + 1 + (t / 2) % (2 ^ 52 - 1) := ⟨_, rfl⟩
  obtain ⟨t, e⟩ := e
  have h1 : (t / 2) % (2 ^ 52 - 1) < 2 ^ 52 - 1 := Nat.mod_lt _ (by decide)
  have h2 : t % 2 < 2 := Nat.mod_lt _ (by decide)
  generalize (t / 2) % (2 ^ 52 - 1) = r at e h1
  generalize t % 2 = s at e h2
  rw [e]
  unfold flE
  rcases (show s = 0 ∨ s = 1 by omega) with rfl | rfl <;> constructor <;> omega
theorem cv_nan {x : Nat} (h : f32E x = 255) (h0 : x % 8388608 ≠ 0) (w : World) : (convert 45 55 (.float .f32 x)).run Tryz.prog w = .ok (.float .f64 (nanW x w)) w.drew := by
  obtain ⟨s, f, e⟩ := sgl_nan h h0
  have e1 : FloatKind.f32.decode x = .nan s f := e
  have u1 : (Tryz.prog.underlying 45).isSome = true := by kernel_rfl
  have u2 : Tryz.prog.underlying 55 = some (.float .f64) := by kernel_rfl
  obtain ⟨u, hs'⟩ := Option.isSome_iff_exists.1 u1
  have hf : (Question.nanConv .f64 x).forced = false := rfl
  cases u <;> simp [convert, run_underlying hs', run_underlying u2, Conv.floatToFloat, e1, hf, nanW]
theorem cv_any (x : Nat) (w : World) : ∃ b w', (convert 45 55 (.float .f32 x)).run Tryz.prog w = .ok (.float .f64 b) w' ∧ (w' = w ∨ w' = w.drew) ∧ b < 18446744073709551616 ∧ (f32E x ≠ 255 → w' = w ∧ b = cvF x ∧ flE b ≠ 2047) ∧ (f32E x = 255 → flE b = 2047) := by
  by_cases h : f32E x = 255
  · by_cases h0 : x % 8388608 = 0
    · exact ⟨_, _, cv_inf h h0 w, .inl rfl, (cvF_inf h h0).1, fun hn => absurd h hn, fun _ => (cvF_inf h h0).2⟩
    · exact ⟨_, _, cv_nan h h0 w, .inr rfl, (nanW_odd x w).1, fun hn => absurd h hn, fun _ => (nanW_odd x w).2⟩
  · exact ⟨_, _, cv_num h w, .inl rfl, (cv_fin h).1, fun _ => ⟨rfl, rfl, (cv_fin h).2⟩, fun hn => absurd hn h⟩
end Go.Proofs.YtkfekkhhfpkfaaaGreat
namespace Go.Proofs.YtkfekkhhfpkfaaaGreat
open Go.RowKit Dg
def cvB (x : Nat) (W : World) : Nat := if f32E x = 255 ∧ x % 8388608 ≠ 0 then nanW x W else cvF x
def cvW (x : Nat) (W : World) : World := if f32E x = 255 ∧ x % 8388608 ≠ 0 then W.drew else W
theorem cv_run (x : Nat) (W : World) : (convert 45 55 (.float .f32 x)).run Tryz.prog W = .ok (.float .f64 (cvB x W)) (cvW x W) := by
  unfold cvB cvW
  by_cases h : f32E x = 255 ∧ x % 8388608 ≠ 0
  · rw [if_pos h, if_pos h]; exact cv_nan h.1 h.2 W
  · rw [if_neg h, if_neg h]
    by_cases h1 : f32E x = 255
    · exact cv_inf h1 (Decidable.byContradiction fun h0 => h ⟨h1, h0⟩) W
    · exact cv_num h1 W
theorem cvW_or (x : Nat) (W : World) : cvW x W = W ∨ cvW x W = W.drew := by
  unfold cvW; split
  · exact .inr rfl
  · exact .inl rfl
theorem cvW_fin {x : Nat} (h : f32E x ≠ 255) (W : World) : cvW x W = W ∧ cvB x W = cvF x := by
  unfold cvW cvB
  rw [if_neg (fun hn => h hn.1), if_neg (fun hn => h hn.1)]
  exact ⟨rfl, rfl⟩
theorem cvB_lt (x : Nat) (W : World) : cvB x W < 18446744073709551616 := by
  unfold cvB
  split
  · exact (nanW_odd x W).1
  · rename_i h
    by_cases h1 : f32E x = 255
    · exact (cvF_inf h1 (Decidable.byContradiction fun h0 => h ⟨h1, h0⟩)).1
    · exact (cv_fin h1).1
theorem cvB_odd {x : Nat} (h1 : f32E x = 255) (W : World) : flE (cvB x W) = 2047 := by
  unfold cvB
  split
  · exact (nanW_odd x W).2
  · rename_i h
    exact (cvF_inf h1 (Decidable.byContradiction fun h0 => h ⟨h1, h0⟩)).2
theorem cvB_fin {x : Nat} (h : f32E x ≠ 255) (W : World) : flE (cvB x W) ≠ 2047 := by
  rw [(cvW_fin h W).2]; exact (cv_fin h).2
theorem cvW_below (x : Nat) (W : World) : Below W.heap.size W (cvW x W) := by
  rcases cvW_or x W with e | e
  · rw [e]; exact Below.refl _ _
  · rw [e]; exact bDrew _
end Go.Proofs.YtkfekkhhfpkfaaaGreat
