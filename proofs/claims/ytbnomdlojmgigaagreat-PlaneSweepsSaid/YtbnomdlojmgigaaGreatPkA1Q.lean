/-
  Plain facts on digits, second part: subtraction, division by a digit, halves, binary length, products, and the steps of a division by shifts.
-/
import Derived.Test.YtbnomdlojmgigaaGreatPkA0Q
import Derived.Deep.AppendLies
set_option linter.unusedSimpArgs false
set_option linter.unusedVariables false
namespace Go.Proofs.YtbnomdlojmgigaaGreat.Dg
theorem dif_step (B : Nat) (l l' ol : List Nat) (k borrow : Nat) (hk : k < ol.length) (h : val B (ol.take k) + val B (l'.take k) = val B (l.take k) + borrow * B ^ k)
    (x y nb : Nat) (hx : x + (borrow + l'[k]?.getD 0) = l[k]?.getD 0 + nb * B) (hy : y = x) :
    val B ((ol.set k y).take (k + 1)) + val B (l'.take (k + 1)) = val B (l.take (k + 1)) + nb * B ^ (k + 1) := by
  subst hy
  rw [val_take_set_succ _ _ _ _ hk, val_take_succ', val_take_succ']
  generalize l[k]?.getD 0 = a at *
  generalize l'[k]?.getD 0 = b at *
  rw [Nat.pow_succ]
  have : B ^ k * (y + (borrow + b)) = B ^ k * (a + nb * B) := by rw [hx]
  grind
theorem dif_end {B : Nat} {l l' ol : List Nat} {borrow : Nat} (hB : 1 < B) (hol : Digs B ol) (h0 : ol.length = l.length) (h1 : l'.length ≤ l.length) (hle : val B l' ≤ val B l)
    (h : val B (ol.take ol.length) + val B (l'.take ol.length) = val B (l.take ol.length) + borrow * B ^ ol.length) : val B ol = val B l - val B l' := by
  rw [val_take_all _ _ _ (Nat.le_refl _), val_take_all _ _ _ (by omega), val_take_all _ _ _ (by omega)] at h
  have a1 := val_lt (by omega) hol
  have : borrow = 0 := by
    rcases Nat.eq_zero_or_pos borrow with h0 | h0
    · exact h0
    · have : 1 * B ^ ol.length ≤ borrow * B ^ ol.length := Nat.mul_le_mul_right _ h0
      omega
  subst this
  omega
theorem val_drop_succ (B : Nat) (l : List Nat) (k : Nat) (h : k < l.length) : val B (l.drop k) = l[k]?.getD 0 + B * val B (l.drop (k + 1)) := by
  rw [List.drop_eq_getElem_cons h, val, List.getElem?_eq_getElem h]; rfl
theorem drop_set_lt {l : List Nat} {i k x : Nat} (h : i < k) : (l.set i x).drop k = l.drop k := by
  apply List.ext_getElem? ; intro j
  rw [List.getElem?_drop, List.getElem?_drop, List.getElem?_set_ne (by omega)]
theorem val_drop_set (B : Nat) (l : List Nat) (k x : Nat) (h : k < l.length) : val B ((l.set k x).drop k) = x + B * val B (l.drop (k + 1)) := by
  rw [val_drop_succ _ _ _ (by simpa using h), get_set _ _ _ _ h, if_pos rfl, drop_set_lt (by omega)]
theorem div_step (B d : Nat) (l ol : List Nat) (k rest : Nat) (hk : k < l.length) (hko : k < ol.length) (h : val B (l.drop (k + 1)) = val B (ol.drop (k + 1)) * d + rest) :
    val B (l.drop k) = val B ((ol.set k ((rest * B + l[k]?.getD 0) / d)).drop k) * d + (rest * B + l[k]?.getD 0) % d := by
  rw [val_drop_succ _ _ _ hk, val_drop_set _ _ _ _ hko, h]
  generalize l[k]?.getD 0 = a
  have := Nat.div_add_mod (rest * B + a) d
  generalize (rest * B + a) / d = q at *
  generalize (rest * B + a) % d = r at *
  grind
theorem div_digit {B d rest a : Nat} (hr : rest < d) (ha : a < B) : (rest * B + a) / d < B := by
  rw [Nat.div_lt_iff_lt_mul (by omega)]
  have : (rest + 1) * B ≤ d * B := Nat.mul_le_mul_right _ hr
  rw [Nat.add_mul, Nat.one_mul] at this
  rw [Nat.mul_comm B d]
  omega
theorem div_rest_lt {B d rest a : Nat} (hr : rest < d) (ha : a < B) (hd : d ≤ B) : rest * B + a < B * B := by
  have : (rest + 1) * B ≤ d * B := Nat.mul_le_mul_right _ hr
  have : d * B ≤ B * B := Nat.mul_le_mul_right _ hd
  rw [Nat.add_mul, Nat.one_mul] at *
  omega
theorem half_step (H : Nat) (l ol : List Nat) (k : Nat) (hk : k < ol.length) (h : 2 * val (2 * H) (ol.take k) + l[0]?.getD 0 % 2 = val (2 * H) (l.take k) + l[k]?.getD 0 % 2 * (2 * H) ^ k) :
    2 * val (2 * H) ((ol.set k (l[k]?.getD 0 / 2 + l[k + 1]?.getD 0 % 2 * H)).take (k + 1)) + l[0]?.getD 0 % 2 = val (2 * H) (l.take (k + 1)) + l[k + 1]?.getD 0 % 2 * (2 * H) ^ (k + 1) := by
  rw [val_take_set_succ _ _ _ _ hk, val_take_succ']
  have h2 := Nat.div_add_mod (l[k]?.getD 0) 2
  rw [Nat.pow_succ]
  generalize l[k]?.getD 0 = a at *
  generalize l[k + 1]?.getD 0 % 2 = b at *
  generalize a / 2 = q at *
  generalize a % 2 = r at *
  generalize l[0]?.getD 0 % 2 = z at *
  grind
theorem half_end {H : Nat} {l ol : List Nat} (h0 : ol.length = l.length)
    (h : 2 * val (2 * H) (ol.take ol.length) + l[0]?.getD 0 % 2 = val (2 * H) (l.take ol.length) + l[ol.length]?.getD 0 % 2 * (2 * H) ^ ol.length) : val (2 * H) ol = val (2 * H) l / 2 := by
  rw [val_take_all _ _ _ (Nat.le_refl _), val_take_all _ _ _ (by omega), List.getElem?_eq_none (by omega : l.length ≤ ol.length)] at h
  simp at h
  omega
def bl (n : Nat) : Nat := if n = 0 then 0 else Nat.log2 n + 1
theorem bl_zero : bl 0 = 0 := rfl
theorem lt_two_pow_bl (n : Nat) : n < 2 ^ bl n := by
  unfold bl
  split
  · omega
  · exact Nat.lt_log2_self
theorem two_pow_bl_le {n : Nat} (h : 0 < n) : 2 ^ bl n ≤ 2 * n := by
  unfold bl
  rw [if_neg (by omega), Nat.pow_succ, Nat.mul_comm]
  have := Nat.log2_self_le (n := n) (by omega)
  omega
theorem bl_pos {n : Nat} (h : 0 < n) : 0 < bl n := by unfold bl; rw [if_neg (by omega)]; omega
theorem bl_eq_of {n k : Nat} (h1 : n < 2 ^ k) (h2 : 2 ^ k ≤ 2 * n) : bl n = k := by
  have a1 := lt_two_pow_bl n
  have a2 : 2 ^ bl n ≤ 2 * n := by
    rcases Nat.eq_zero_or_pos n with h | h
    · subst h; have := Nat.pow_pos (n := k) (show 0 < 2 from by omega); omega
    · exact two_pow_bl_le h
  have b1 : 2 ^ k < 2 ^ (bl n + 1) := by rw [Nat.pow_succ]; omega
  have b2 : 2 ^ bl n < 2 ^ (k + 1) := by rw [Nat.pow_succ]; omega
  have c1 := (Nat.pow_lt_pow_iff_right (by omega : 1 < 2)).1 b1
  have c2 := (Nat.pow_lt_pow_iff_right (by omega : 1 < 2)).1 b2
  omega
theorem bl_half {n : Nat} (h : 0 < n) : bl n = bl (n / 2) + 1 := by
  apply bl_eq_of
  · have := lt_two_pow_bl (n / 2)
    rw [Nat.pow_succ]; omega
  · rcases Nat.eq_zero_or_pos (n / 2) with h' | h'
    · rw [h', bl_zero]; omega
    · have := two_pow_bl_le h'
      rw [Nat.pow_succ]; omega
theorem bl_mono {m n : Nat} (h : m ≤ n) : bl m ≤ bl n := by
  rcases Nat.eq_zero_or_pos m with h' | h'
  · subst h'; exact Nat.zero_le _
  · have a1 := two_pow_bl_le h'
    have a2 := lt_two_pow_bl n
    have : 2 ^ bl m < 2 ^ (bl n + 1) := by rw [Nat.pow_succ]; omega
    have := (Nat.pow_lt_pow_iff_right (by omega : 1 < 2)).1 this
    omega
theorem bl_le_of_lt {n k : Nat} (h : n < 2 ^ k) : bl n ≤ k := by
  rcases Nat.eq_zero_or_pos n with h' | h'
  · subst h'; exact Nat.zero_le _
  · have a1 := two_pow_bl_le h'
    have : 2 ^ bl n < 2 ^ (k + 1) := by rw [Nat.pow_succ]; omega
    have := (Nat.pow_lt_pow_iff_right (by omega : 1 < 2)).1 this
    omega
theorem bl_val (s : Nat) {l : List Nat} (hl : Digs (2 ^ s) l) (n : Nat) (hn : l.length = n + 1) (ht : 0 < l[n]?.getD 0) : bl (val (2 ^ s) l) = s * n + bl (l[n]?.getD 0) := by
  have h := val_take_succ (2 ^ s) l n (by omega)
  rw [val_take_all _ _ _ (by omega)] at h
  have h1 := val_lt (B := 2 ^ s) (Nat.pow_pos (by omega)) (hl.take n)
  rw [List.length_take, Nat.min_eq_left (by omega)] at h1
  generalize l[n]?.getD 0 = t at *
  rw [h]
  generalize val (2 ^ s) (l.take n) = v at *
  have a1 := lt_two_pow_bl t
  have a2 := two_pow_bl_le ht
  have e : (2 ^ s) ^ n = 2 ^ (s * n) := by rw [← Nat.pow_mul]
  rw [e] at h1 ⊢
  apply bl_eq_of
  · rw [Nat.pow_add]
    have : 2 ^ (s * n) * (t + 1) ≤ 2 ^ (s * n) * 2 ^ bl t := Nat.mul_le_mul_left _ a1
    rw [Nat.mul_add, Nat.mul_one] at this
    omega
  · rw [Nat.pow_add]
    have : 2 ^ (s * n) * 2 ^ bl t ≤ 2 ^ (s * n) * (2 * t) := Nat.mul_le_mul_left _ a2
    rw [show 2 ^ (s * n) * (2 * t) = 2 * (2 ^ (s * n) * t) from by grind] at this
    omega
theorem mul_step (B : Nat) (l' ol : List Nat) (i k a carry V x : Nat) (hk : i + k < ol.length)
    (h : val B ol + carry * B ^ (i + k) = V + a * val B (l'.take k) * B ^ i) (hx : ol[i + k]?.getD 0 + carry + a * l'[k]?.getD 0 = x) :
    val B (ol.set (i + k) (x % B)) + x / B * B ^ (i + (k + 1)) = V + a * val B (l'.take (k + 1)) * B ^ i := by
  have h1 := val_set B ol (i + k) (x % B) hk
  rw [val_take_succ']
  have h2 := Nat.div_add_mod x B
  generalize val B (ol.set (i + k) (x % B)) = V1 at *
  generalize ol[i + k]?.getD 0 = o at *
  generalize l'[k]?.getD 0 = b at *
  generalize x / B = q at *
  generalize x % B = r at *
  rw [show i + (k + 1) = (i + k) + 1 from rfl, Nat.pow_succ]
  rw [Nat.pow_add] at *
  generalize B ^ i = P at *
  generalize B ^ k = Q at *
  subst hx
  grind
theorem bit_room (s : Nat) (hs : 0 < s) {l : List Nat} (hl : Digs (2 ^ s) l) (i : Nat) (hi : i / s < l.length) (h : val (2 ^ s) l % 2 ^ (i + 1) = 0) : l[i / s]?.getD 0 + 2 ^ (i % s) < 2 ^ s := by
  have hr : i % s < s := Nat.mod_lt _ hs
  have hd := hl.get (B := 2 ^ s) (Nat.pow_pos (by omega)) (i / s)
  have h1 := val_split (2 ^ s) l (i / s) (by omega)
  rw [val_drop_succ _ _ _ hi] at h1
  have h2 := val_lt (B := 2 ^ s) (Nat.pow_pos (by omega)) (hl.take (i / s))
  rw [List.length_take, Nat.min_eq_left (by omega)] at h2
  generalize l[i / s]?.getD 0 = a at *
  generalize val (2 ^ s) (l.take (i / s)) = v at *
  generalize val (2 ^ s) (l.drop (i / s + 1)) = z at *
  have e : 2 ^ (i + 1) = (2 ^ s) ^ (i / s) * 2 ^ (i % s + 1) := by
    rw [← Nat.pow_mul, ← Nat.pow_add]
    congr 1
    have := Nat.div_add_mod i s
    omega
  rw [e] at h
  rw [h1] at h
  have hv : v = 0 := by
    have := Nat.mod_mul_right_mod (v + (2 ^ s) ^ (i / s) * (a + 2 ^ s * z)) ((2 ^ s) ^ (i / s)) (2 ^ (i % s + 1))
    rw [h, Nat.zero_mod, Nat.add_mul_mod_self_left, Nat.mod_eq_of_lt h2] at this
    exact this.symm
  subst hv
  rw [Nat.zero_add, Nat.mul_mod_mul_left] at h
  have hP : 0 < (2 ^ s) ^ (i / s) := Nat.pow_pos (Nat.pow_pos (by omega))
  have h3 : (a + 2 ^ s * z) % 2 ^ (i % s + 1) = 0 := by
    rcases Nat.mul_eq_zero.1 h with h' | h'
    · omega
    · exact h'
  have e2 : 2 ^ s = 2 ^ (i % s + 1) * 2 ^ (s - (i % s + 1)) := by rw [← Nat.pow_add]; congr 1; omega
  rw [e2, Nat.mul_assoc, Nat.add_mul_mod_self_left] at h3
  have h4 := Nat.div_add_mod a (2 ^ (i % s + 1))
  rw [h3, Nat.add_zero] at h4
  rw [e2] at hd ⊢
  generalize a / 2 ^ (i % s + 1) = q at *
  rw [← h4] at hd ⊢
  have h5 : q < 2 ^ (s - (i % s + 1)) := Nat.lt_of_mul_lt_mul_left hd
  have h6 : 2 ^ (i % s + 1) * (q + 1) ≤ 2 ^ (i % s + 1) * 2 ^ (s - (i % s + 1)) := Nat.mul_le_mul_left _ h5
  have h7 : 2 ^ (i % s + 1) = 2 ^ (i % s) * 2 := Nat.pow_succ ..
  have h8 := Nat.pow_pos (n := i % s) (show 0 < 2 from by omega)
  rw [Nat.mul_add, Nat.mul_one] at h6
  omega
theorem val_set_bit (s : Nat) (l : List Nat) (i : Nat) (hi : i / s < l.length) : val (2 ^ s) (l.set (i / s) (l[i / s]?.getD 0 + 2 ^ (i % s))) = val (2 ^ s) l + 2 ^ i := by
  have := val_set (2 ^ s) l (i / s) (l[i / s]?.getD 0 + 2 ^ (i % s)) hi
  have e : 2 ^ i = (2 ^ s) ^ (i / s) * 2 ^ (i % s) := by
    rw [← Nat.pow_mul, ← Nat.pow_add, Nat.div_add_mod]
  rw [e]
  rw [Nat.mul_add] at this
  omega
theorem quo_step {a d q b i A : Nat} (hd : d = b * 2 ^ i) (h1 : q * b + a = A) (h2 : a < b * 2 ^ (i + 1)) (h3 : q % 2 ^ (i + 1) = 0) (hge : d ≤ a) :
    (q + 2 ^ i) * b + (a - d) = A ∧ a - d < b * 2 ^ i ∧ (q + 2 ^ i) % 2 ^ i = 0 := by
  subst hd
  refine ⟨?_, ?_, ?_⟩
  · rw [Nat.add_mul, Nat.mul_comm (2 ^ i) b]; omega
  · rw [Nat.pow_succ] at h2
    have : b * (2 ^ i * 2) = b * 2 ^ i + b * 2 ^ i := by grind
    omega
  · rw [Nat.add_mod_right]
    have := Nat.mod_mul_right_mod q (2 ^ i) 2
    rw [← Nat.pow_succ, h3, Nat.zero_mod] at this
    exact this.symm
theorem quo_skip {q i : Nat} (h3 : q % 2 ^ (i + 1) = 0) : q % 2 ^ i = 0 := by
  have := Nat.mod_mul_right_mod q (2 ^ i) 2
  rw [← Nat.pow_succ, h3, Nat.zero_mod] at this
  exact this.symm
theorem shift_half (b i : Nat) : b * 2 ^ (i + 1) / 2 = b * 2 ^ i := by
  rw [Nat.pow_succ, ← Nat.mul_assoc, Nat.mul_div_cancel _ (by omega)]
theorem quo_end {q b a A : Nat} (h1 : q * b + a = A) (h2 : a < b) : q = A / b ∧ a = A % b := by
  subst h1
  have hb : 0 < b := by omega
  rw [Nat.mul_comm q b]
  constructor
  · rw [Nat.mul_add_div hb, Nat.div_eq_of_lt h2, Nat.add_zero]
  · rw [Nat.mul_add_mod, Nat.mod_eq_of_lt h2]
theorem quo_start {a b : Nat} (hb : 0 < b) (n : Nat) (h : bl a = n + bl b) : a < b * 2 ^ (n + 1) := by
  have h1 := lt_two_pow_bl a
  have h2 := two_pow_bl_le hb
  rw [h, Nat.pow_add] at h1
  have : 2 ^ n * 2 ^ bl b ≤ 2 ^ n * (2 * b) := Nat.mul_le_mul_left _ h2
  rw [Nat.pow_succ]
  have : 2 ^ n * (2 * b) = b * (2 ^ n * 2) := by grind
  omega
theorem lt_of_bl {a b : Nat} (h : bl a < bl b) : a < b := by
  rcases Nat.lt_or_ge a b with h' | h'
  · exact h'
  · have := bl_mono h'; omega
end Go.Proofs.YtbnomdlojmgigaaGreat.Dg
namespace Go.Proofs.YtbnomdlojmgigaaGreat.Dg
def dgs (n : Nat) : List UInt8 := if h : n = 0 then [] else dgs (n / 10) ++ [UInt8.ofNat (48 + n % 10)]
termination_by n
decreasing_by omega
def pad : Nat → Nat → List UInt8
  | 0, _ => []
  | k + 1, n => pad k (n / 10) ++ [UInt8.ofNat (48 + n % 10)]
def decS (n : Nat) : List UInt8 := if n = 0 then [48] else dgs n
theorem dgs_zero : dgs 0 = [] := by rw [dgs]; simp
theorem dgs_succ {n : Nat} (h : n ≠ 0) : dgs n = dgs (n / 10) ++ [UInt8.ofNat (48 + n % 10)] := by rw [dgs]; simp [h]
theorem dgs_append (k : Nat) : ∀ {q r : Nat}, 0 < q → r < 10 ^ k → dgs (q * 10 ^ k + r) = dgs q ++ pad k r := by
  induction k with
  | zero => intro q r _ hr; simp at hr; subst hr; simp [pad]
  | succ k ih =>
    intro q r hq hr
    have hpos := Nat.pow_pos (n := k) (show 0 < 10 by omega)
    have e : q * 10 ^ (k + 1) = q * 10 ^ k * 10 := by rw [Nat.pow_succ, Nat.mul_assoc]
    have h1 : 0 < q * 10 ^ k := Nat.mul_pos hq hpos
    rw [dgs_succ (by omega), e]
    rw [show (q * 10 ^ k * 10 + r) / 10 = q * 10 ^ k + r / 10 from by omega, show (q * 10 ^ k * 10 + r) % 10 = r % 10 from by omega]
    rw [ih hq (by rw [Nat.pow_succ] at hr; omega), pad, List.append_assoc]
theorem dgs_small (k : Nat) : ∀ {r : Nat}, dgs r = dgs (r / 10 ^ k) ++ pad k (r % 10 ^ k) ∨ r < 10 ^ k := by
  intro r
  by_cases h : r < 10 ^ k
  · exact .inr h
  · left
    have hpos := Nat.pow_pos (n := k) (show 0 < 10 by omega)
    have := dgs_append k (q := r / 10 ^ k) (r := r % 10 ^ k) (Nat.div_pos (by omega) hpos) (Nat.mod_lt _ hpos)
    rw [← this, Nat.mul_comm, Nat.div_add_mod]
theorem pad_mod (k : Nat) : ∀ n, pad k (n % 10 ^ k) = pad k n := by
  induction k with
  | zero => intro n; rfl
  | succ k ih =>
    intro n
    rw [pad, pad]
    rw [show n % 10 ^ (k + 1) % 10 = n % 10 from by rw [Nat.pow_succ, Nat.mul_comm, Nat.mod_mul_right_mod]]
    rw [show n % 10 ^ (k + 1) / 10 = n / 10 % 10 ^ k from by rw [Nat.pow_succ, Nat.mul_comm, Nat.mod_mul_right_div_self]]
    rw [ih]
theorem dgs_split (k : Nat) {r : Nat} (h : 0 < r / 10 ^ k) : dgs r = dgs (r / 10 ^ k) ++ pad k r := by
  rcases dgs_small k (r := r) with h' | h'
  · rw [h', pad_mod]
  · rw [Nat.div_eq_of_lt h'] at h; omega
theorem dgs_length : ∀ n, (dgs n).length ≤ bl n := by
  intro n
  induction n using Nat.strongRecOn with
  | _ n ih =>
    by_cases h : n = 0
    · subst h; rw [dgs_zero]; exact Nat.zero_le _
    · rw [dgs_succ h, List.length_append, List.length_singleton, bl_half (by omega)]
      have h1 := ih (n / 10) (by omega)
      have h2 := bl_mono (show n / 10 ≤ n / 2 by omega)
      omega
theorem bytes_append (a b : List UInt8) : (ByteArray.mk a.toArray) ++ (ByteArray.mk b.toArray) = ⟨(a ++ b).toArray⟩ := by
  apply ByteArray.ext
  simp
end Go.Proofs.YtbnomdlojmgigaaGreat.Dg
namespace Go.Proofs.YtbnomdlojmgigaaGreat
open Go.RowKit Dg
def SzQ (K : Nat) (q : Rat) : Prop := q.num.natAbs < 4294967296 ^ K ∧ q.den < 4294967296 ^ K
theorem SzQ.mono {K L : Nat} {q : Rat} (h : SzQ K q) (hl : K ≤ L) : SzQ L q :=
  ⟨Nat.lt_of_lt_of_le h.1 (Nat.pow_le_pow_right (by omega) hl), Nat.lt_of_lt_of_le h.2 (Nat.pow_le_pow_right (by omega) hl)⟩
def ng (q : Rat) : Bool := decide (q.num < 0)
def RV (w : World) (v : Value) (q : Rat) : Prop :=
  ∃ vn vd d, v = .agg #[.bool (ng q), vn, vd] ∧ NatV .u32 4294967296 w vn q.num.natAbs ∧ NatV .u32 4294967296 w vd d ∧ (d = q.den ∨ d = 0 ∧ q.den = 1)
theorem RV.mono {w w' : World} {v : Value} {q : Rat} (h : RV w v q) (hb : Below w.heap.size w w') : RV w' v q := by
  obtain ⟨vn, vd, d, e, hn, hd, hc⟩ := h
  exact ⟨vn, vd, d, e, hn.mono hb, hd.mono hb, hc⟩
def mkQ (neg : Bool) (n d : Nat) : Rat := mkRat (if neg then -(n : Int) else n) d
theorem mkQ_zero (neg : Bool) (d : Nat) : mkQ neg 0 d = 0 := by unfold mkQ; cases neg <;> simp
theorem sgn_natAbs (neg : Bool) (n : Nat) : (if neg then -(n : Int) else n).natAbs = n := by cases neg <;> simp
theorem mkQ_num (neg : Bool) (n d : Nat) (hd : d ≠ 0) : (mkQ neg n d).num = if neg then -((n / Nat.gcd n d : Nat) : Int) else ((n / Nat.gcd n d : Nat) : Int) := by
  unfold mkQ
  rw [Rat.num_mkRat, if_neg hd, sgn_natAbs, Nat.gcd_comm d n]
  have hg : Nat.gcd n d ∣ n := Nat.gcd_dvd_left n d
  cases neg
  · simp
  · simp only [if_true]
    rw [Int.neg_ediv_of_dvd (Int.natCast_dvd_natCast.2 hg)]
    simp
theorem mkQ_natAbs (neg : Bool) (n d : Nat) (hd : d ≠ 0) : (mkQ neg n d).num.natAbs = n / Nat.gcd n d := by
  rw [mkQ_num _ _ _ hd, sgn_natAbs]
theorem mkQ_den (neg : Bool) (n d : Nat) (hd : d ≠ 0) : (mkQ neg n d).den = d / Nat.gcd n d := by
  unfold mkQ
  rw [Rat.den_mkRat, if_neg hd, sgn_natAbs, Nat.gcd_comm d n]
theorem mkQ_ng (neg : Bool) (n d : Nat) (hd : d ≠ 0) (hn : n ≠ 0) : ng (mkQ neg n d) = neg := by
  unfold ng
  rw [mkQ_num _ _ _ hd]
  have : 0 < n / Nat.gcd n d := Nat.div_pos (Nat.le_of_dvd (by omega) (Nat.gcd_dvd_left n d)) (Nat.gcd_pos_of_pos_left _ (by omega))
  generalize n / Nat.gcd n d = z at *
  cases neg
  · simp only [Bool.false_eq_true, if_false, decide_eq_false_iff_not]; omega
  · simp only [if_true, decide_eq_true_eq]; omega
theorem mkQ_size (neg : Bool) (n d : Nat) (hd : d ≠ 0) (K : Nat) (h1 : n < 4294967296 ^ K) (h2 : d < 4294967296 ^ K) : SzQ K (mkQ neg n d) := by
  refine ⟨?_, ?_⟩
  · rw [mkQ_natAbs _ _ _ hd]; exact Nat.lt_of_le_of_lt (Nat.div_le_self _ _) h1
  · rw [mkQ_den _ _ _ hd]; exact Nat.lt_of_le_of_lt (Nat.div_le_self _ _) h2
theorem num_ng (q : Rat) : q.num = if ng q then -(q.num.natAbs : Int) else q.num.natAbs := by
  unfold ng
  by_cases h : q.num < 0
  · simp only [h, decide_true, if_true]; omega
  · simp only [h, decide_false]; simp; omega
theorem add_same (x y : Rat) (h : ng x = ng y) : x + y = mkQ (ng x) (x.num.natAbs * y.den + y.num.natAbs * x.den) (x.den * y.den) := by
  rw [Rat.add_def']
  unfold mkQ
  congr 1
  have h1 := num_ng x
  have h2 := num_ng y
  rw [← h] at h2
  cases hx : ng x <;> rw [hx] at h1 h2 <;> simp only [if_true, if_false, Bool.false_eq_true] at h1 h2 ⊢ <;> rw [h1, h2] <;> simp <;> grind
theorem add_diff (x y : Rat) (h : ng x ≠ ng y) (hle : y.num.natAbs * x.den ≤ x.num.natAbs * y.den) : x + y = mkQ (ng x) (x.num.natAbs * y.den - y.num.natAbs * x.den) (x.den * y.den) := by
  rw [Rat.add_def']
  unfold mkQ
  congr 1
  have h1 := num_ng x
  have h2 := num_ng y
  have h3 : ((x.num.natAbs * y.den - y.num.natAbs * x.den : Nat) : Int) = x.num.natAbs * y.den - y.num.natAbs * x.den := by
    rw [Int.ofNat_sub hle]; simp
  rw [h3]
  cases hx : ng x <;> cases hy : ng y <;> rw [hx, hy] at h <;> simp at h <;> rw [hx] at h1 <;> rw [hy] at h2 <;> simp only [if_true, if_false, Bool.false_eq_true] at h1 h2 ⊢ <;> rw [h1, h2] <;> simp <;> grind
theorem add_diff' (x y : Rat) (h : ng x ≠ ng y) (hle : x.num.natAbs * y.den ≤ y.num.natAbs * x.den) : x + y = mkQ (ng y) (y.num.natAbs * x.den - x.num.natAbs * y.den) (x.den * y.den) := by
  rw [Rat.add_comm, add_diff y x (Ne.symm h) hle, Nat.mul_comm y.den]
theorem mul_mk (x y : Rat) : x * y = mkQ (ng x != ng y) (x.num.natAbs * y.num.natAbs) (x.den * y.den) := by
  rw [Rat.mul_def']
  unfold mkQ
  congr 1
  have h1 := num_ng x
  have h2 := num_ng y
  cases hx : ng x <;> cases hy : ng y <;> rw [hx] at h1 <;> rw [hy] at h2 <;> simp only [if_true, if_false, Bool.false_eq_true, bne_self_eq_false, Bool.true_bne, Bool.false_bne, Bool.not_true, Bool.not_false] at h1 h2 ⊢ <;> rw [h1, h2] <;> simp <;> grind
theorem div_mk (x y : Rat) (hy0 : y ≠ 0) : x / y = mkQ (ng x != ng y) (x.num.natAbs * y.den) (x.den * y.num.natAbs) := by
  have hn : y.num ≠ 0 := fun h => hy0 (Rat.num_eq_zero.1 h)
  rw [Rat.div_def, Rat.mul_def', Rat.num_inv, Rat.den_inv, if_neg hn]
  unfold mkQ
  congr 1
  have h1 := num_ng x
  have h2 := num_ng y
  have h3 : ng y = true → y.num.sign = -1 := fun h => Int.sign_eq_neg_one_of_neg (by unfold ng at h; simpa using h)
  have h4 : ng y = false → y.num.sign = 1 := fun h => Int.sign_eq_one_of_pos (by unfold ng at h; have := decide_eq_false_iff_not.1 h; omega)
  cases hx : ng x <;> cases hy : ng y <;> simp only [hx, hy, if_true, if_false, Bool.false_eq_true, bne_self_eq_false, Bool.true_bne, Bool.false_bne, Bool.not_true, Bool.not_false] at h1 h2 ⊢ <;> (first | rw [h3 hy] | rw [h4 hy]) <;> rw [h1] <;> simp <;> grind
theorem ng_neg (q : Rat) : ng (-q) = (!ng q && decide (q ≠ 0)) := by
  unfold ng
  rw [Rat.neg_num]
  have h0 : q ≠ 0 ↔ q.num ≠ 0 := not_congr Rat.num_eq_zero.symm
  rw [Bool.eq_iff_iff]
  simp only [decide_eq_true_eq, Bool.and_eq_true, Bool.not_eq_true', decide_eq_false_iff_not, h0]
  omega
theorem natAbs_zero_iff (q : Rat) : q.num.natAbs = 0 ↔ q = 0 := by
  rw [Int.natAbs_eq_zero, Rat.num_eq_zero]
theorem SzQ.add {K L : Nat} {x y : Rat} (hx : SzQ K x) (hy : SzQ L y) : SzQ (K + L + 1) (x + y) := by
  have hd : x.den * y.den ≠ 0 := Nat.mul_ne_zero x.den_nz y.den_nz
  have h1 : x.num.natAbs * y.den ≤ 4294967296 ^ K * 4294967296 ^ L := Nat.mul_le_mul (Nat.le_of_lt hx.1) (Nat.le_of_lt hy.2)
  have h2 : y.num.natAbs * x.den ≤ 4294967296 ^ L * 4294967296 ^ K := Nat.mul_le_mul (Nat.le_of_lt hy.1) (Nat.le_of_lt hx.2)
  have h3 : x.den * y.den ≤ 4294967296 ^ K * 4294967296 ^ L := Nat.mul_le_mul (Nat.le_of_lt hx.2) (Nat.le_of_lt hy.2)
  have h4 : 0 < 4294967296 ^ K * 4294967296 ^ L := Nat.mul_pos (Nat.pow_pos (by omega)) (Nat.pow_pos (by omega))
  rw [Nat.mul_comm (4294967296 ^ L)] at h2
  have e : 4294967296 ^ (K + L + 1) = 4294967296 ^ K * 4294967296 ^ L * 4294967296 := by rw [Nat.pow_succ, Nat.pow_add]
  generalize 4294967296 ^ K * 4294967296 ^ L = P at *
  by_cases h : ng x = ng y
  · rw [add_same x y h]
    exact mkQ_size _ _ _ hd _ (by omega) (by omega)
  · by_cases hle : y.num.natAbs * x.den ≤ x.num.natAbs * y.den
    · rw [add_diff x y h hle]
      exact mkQ_size _ _ _ hd _ (by omega) (by omega)
    · rw [add_diff' x y h (by omega)]
      exact mkQ_size _ _ _ hd _ (by omega) (by omega)
theorem pow_mul_lt {K L a b : Nat} (ha : a < 4294967296 ^ K) (hb : b < 4294967296 ^ L) : a * b < 4294967296 ^ (K + L) := by
  rw [Nat.pow_add]
  rcases Nat.eq_zero_or_pos b with h | h
  · subst h; exact Nat.mul_pos (Nat.pow_pos (by omega)) (Nat.pow_pos (by omega))
  · exact Nat.lt_of_lt_of_le (Nat.mul_lt_mul_of_pos_right ha h) (Nat.mul_le_mul_left _ (Nat.le_of_lt hb))
theorem SzQ.mul {K L : Nat} {x y : Rat} (hx : SzQ K x) (hy : SzQ L y) : SzQ (K + L) (x * y) := by
  rw [mul_mk]
  exact mkQ_size _ _ _ (Nat.mul_ne_zero x.den_nz y.den_nz) _ (pow_mul_lt hx.1 hy.1) (pow_mul_lt hx.2 hy.2)
theorem SzQ.div {K L : Nat} {x y : Rat} (hx : SzQ K x) (hy : SzQ L y) (hy0 : y ≠ 0) : SzQ (K + L) (x / y) := by
  rw [div_mk x y hy0]
  have : y.num.natAbs ≠ 0 := fun h => hy0 ((natAbs_zero_iff y).1 h)
  exact mkQ_size _ _ _ (Nat.mul_ne_zero x.den_nz this) _ (pow_mul_lt hx.1 hy.2) (pow_mul_lt hx.2 hy.1)
theorem SzQ.neg {K : Nat} {x : Rat} (hx : SzQ K x) : SzQ K (-x) := by
  unfold SzQ at *
  rw [Rat.neg_num, Rat.neg_den, Int.natAbs_neg]
  exact hx
theorem SzQ.sub {K L : Nat} {x y : Rat} (hx : SzQ K x) (hy : SzQ L y) : SzQ (K + L + 1) (x - y) := by
  rw [Rat.sub_eq_add_neg]
  exact hx.add hy.neg
end Go.Proofs.YtbnomdlojmgigaaGreat
namespace Go.Proofs.YtbnomdlojmgigaaGreat
open Go.RowKit Dg
structure Only (g : Nat) (w w' : World) : Prop where
  os : w'.os = w.os
  tape : w'.tape = w.tape
  output : w'.output = w.output
  size : w.heap.size ≤ w'.heap.size
  block : ∀ k, k < w.heap.size → k ≠ g → w'.heap[k]? = w.heap[k]?
theorem Only.refl (g : Nat) (w : World) : Only g w w := ⟨rfl, rfl, rfl, Nat.le_refl _, fun _ _ _ => rfl⟩
theorem Only.trans {g : Nat} {a b c : World} (h : Only g a b) (k : Only g b c) : Only g a c :=
  ⟨k.os.trans h.os, k.tape.trans h.tape, k.output.trans h.output, Nat.le_trans h.size k.size, fun i hi hg => (k.block i (Nat.lt_of_lt_of_le hi h.size) hg).trans (h.block i hi hg)⟩
theorem Only.of_below {g : Nat} {w w' : World} (h : Below w.heap.size w w') : Only g w w' := ⟨h.os, h.tape, h.output, h.size, fun k hk _ => h.block k hk⟩
theorem Only.setCell {g : Nat} {a w : World} (h : Only g a w) (j : Nat) (u : Value) : Only g a (w.setCell ⟨g, j, none⟩ u) :=
  h.trans ⟨rfl, rfl, rfl, by simp [World.setCell], fun k _ hg => Below.heap_setCell _ _ _ _ hg⟩
theorem Only.below {g B : Nat} {w w' : World} (h : Only g w w') (hB : B ≤ g) (hB' : B ≤ w.heap.size) : Below B w w' := ⟨h.os, h.tape, h.output, h.size, fun k hk => h.block k (by omega) (by omega)⟩
theorem Only.drawN {g : Nat} {a w : World} (h : Only g a w) (n : Nat) : Only g a (w.drewN n) := ⟨h.os, h.tape, h.output, h.size, h.block⟩
theorem Only.drew {g : Nat} {a w : World} (h : Only g a w) : Only g a w.drew := ⟨h.os, h.tape, h.output, h.size, h.block⟩
theorem cell_only {g : Nat} {w w' : World} (h : Only g w w') {p : Addr} (hp : p.block < w.heap.size) (hg : p.block ≠ g) : w'.cell? p = w.cell? p := World.cell?_of_block (w := w) (h.block p.block hp hg)
theorem Sl.only {k : IntKind} {w w' : World} {ao : Option Addr} {n c : Nat} {l : List Nat} (h : Sl k w ao n c l) {g : Nat} (ha : Away g (.slice ao n c)) (ho : Only g w w') : Sl k w' ao n c l := by
  refine ⟨h.len, h.cap, h.max, ?_, h.nil, fun a e hn => ?_⟩
  rotate_left
  · obtain ⟨cs, fr, h1⟩ := h.ty a e hn
    exact ⟨cs, fr, (ho.block a.block (lt_of_block h1) (ha a n c (by rw [e]) hn)).trans h1⟩
  intro i hi
  obtain ⟨b, o, e, hc⟩ := h.cells i hi
  refine ⟨b, o, e, fun j hj => ?_⟩
  have h1 := hc j hj
  have h2 := cell_lt h1
  subst e
  have h3 := ha ⟨b, o, none⟩ n c rfl (by have := h.len; omega)
  rw [cell_only ho (p := ⟨b, o + j, none⟩) h2 h3]
  exact h1
theorem NatV.only {k : IntKind} {B : Nat} {w w' : World} {v : Value} {x : Nat} (h : NatV k B w v x) {g : Nat} (ha : Away g v) (ho : Only g w w') : NatV k B w' v x := by
  obtain ⟨ao, n, c, l, e, hs, hc, hv⟩ := h
  subst e
  exact ⟨ao, n, c, l, rfl, hs.only ha ho, hc, hv⟩
theorem Blk.only {k : IntKind} {e : TypeId} {w w' : World} {g g' : Nat} {l : List Nat} (h : Blk k e w g l) (ho : Only g' w w') (hg : g ≠ g') : Blk k e w' g l := (ho.block g h.lt hg).trans h
def BlkC (k : IntKind) (e : TypeId) (w : World) (g : Nat) (l : List Nat) (r : List Value) : Prop := w.heap[g]? = some (.cells ((l.map fun x : Nat => Value.int k (x : Int)) ++ r).toArray e (0, 0))
theorem BlkC.lt {k : IntKind} {e : TypeId} {w : World} {g : Nat} {l : List Nat} {r : List Value} (h : BlkC k e w g l r) : g < w.heap.size := lt_of_block h
theorem BlkC.cell {k : IntKind} {e : TypeId} {w : World} {g : Nat} {l : List Nat} {r : List Value} (h : BlkC k e w g l r) {j : Nat} (hj : j < l.length) :
    w.cell? ⟨g, j, none⟩ = some (.int k ((l[j]?.getD 0 : Nat) : Int)) := by
  unfold BlkC at h
  simp only [World.cell?, h]
  simp [List.getElem?_append_left, hj]
theorem BlkC.free {k : IntKind} {e : TypeId} {w : World} {g : Nat} {l : List Nat} {r : List Value} (h : BlkC k e w g l r) (j : Nat) : w.frozen? ⟨g, j, none⟩ = false := by
  unfold BlkC at h
  simp [World.frozen?, h]
theorem BlkC.set {k : IntKind} {e : TypeId} {w : World} {g : Nat} {l : List Nat} {r : List Value} (h : BlkC k e w g l r) (j x : Nat) (hj : j < l.length) : BlkC k e (w.setCell ⟨g, j, none⟩ (.int k (x : Int))) g (l.set j x) r := by
  unfold BlkC at h ⊢
  simp only [World.setCell, Array.getElem?_modify, ↓reduceIte, h, Option.map_some]
  congr 2
  apply Array.ext'
  simp [List.set_append, hj, List.map_set]
theorem BlkC.below {k : IntKind} {e : TypeId} {w w' : World} {g : Nat} {l : List Nat} {r : List Value} (h : BlkC k e w g l r) (hb : Below w.heap.size w w') : BlkC k e w' g l r := (hb.block g h.lt).trans h
theorem BlkC.only {k : IntKind} {e : TypeId} {w w' : World} {g g' : Nat} {l : List Nat} {r : List Value} (h : BlkC k e w g l r) (hb : Only g' w w') (hg : g ≠ g') : BlkC k e w' g l r := (hb.block g h.lt hg).trans h
theorem BlkC.drewN {k : IntKind} {e : TypeId} {w : World} {g : Nat} {l : List Nat} {r : List Value} (h : BlkC k e w g l r) (q : Nat) : BlkC k e (w.drewN q) g l r := h
theorem BlkC.sl {k : IntKind} {e : TypeId} {w : World} {g : Nat} {A o C : List Nat} {r : List Value} (h : BlkC k e w g (A ++ o ++ C) r) (c : Nat) (hc : o.length ≤ c) (hm : c ≤ 9223372036854775807) (he : e = tyOf k := by rfl) :
    Sl k w (some ⟨g, A.length, none⟩) o.length c o :=
  ⟨rfl, hc, hm, fun i _ => ⟨g, A.length, rfl, fun j hj => by
    rw [h.cell (by simp; omega)]
    rw [List.append_assoc, List.getElem?_append_right (by omega), List.getElem?_append_left (by omega)]
    simp⟩, (fun e => by cases e), (fun a e' _ => by cases e'; exact ⟨_, _, he ▸ h⟩)⟩
theorem set_mid (A o C : List Nat) (j x : Nat) (hj : j < o.length) : (A ++ o ++ C).set (A.length + j) x = A ++ o.set j x ++ C := by
  rw [List.append_assoc, List.set_append, if_neg (by omega), List.set_append, if_pos (by omega), List.append_assoc]
  congr 3
  omega
theorem get_mid (A o C : List Nat) (j : Nat) (hj : j < o.length) : (A ++ o ++ C)[A.length + j]?.getD 0 = o[j]?.getD 0 := by
  rw [List.append_assoc, List.getElem?_append_right (by omega), List.getElem?_append_left (by omega)]
  simp
theorem BlkC.of_owns {k : IntKind} {e : TypeId} {w : World} {base : Nat} {v : Value} {n : Nat} {l : List Nat} (h : w.ownsRow base e 1 v n (l.map fun x : Nat => Value.int k (x : Int))) (hv : v ≠ .slice none 0 0 ∨ 0 < n) :
    ∃ g c r, v = .slice (some ⟨g, 0, none⟩) n c ∧ base ≤ g ∧ BlkC k e w g l r ∧ n ≤ c ∧ c ≤ 9223372036854775807 ∧ l.length = n := by
  have hl := h.1
  rw [List.length_map, Nat.mul_one] at hl
  rcases h.2 with ⟨rfl, rfl⟩ | ⟨g, cap, cur, rfl, hg, hh, hn, hcap, hsz, htk⟩
  · rcases hv with hv | hv
    · exact absurd rfl hv
    · omega
  · refine ⟨g, cap, cur.toList.drop n, rfl, hg, ?_, hn, by simpa [maxLen] using hcap, hl⟩
    unfold BlkC
    rw [Nat.mul_one] at htk
    rw [hh, ← htk, List.take_append_drop]
end Go.Proofs.YtbnomdlojmgigaaGreat
namespace Go.Proofs.YtbnomdlojmgigaaGreat
open Go.RowKit Dg
def TyB (t : TypeId) (w : World) (g : Nat) : Prop := ∃ cs fr, w.heap[g]? = some (.cells cs t fr)
theorem TyB.lt {t : TypeId} {w : World} {g : Nat} (h : TyB t w g) : g < w.heap.size := by
  obtain ⟨cs, fr, h⟩ := h
  exact lt_of_block h
theorem TyB.mono {t : TypeId} {w w' : World} {g : Nat} (h : TyB t w g) (hb : Below w.heap.size w w') : TyB t w' g := by
  obtain ⟨cs, fr, h1⟩ := h
  exact ⟨cs, fr, (hb.block g (lt_of_block h1)).trans h1⟩
theorem TyB.store {t : TypeId} {w : World} {g : Nat} (h : TyB t w g) (p : Addr) (v : Value) : TyB t (w.setCell p v) g := by
  obtain ⟨cs, fr, h1⟩ := h
  exact Lies.store (n := 1) (ao := some ⟨g, 0, none⟩) (fun a e _ => by cases e; exact ⟨cs, fr, h1⟩) p v _ rfl (by omega)
theorem TyB.new (t : TypeId) (w : World) (cs : Array Value) : TyB t (w.alloc (.cells cs t)) w.heap.size := ⟨cs, (0, 0), heap_alloc_new w _⟩
theorem TyB.ne {t t' : TypeId} {w : World} {g g' : Nat} (h : TyB t w g) (h' : TyB t' w g') (hne : t ≠ t') : g ≠ g' := by
  rintro rfl
  obtain ⟨cs, fr, h⟩ := h
  obtain ⟨cs', fr', h'⟩ := h'
  rw [h] at h'
  injection h' with h'
  injection h' with _ ht
  exact hne ht
theorem Lies.ne {t T : TypeId} {w : World} {ao : Option Addr} {n g : Nat} (h : Lies t w ao n) (hg : TyB T w g) (hne : T ≠ t) {a : Addr} (e : ao = some a) (hn : 0 < n) : a.block ≠ g := by
  obtain ⟨cs, fr, h1⟩ := h a e hn
  exact TyB.ne ⟨cs, fr, h1⟩ hg (Ne.symm hne)
structure OnlyT (T : TypeId) (w w' : World) : Prop where
  size : w.heap.size ≤ w'.heap.size
  block : ∀ k, k < w.heap.size → ¬ TyB T w k → w'.heap[k]? = w.heap[k]?
theorem OnlyT.refl (T : TypeId) (w : World) : OnlyT T w w := ⟨Nat.le_refl _, fun _ _ _ => rfl⟩
theorem OnlyT.store {T : TypeId} {w : World} {g : Nat} (hg : TyB T w g) (j : Nat) (u : Value) : OnlyT T w (w.setCell ⟨g, j, none⟩ u) :=
  ⟨by simp [World.setCell], fun k _ hn => Below.heap_setCell _ _ _ _ (fun e => hn (by subst e; exact hg))⟩
theorem OnlyT.cell {T : TypeId} {w w' : World} (h : OnlyT T w w') {a : Addr} {v : Value} (hc : w.cell? a = some v) (hn : ¬ TyB T w a.block) : w'.cell? a = some v :=
  (World.cell?_of_block (h.block a.block (cell_lt hc) hn)).trans hc
theorem OnlyT.ty {T t : TypeId} {w w' : World} (h : OnlyT T w w') {g : Nat} (hg : TyB t w g) (hne : T ≠ t) : TyB t w' g := by
  have hlt := hg.lt
  obtain ⟨cs, fr, h1⟩ := id hg
  exact ⟨cs, fr, (h.block g hlt (fun hT => (TyB.ne hT hg hne) rfl)).trans h1⟩
theorem OnlyT.of_below {T : TypeId} {w w' : World} (h : Below w.heap.size w w') : OnlyT T w w' := ⟨h.size, fun k hk _ => h.block k hk⟩
theorem OnlyT.trans {T : TypeId} {a b c : World} (h : OnlyT T a b) (h' : OnlyT T b c) : OnlyT T a c :=
  ⟨Nat.le_trans h.size h'.size, fun k hk hn => (h'.block k (Nat.lt_of_lt_of_le hk h.size) (fun hT => hn (by
    obtain ⟨cs, fr, h1⟩ := hT
    exact Classical.byContradiction fun hc => hc ⟨cs, fr, (h.block k hk hc).symm.trans h1⟩))).trans (h.block k hk hn)⟩
theorem OnlyT.set {T : TypeId} {a w : World} {g : Nat} (h : OnlyT T a w) (hg : TyB T w g) (j : Nat) (u : Value) : OnlyT T a (w.setCell ⟨g, j, none⟩ u) := h.trans (.store hg j u)
theorem OnlyT.alloc {T : TypeId} {a w : World} (h : OnlyT T a w) (o : Obj) : OnlyT T a (w.alloc o) := h.trans (.of_below ((Below.refl _ _).alloc (Nat.le_refl _) o))
theorem OnlyT.drew {T : TypeId} {a w : World} (h : OnlyT T a w) : OnlyT T a w.drew := h.trans (.of_below (Below.refl _ _).drew)
theorem Sl.onlyT {k : IntKind} {T : TypeId} {w w' : World} {ao : Option Addr} {n c : Nat} {l : List Nat} (h : Sl k w ao n c l) (ho : OnlyT T w w') (hne : T ≠ tyOf k) : Sl k w' ao n c l := by
  refine ⟨h.len, h.cap, h.max, ?_, h.nil, fun a e hn => ?_⟩
  · intro i hi
    obtain ⟨b, o, e, hc⟩ := h.cells i hi
    refine ⟨b, o, e, fun j hj => ho.cell (hc j hj) (fun hT => ?_)⟩
    exact h.ty.ne hT hne e (by have := h.len; omega) rfl
  · exact ho.ty (h.ty a e hn) hne
theorem NatV.onlyT {k : IntKind} {B : Nat} {T : TypeId} {w w' : World} {v : Value} {x : Nat} (h : NatV k B w v x) (ho : OnlyT T w w') (hne : T ≠ tyOf k) : NatV k B w' v x := by
  obtain ⟨ao, n, c, l, e, hs, hc, hv⟩ := h
  exact ⟨ao, n, c, l, e, hs.onlyT ho hne, hc, hv⟩
section
variable {w w' : World} {base : Nat} {e : TypeId} {size : Nat} {v : Value} {n : Nat} {xs : List Value}
theorem grown_of_below (h : Below w.heap.size w w') (row : Option Nat) : w.grownBy w' row := ⟨h.os, h.tape, h.output, h.size, fun i hi _ => h.block i hi⟩
theorem owns_below (h : w.ownsRow base e size v n xs) (hb : Below w.heap.size w w') : w'.ownsRow base e size v n xs :=
  h.kept (grown_of_below hb none) (by cases v.ownBlock <;> simp)
theorem owns_ty (h : w.ownsRow base e size v n xs) {g : Nat} (hg : v.ownBlock = some g) : TyB e w g := by
  rcases h.2 with ⟨rfl, _⟩ | ⟨g', cap, cur, rfl, _, hgg, _⟩
  · simp [Value.ownBlock] at hg
  · simp [Value.ownBlock] at hg
    subst hg
    exact ⟨_, _, hgg⟩
theorem owns_onlyT (h : w.ownsRow base e size v n xs) (hg : w.grownBy w' v.ownBlock) : OnlyT e w w' :=
  ⟨hg.size, fun k hk hn => hg.block k hk (fun he => hn (owns_ty h he.symm))⟩
theorem owns_belowB {w0 : World} (h : w.ownsRow base e size v n xs) (hg : w.grownBy w' v.ownBlock) (hb : Below base w0 w) (hB : base ≤ w.heap.size) : Below base w0 w' :=
  hb.grown hg hB (fun k hk => (h.lt k hk).1)
theorem owns_other {e' : TypeId} {base' size' n' : Nat} {v' : Value} {xs' : List Value} (h : w.ownsRow base' e' size' v' n' xs') (ho : OnlyT e w w') (hne : e ≠ e') : w'.ownsRow base' e' size' v' n' xs' := by
  refine ⟨h.1, ?_⟩
  rcases h.2 with hn | ⟨g, cap, cur, rfl, hb, hgg, rest⟩
  · exact .inl hn
  · exact .inr ⟨g, cap, cur, rfl, hb, (ho.block g (lt_of_block hgg) (fun hT => (TyB.ne hT ⟨_, _, hgg⟩ hne) rfl)).trans hgg, rest⟩
theorem owns_slice (h : w.ownsRow base e size v n xs) : ∃ ao c, v = .slice ao n c ∧ n ≤ c ∧ c ≤ 9223372036854775807 ∧ (ao = none → c = 0) := by
  rcases h.2 with ⟨rfl, rfl⟩ | ⟨g, cap, cur, rfl, _, _, hn, hcap, _⟩
  · exact ⟨_, _, rfl, Nat.le_refl _, by omega, fun _ => rfl⟩
  · exact ⟨_, _, rfl, hn, by simpa [maxLen] using hcap, fun e => by cases e⟩
end
theorem news_new (w : World) (cs : List Value) (t : TypeId) : ∀ j u, cs[j]? = some u → (w.alloc (.cells cs.toArray t)).cell? ((⟨w.heap.size, 0, none⟩ : Addr).add j) = some u := by
  intro j u hu
  rw [add_plain, World.cell?_alloc_at _ _ _ _ rfl]
  simpa using hu
end Go.Proofs.YtbnomdlojmgigaaGreat
