/-
  The contracts of the reference's natural numbers, third part: halved, Bits, Product, Shifted.
-/
import Derived.Test.YtmnipggjjcmjkaaRefNat1
import Derived.Test.YtmnipggjjcmjkaaPkPlain
import Derived.Test.YtmnipggjjcmjkaaRefNat2
import Derived.Deep.QuietTactic
import Derived.BigQuiet
import Derived.Deep.LoopGhost
set_option linter.unusedSimpArgs false
set_option linter.unusedVariables false
namespace Go.Proofs.Ytmnipggjjcmjkaa
open Go.RowKit Dg



theorem val_bound {B : Nat} (hB : 0 < B) {i m a P : Nat} {l l' : List Nat} (hl : Digs B l) (hl' : Digs B l') (hi : (l.take i).length ≤ i) (hm : l'.length = m) (ha : a < B) (hP : P = val B (l.take i) * val B l') :
    P + a * val B l' * B ^ i < B ^ (i + m + 1) := by
  subst hP
  have h1 := val_lt hB (hl.take i)
  have h2 := val_lt hB hl'
  rw [hm] at h2
  have h3 : B ^ (l.take i).length ≤ B ^ i := Nat.pow_le_pow_right hB hi
  generalize val B (l.take i) = u at *
  generalize val B l' = v at *
  rw [Nat.pow_succ, Nat.pow_add]
  have hu : u < B ^ i := by omega
  generalize B ^ i = I at *
  generalize B ^ m = M at *
  have a1 : u * v ≤ I * v := Nat.mul_le_mul_right _ (by omega)
  have a2 : (a + 1) * v * I ≤ B * v * I := Nat.mul_le_mul_right _ (Nat.mul_le_mul_right _ ha)
  have a3 : B * I * (v + 1) ≤ B * I * M := Nat.mul_le_mul_left _ h2
  have hI : 0 < I := by omega
  have a4 : 0 < B * I := Nat.mul_pos hB hI
  grind

theorem top_small {B : Nat} {ol : List Nat} {j carry T : Nat} (hB : 0 < B) (hj : j < ol.length) (h : val B ol + carry * B ^ j = T) (hT : T < B ^ (j + 1)) : ol[j]?.getD 0 + carry < B := by
  have h1 := val_split B ol j (by omega)
  rw [val_drop_succ _ _ _ hj] at h1
  have hp : 0 < B ^ j := Nat.pow_pos hB
  rw [Nat.pow_succ] at hT
  generalize ol[j]?.getD 0 = o at *
  have : B ^ j * (o + carry) < B ^ j * B := by
    have : B ^ j * o ≤ B ^ j * (o + B * val B (ol.drop (j + 1))) := Nat.mul_le_mul_left _ (by omega)
    rw [Nat.mul_add]
    rw [Nat.mul_comm carry] at h
    omega
  exact Nat.lt_of_mul_lt_mul_left this


end Go.Proofs.Ytmnipggjjcmjkaa
/-
  The contracts of the reference's natural numbers, fourth part: Shifted, Quotient, Divisor.
-/
namespace Go.Proofs.Ytmnipggjjcmjkaa
open Go.RowKit Dg

theorem val_zeros_append (B n : Nat) (l : List Nat) : val B (List.replicate n 0 ++ l) = val B l * B ^ n := by
  rw [val_append, val_zeros, List.length_replicate, Nat.zero_add, Nat.mul_comm]

theorem shift_parts (x s : Nat) : x * 4294967296 ^ (s / 32) * 2 ^ (s % 32) = x * 2 ^ s := by
  rw [show (4294967296 : Nat) = 2 ^ 32 from rfl, ← Nat.pow_mul, Nat.mul_assoc, ← Nat.pow_add, Nat.div_add_mod]

end Go.Proofs.Ytmnipggjjcmjkaa
/-
  The contracts of the reference's natural numbers, fifth part: Quotient and Divisor.
-/
namespace Go.Proofs.Ytmnipggjjcmjkaa
open Go.RowKit Dg

/-- Two numbers are handed back. -/
def RetNat2 (k : IntKind) (B : Nat) (w : World) (x y : Nat) (e : Ending) (w' : World) : Prop :=
  ∃ v1 v2, e = .returned (.tuple #[v1, v2]) ∧ NatV k B w' v1 x ∧ NatV k B w' v2 y ∧ Below w.heap.size w w'

theorem ordN_ge {x y : Nat} (h : y ≤ x) : 0 ≤ ordN x y := by unfold ordN; rw [if_neg (by omega)]; split <;> omega
theorem ordN_lt {x y : Nat} (h : x < y) : ordN x y < 0 := by unfold ordN; rw [if_pos h]; omega

theorem bl_len {l : List Nat} (h : Canon 4294967296 l) (n : Nat) (hn : l.length = n) : bl (val 4294967296 l) ≤ 32 * n := by
  apply bl_le_of_lt
  have := val_lt (by omega) h.1
  rw [hn] at this
  rwa [show (4294967296 : Nat) = 2 ^ 32 from rfl, ← Nat.pow_mul] at this

theorem wrap_u32_pow (s : Nat) (h : s < 32) : IntKind.u32.wrap ((2 : Int) ^ s) = ((2 ^ s : Nat) : Int) := by
  have hp : 2 ^ s < 2 ^ 32 := Nat.pow_lt_pow_right (by omega) h
  rw [show ((2 : Int) ^ s) = ((2 ^ s : Nat) : Int) from by simp]
  generalize 2 ^ s = p at *
  rw [show (2 : Nat) ^ 32 = 4294967296 from rfl] at hp
  show ((p : Int)) % 4294967296 = p
  omega

/-- The state of a division by shifts at the head of a round: k bits are left. -/
def QuoInv (w : World) (A b n : Nat) (av dv iv : Value) (wr : World) : Prop :=
  ∃ (k aA : Nat) (ql : List Nat), k ≤ n + 1 ∧ iv = .int .i64 ((k : Int) - 1) ∧ NatV .u32 4294967296 wr av aA ∧ (∀ j, k = j + 1 → NatV .u32 4294967296 wr dv (b * 2 ^ j)) ∧
    Blk .u32 153 wr w.heap.size ql ∧ ql.length = n / 32 + 1 ∧ Digs 4294967296 ql ∧ val 4294967296 ql * b + aA = A ∧ aA < b * 2 ^ k ∧ val 4294967296 ql % 2 ^ k = 0 ∧ aA ≤ A ∧ Below w.heap.size w wr ∧ Away w.heap.size av ∧ (0 < k → Away w.heap.size dv)




/-- A number of at most K digits. -/
def NatS (k : IntKind) (B K : Nat) (w : World) (v : Value) (x : Nat) : Prop := ∃ ao n c l, v = .slice ao n c ∧ Sl k w ao n c l ∧ Canon B l ∧ val B l = x ∧ n ≤ K

end Go.Proofs.Ytmnipggjjcmjkaa
/-
  The contract of the reference's decimal text of a natural number.
-/
namespace Go.Proofs.Ytmnipggjjcmjkaa
open Go.RowKit Dg

/-- A string of bytes. -/
def strV (l : List UInt8) : Value := .string ⟨l.toArray⟩

end Go.Proofs.Ytmnipggjjcmjkaa
