/-
  The contracts of the reference's fractions, fourth part: magnitude, Int, New, Of, Sub, Cmp, Same, Div.
-/
import Derived.Test.YtmnipggjjcmjkaaRefRat3
set_option linter.unusedSimpArgs false
set_option linter.unusedVariables false
namespace Go.Proofs.Ytmnipggjjcmjkaa
open Go.RowKit Dg
attribute [local go_sem ↓] Go.wp_at_zero Go.wp_at_succ

theorem RetQ.of_eq {w : World} {q q' : Rat} {e : Ending} {w' : World} (h : RetQ w q e w') (hq : q = q') : RetQ w q' e w' := hq ▸ h

/-- A fraction and an error code are handed back. -/
def RetQE (w : World) (q : Rat) (err : Int) (e : Ending) (w' : World) : Prop := ∃ v, e = .returned (.tuple #[v, .int .i64 err]) ∧ RV w' v q ∧ Below w.heap.size w w'






theorem sgQ_zero (x y : Rat) : (sgQ (x - y) == 0) = decide (x = y) := by
  rw [Bool.eq_iff_iff, beq_iff_eq, decide_eq_true_eq]
  unfold sgQ
  rw [show x = y ↔ x - y = 0 from ⟨fun h => by rw [h, Rat.sub_self], fun h => by have := Rat.sub_add_cancel (a := x) (b := y); rw [h, Rat.zero_add] at this; exact this.symm⟩, ← Rat.num_eq_zero]
  split
  · omega
  · split <;> omega



theorem int_mk (n : Int) : (n : Rat) = mkQ (decide (n < 0)) n.natAbs 1 := by
  unfold mkQ
  rw [show (if decide (n < 0) = true then -((n.natAbs : Nat) : Int) else ((n.natAbs : Nat) : Int)) = n from by split <;> simp_all <;> omega, Rat.mkRat_one]

theorem frac_mk (n d : Int) (hd : d ≠ 0) : (n : Rat) / (d : Rat) = mkQ (decide (n < 0) != decide (d < 0)) n.natAbs d.natAbs := by
  have h := div_mk (n : Rat) (d : Rat) (by rwa [Ne, Rat.intCast_eq_zero_iff])
  rw [h]
  simp only [ng, Rat.num_intCast, Rat.den_intCast, Nat.mul_one, Nat.one_mul]
  rfl

theorem lt_pow2 {n : Nat} (h : n ≤ 9223372036854775808) : n < 4294967296 ^ 2 := by omega



/-- The fraction of plain data. -/
def fracQ (n d : Int) : Rat := if d ≤ 0 then (n : Rat) else (n : Rat) / (d : Rat)


/-- The text of a fraction. -/
def textQ (q : Rat) : List UInt8 := (if ng q then [45] else []) ++ decS q.num.natAbs ++ (if q.den = 1 then [] else 47 :: decS q.den)

theorem decS_len {n K : Nat} (h : n < 4294967296 ^ K) : (decS n).length ≤ 32 * K + 1 := by
  unfold decS
  split
  · simp
  · have h1 := dgs_length n
    have h2 : bl n ≤ 32 * K := bl_le_of_lt (by rwa [show (4294967296 : Nat) = 2 ^ 32 from rfl, ← Nat.pow_mul] at h)
    omega

theorem cat_eq (w : World) (P : Program) (a b : List UInt8) (h : a.length + b.length ≤ 9223372036854775807) : (Op.stringOp .add ⟨a.toArray⟩ ⟨b.toArray⟩).run P w = .ok (.string ⟨(a ++ b).toArray⟩) w := by
  rw [run_string_add_sum, bytes_append]
  simp only [ByteArray.size, List.size_toArray]
  exact h

end Go.Proofs.Ytmnipggjjcmjkaa
