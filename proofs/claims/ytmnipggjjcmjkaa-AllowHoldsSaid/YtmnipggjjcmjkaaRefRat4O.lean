/-
  The contracts of the reference's fractions, fourth part: magnitude, Int, New, Of, Sub, Cmp, Same, Div.
-/
import Derived.Test.YtmnipggjjcmjkaaRefRat3O
set_option linter.unusedSimpArgs false
set_option linter.unusedVariables false
namespace Go.Proofs.Ytmnipggjjcmjkaa
open Go.RowKit Dg
attribute [local go_sem ↓] Go.wp_at_zero Go.wp_at_succ
theorem RetQ.of_eq {w : World} {q q' : Rat} {e : Ending} {w' : World} (h : RetQ w q e w') (hq : q = q') : RetQ w q' e w' := hq ▸ h
theorem frac_mk (n d : Int) (hd : d ≠ 0) : (n : Rat) / (d : Rat) = mkQ (decide (n < 0) != decide (d < 0)) n.natAbs d.natAbs := by
 have h := div_mk (n : Rat) (d : Rat) (by rwa [Ne, Rat.intCast_eq_zero_iff])
 rw [h]
 simp only [ng, Rat.num_intCast, Rat.den_intCast, Nat.mul_one, Nat.one_mul]
 rfl
def fracQ (n d : Int) : Rat := if d ≤ 0 then (n : Rat) else (n : Rat) / (d : Rat)
def textQ (q : Rat) : List UInt8 := (if ng q then [45] else []) ++ decS q.num.natAbs ++ (if q.den = 1 then [] else 47 :: decS q.den)
theorem cat_eq (w : World) (P : Program) (a b : List UInt8) (h : a.length + b.length ≤ 9223372036854775807) : (Op.stringOp .add ⟨a.toArray⟩ ⟨b.toArray⟩).run P w = .ok (.string ⟨(a ++ b).toArray⟩) w := by
 rw [run_string_add_sum, bytes_append]
 simp only [ByteArray.size, List.size_toArray]
 exact h
end Go.Proofs.Ytmnipggjjcmjkaa
