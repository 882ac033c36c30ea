/-
  The contracts of small functions of scan, of its reference: whole, over, thrown; zero, one, quotient, reflect.
-/
import Derived.Test.YtmnipggjjcmjkaaGreatPkOps
set_option linter.unusedSimpArgs false
set_option linter.unusedVariables false
namespace Go.Proofs.YtmnipggjjcmjkaaGreat
open Go.RowKit Dg
attribute [local go_sem ↓] Go.wp_at_zero Go.wp_at_succ







end Go.Proofs.YtmnipggjjcmjkaaGreat
/-
  The contract of scan's above.
-/
namespace Go.Proofs.YtmnipggjjcmjkaaGreat
open Go.RowKit Dg
attribute [local go_sem ↓] Go.wp_at_zero Go.wp_at_succ

/-- Are all above 0? -/
def allPos (l : List Rat) : Bool := l.all fun x => decide (0 < x)
theorem allPos_take (l : List Rat) (k : Nat) (x : Rat) (h : l[k]? = some x) (ht : allPos (l.take k) = true) : allPos (l.take (k + 1)) = decide (0 < x) := by
  have hk : k < l.length := (List.getElem?_eq_some_iff.1 h).1
  have hx : l[k] = x := (List.getElem?_eq_some_iff.1 h).2
  unfold allPos at *
  rw [List.take_succ_eq_append_getElem hk, List.all_append, ht, hx]
  simp
theorem allPos_false (l : List Rat) (k : Nat) (h : allPos (l.take k) = false) : allPos l = false := by
  unfold allPos at *
  rw [List.all_eq_false] at *
  obtain ⟨x, hx, h⟩ := h
  exact ⟨x, List.mem_of_mem_take hx, h⟩

end Go.Proofs.YtmnipggjjcmjkaaGreat
