/-
  The contract of the reference's Echoes.
-/
import Derived.Test.YtkfekkhhfpkfaaaGreatPkScanQ
import Derived.Test.YtkfekkhhfpkfaaaGreatPkOpsQ
import Derived.Test.YtkfekkhhfpkfaaaGreatPkHeldQ
set_option linter.unusedSimpArgs false
set_option linter.unusedVariables false
namespace Go.Proofs.YtkfekkhhfpkfaaaGreat
open Go.RowKit Dg
attribute [local go_sem ↓] Go.wp_at_zero Go.wp_at_succ
theorem layPos_take (l : List Lay) (k : Nat) (x : Lay) (h : l[k]? = some x) (ht : (l.take k).all layPos = true) : (l.take (k + 1)).all layPos = layPos x := by
 have hk : k < l.length := (List.getElem?_eq_some_iff.1 h).1
 have hx : l[k] = x := (List.getElem?_eq_some_iff.1 h).2
 rw [List.take_succ_eq_append_getElem hk, List.all_append, ht, hx]
 simp
theorem layPos_false (l : List Lay) (k : Nat) (h : (l.take k).all layPos = false) : l.all layPos = false := by
 rw [List.all_eq_false] at *
 obtain ⟨x, hx, h⟩ := h
 exact ⟨x, List.mem_of_mem_take hx, h⟩
end Go.Proofs.YtkfekkhhfpkfaaaGreat
namespace Go.Proofs.YtkfekkhhfpkfaaaGreat
open Go.RowKit Dg
attribute [local go_sem ↓] Go.wp_at_zero Go.wp_at_succ
end Go.Proofs.YtkfekkhhfpkfaaaGreat
