/-
  The contract of the reference's Echoes, second part: the echoes.
-/
import Derived.Test.YtkfekkhhfpkfaaaGreatRef7Echo
set_option linter.unusedSimpArgs false
set_option linter.unusedVariables false
namespace Go.Proofs.YtkfekkhhfpkfaaaGreat
open Go.RowKit Dg
attribute [local go_sem ↓] Go.wp_at_zero Go.wp_at_succ

theorem layAt_some {l : List Lay} {k : Nat} (h : k < l.length) : l[k]? = some (layAt l k) := by unfold layAt; rw [List.getElem?_eq_getElem h]; rfl

end Go.Proofs.YtkfekkhhfpkfaaaGreat
