/-
  Law 07: the layers of plain data, in the program's form and in the reference's one.
-/
import Derived.Test.YtkfekkhhfpkfaaaGreatLawC
import Derived.Test.YtkfekkhhfpkfaaaGreatPkLaw
import Derived.Test.YtkfekkhhfpkfaaaGreatPkOps
import Derived.Test.YtkfekkhhfpkfaaaGreatPkHeld
set_option linter.unusedSimpArgs false
set_option linter.unusedVariables false
namespace Go.Proofs.YtkfekkhhfpkfaaaGreat
open Go.RowKit Dg
attribute [local go_sem ↓] Go.wp_at_zero Go.wp_at_succ

theorem layP_info : (Tryz.prog.info? 120).map (fun i => (i.zero, i.size, i.bytes)) = some (some (.agg #[.bool false, .slice none 0 0, .slice none 0 0, .bool false, .slice none 0 0, .slice none 0 0, .bool false, .slice none 0 0, .slice none 0 0]), 9, 168) := by kernel_rfl

def layF (x : DL) : Lay := (fracQ x.1.1 x.1.2, fracQ x.2.1.1 x.2.1.2, fracQ x.2.2.1 x.2.2.2)

end Go.Proofs.YtkfekkhhfpkfaaaGreat
