/-
  Law 07: span: a range of plain data, the program's and the reference's one.
-/
import Derived.Test.YtlfnapfnpkhggaaPkRangeH
import Derived.Test.YtlfnapfnpkhggaaRangeR
import Derived.Test.YtlfnapfnpkhggaaPkLaw
set_option linter.unusedSimpArgs false
set_option linter.unusedVariables false
namespace Go.Proofs.Ytlfnapfnpkhggaa
open Go.RowKit Dg
attribute [local go_sem ↓] Go.wp_at_zero Go.wp_at_succ

theorem mnL2 (x y : Rat) : mnL [x, x, y, y] 3 = mnQ x y := by
  have e : mnL [x, x, y, y] 3 = if y < (if y < (if x < x then x else x) then y else (if x < x then x else x)) then y else (if y < (if x < x then x else x) then y else (if x < x then x else x)) := rfl
  rw [e, if_neg (Rat.lt_irrefl (a := x))]
  unfold mnQ
  by_cases h : y < x
  · rw [if_pos h, if_neg (Rat.lt_irrefl (a := y)), if_neg (Rat.not_le.2 h)]
  · rw [if_neg h, if_neg h, if_pos (Rat.not_lt.1 h)]
theorem mxL2 (x y : Rat) : mxL [x, x, y, y] 3 = mxQ x y := by
  have e : mxL [x, x, y, y] 3 = if (if (if x < x then x else x) < y then y else (if x < x then x else x)) < y then y else (if (if x < x then x else x) < y then y else (if x < x then x else x)) := rfl
  rw [e, if_neg (Rat.lt_irrefl (a := x))]
  unfold mxQ
  by_cases h : x < y
  · rw [if_pos h, if_neg (Rat.lt_irrefl (a := y)), if_neg (Rat.not_le.2 h)]
  · rw [if_neg h, if_neg h, if_pos (Rat.not_lt.1 h)]
theorem p_Only_ {w : World} {v : Value} {x : Rat} (h : PV w v x) : Calls Try.prog 29 #[v] w (Ret1 (fun w v => PV2 w v x x) w) := p_Only _ _ _ h


end Go.Proofs.Ytlfnapfnpkhggaa
