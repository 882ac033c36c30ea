/-
  scan.Plies: which plies have a depth.
-/
import Derived.Test.YtkfekkhhfpkfaaaGreatPkRangeG
import Derived.Test.YtkfekkhhfpkfaaaGreatPkScanG
set_option linter.unusedSimpArgs false
set_option linter.unusedVariables false
namespace Go.Proofs.YtkfekkhhfpkfaaaGreat
open Go.RowKit Dg
attribute [local go_sem ↓] Go.wp_at_zero Go.wp_at_succ
theorem nthQ_pos {L : List Rat} (h : allPos L = true) (i : Nat) (hi : i < L.length) : 0 < nthQ L i := by
 have := List.all_eq_true.1 h _ (List.mem_of_getElem? (nthQ_some hi))
 simpa using this
theorem sc_above_true {v : Value} {l : List Rat} {w : World} (h : allPos l = true) (hl : Rows 3 32 PC w v l) : Calls Tryz.prog 51 #[v] w (RetV w (.bool true)) := h ▸ sc_above v l w hl
theorem sc_above_false {v : Value} {l : List Rat} {w : World} (h : allPos l = false) (hl : Rows 3 32 PC w v l) : Calls Tryz.prog 51 #[v] w (RetV w (.bool false)) := h ▸ sc_above v l w hl
end Go.Proofs.YtkfekkhhfpkfaaaGreat
