/-
  A stop for the walk ahead of an operation of one's own choice. No function of the program is in sight here.
-/
import Derived.Test.YtbnomdlojmgigaaGreatPkA2Q
set_option linter.unusedSimpArgs false
set_option linter.unusedVariables false
namespace Go.Proofs.YtbnomdlojmgigaaGreat
open Go.RowKit Dg
structure Stopped (p : Prop) : Prop where
  out : p
theorem wpList.stop {P : Program} {ops : Array Oper} {Q : Exit → Act → World → Prop} {l : List Oper} {a : Act} {w : World} (h : Stopped (wpList P ops Q l a w)) : wpList P ops Q l a w := h.out
end Go.Proofs.YtbnomdlojmgigaaGreat
