/-
  Maps of sums, as alike keeps them: what they read as, before, during and behind a range over one of them. No function of the program is walked here.
-/
import Derived.Test.YtlmemilmhdhgbaaGreatAlk0O
import Derived.Test.YtlmemilmhdhgbaaGreatPkAlBO
import Derived.Maps.RangeWalk
import Derived.Maps.OwnOps
import Derived.Maps.Ext
import Derived.Carry
set_option linter.unusedSimpArgs false
set_option linter.unusedVariables false
namespace Go.Proofs.YtlmemilmhdhgbaaGreat
open Go Go.Maps Go.RowKit Dg
section
variable {H : Type}
end
structure Btw (B t : Nat) (w w' : World) : Prop where
  os : w'.os = w.os
  tape : w'.tape = w.tape
  output : w'.output = w.output
  size : w.heap.size ≤ w'.heap.size
  block : ∀ k, k < B → k ≠ t → w'.heap[k]? = w.heap[k]?
end Go.Proofs.YtlmemilmhdhgbaaGreat
