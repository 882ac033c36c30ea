/-
  The program's Mul of ranges.
-/
import Derived.Test.YtkfekkhhfpkfaaaGreatPkRangeHQ
import Derived.Test.YtkfekkhhfpkfaaaGreatPkScanQ
set_option linter.unusedSimpArgs false
set_option linter.unusedVariables false
namespace Go.Proofs.YtkfekkhhfpkfaaaGreat
open Go.RowKit Dg
attribute [local go_sem ↓] Go.wp_at_zero Go.wp_at_succ
end Go.Proofs.YtkfekkhhfpkfaaaGreat
namespace Go.Proofs.YtkfekkhhfpkfaaaGreat
open Go.RowKit Dg
attribute [local go_sem ↓] Go.wp_at_zero Go.wp_at_succ
theorem mn4_sz {K : Nat} {a b c d : Rat} (ha : SzQ K a) (hb : SzQ K b) (hc : SzQ K c) (hd : SzQ K d) : SzQ K (mnL [a, b, c, d] 3) := mnL_all (p := SzQ K) (fun i hi => by
 match i, hi with
 | 0, _ => exact ha
 | 1, _ => exact hb
 | 2, _ => exact hc
 | 3, _ => exact hd) 3 (by simp)
theorem mx4_sz {K : Nat} {a b c d : Rat} (ha : SzQ K a) (hb : SzQ K b) (hc : SzQ K c) (hd : SzQ K d) : SzQ K (mxL [a, b, c, d] 3) := mxL_all (p := SzQ K) (fun i hi => by
 match i, hi with
 | 0, _ => exact ha
 | 1, _ => exact hb
 | 2, _ => exact hc
 | 3, _ => exact hd) 3 (by simp)
def mulLo (x y z u : Rat) : Rat := mnL [x * z, x * u, y * z, y * u] 3
def mulHi (x y z u : Rat) : Rat := mxL [x * z, x * u, y * z, y * u] 3
theorem mul_sz {K M : Nat} {x y z u : Rat} (hx : SzQ K x) (hy : SzQ K y) (hz : SzQ M z) (hu : SzQ M u) : SzQ (K + M) (mulLo x y z u) ∧ SzQ (K + M) (mulHi x y z u) :=
 ⟨mn4_sz (.mul hx hz) (.mul hx hu) (.mul hy hz) (.mul hy hu), mx4_sz (.mul hx hz) (.mul hx hu) (.mul hy hz) (.mul hy hu)⟩
def halfQ : Rat := ((1 : Int) : Rat) / ((2 : Int) : Rat)
theorem szQ_half : SzQ 2 halfQ := SzQ.mono (szQ_frac (n := 1) (d := 2) (by decide) (by decide) (by decide)) (by omega)
end Go.Proofs.YtkfekkhhfpkfaaaGreat
