/-
  The contracts of the reference's fractions, second part: the numbers' contracts said of values; Add.
-/
import Derived.Test.YtmnipggjjcmjkaaRefRat1O
set_option linter.unusedSimpArgs false
set_option linter.unusedVariables false
namespace Go.Proofs.Ytmnipggjjcmjkaa
open Go.RowKit Dg
attribute [local go_sem ↓] Go.wp_at_zero Go.wp_at_succ
def Since (w W : World) : Prop := Below w.heap.size w W
theorem Since.step {w W W' : World} (h : Since w W) (hb : Below W.heap.size W W') : Since w W' := Below.trans h (hb.mono (Below.size h))
theorem Since.refl (w : World) : Since w w := Below.refl _ _
theorem Since.rv {w W : World} {v : Value} {q : Rat} (hs : Since w W) (h : RV w v q) : RV W v q := h.mono hs
theorem Since.nv {k : IntKind} {B : Nat} {w W : World} {v : Value} {x : Nat} (hs : Since w W) (h : NatV k B w v x) : NatV k B W v x := h.mono hs
theorem RetNat.n {k : IntKind} {B : Nat} {w : World} {x : Nat} {e : Ending} {w' : World} (h : RetNat k B w x e w') : RetN k B w x e w' := let ⟨v, e, hv, hb, _⟩ := h; ⟨v, e, hv, hb⟩
theorem Box3.mono {w w' : World} {g : Nat} {u0 u1 u2 : Value} (h : Box3 w g u0 u1 u2) (hb : Below w.heap.size w w') : Box3 w' g u0 u1 u2 := h.below hb
theorem below_drewN (w : World) (q : Nat) : Below w.heap.size w (w.drewN q) := belowN (Below.refl _ _) q
end Go.Proofs.Ytmnipggjjcmjkaa
