/-
  The contracts of the reference's fractions, second part: the numbers' contracts said of values; Add.
-/
import Derived.Test.YtmnipggjjcmjkaaRefRat1
set_option linter.unusedSimpArgs false
set_option linter.unusedVariables false
namespace Go.Proofs.Ytmnipggjjcmjkaa
open Go.RowKit Dg
attribute [local go_sem ↓] Go.wp_at_zero Go.wp_at_succ

theorem keepcell {w w' : World} {a : Addr} {v : Value} (h : w.cell? a = some v) (hb : Below w.heap.size w w') : w'.cell? a = some v := by
  rw [hb.cell (p := a) (cell_lt h)]; exact h

/-- The world W lies behind w: what was there in w is there in W. -/
def Since (w W : World) : Prop := Below w.heap.size w W
theorem Since.step {w W W' : World} (h : Since w W) (hb : Below W.heap.size W W') : Since w W' := Below.trans h (hb.mono (Below.size h))
theorem Since.refl (w : World) : Since w w := Below.refl _ _
theorem Since.rv {w W : World} {v : Value} {q : Rat} (hs : Since w W) (h : RV w v q) : RV W v q := h.mono hs
theorem Since.nv {k : IntKind} {B : Nat} {w W : World} {v : Value} {x : Nat} (hs : Since w W) (h : NatV k B w v x) : NatV k B W v x := h.mono hs

theorem RetNat.n {k : IntKind} {B : Nat} {w : World} {x : Nat} {e : Ending} {w' : World} (h : RetNat k B w x e w') : RetN k B w x e w' := let ⟨v, e, hv, hb, _⟩ := h; ⟨v, e, hv, hb⟩

/-- A value is handed back. -/
def RetI (w : World) (v : Value) (e : Ending) (w' : World) : Prop := e = .returned v ∧ Below w.heap.size w w'

theorem Box3.mono {w w' : World} {g : Nat} {u0 u1 u2 : Value} (h : Box3 w g u0 u1 u2) (hb : Below w.heap.size w w') : Box3 w' g u0 u1 u2 := h.below hb
theorem cell3 {w : World} {b o g : Nat} {v u0 u1 u2 : Value} (h : w.cell? ⟨b, o, none⟩ = some v) (hne : b ≠ g) : (((w.setCell ⟨g, 0, none⟩ u0).setCell ⟨g, 1, none⟩ u1).setCell ⟨g, 2, none⟩ u2).cell? ⟨b, o, none⟩ = some v := by
  rw [World.cell?_setCell_other _ _ _ _ (by intro e; simp only [Addr.mk.injEq] at e; omega), World.cell?_setCell_other _ _ _ _ (by intro e; simp only [Addr.mk.injEq] at e; omega), World.cell?_setCell_other _ _ _ _ (by intro e; simp only [Addr.mk.injEq] at e; omega)]
  exact h
theorem below_drewN (w : World) (q : Nat) : Below w.heap.size w (w.drewN q) := belowN (Below.refl _ _) q

set_option maxRecDepth 100000 in







theorem below_drew (w : World) : Below w.heap.size w w.drew := (Below.refl _ _).drew


end Go.Proofs.Ytmnipggjjcmjkaa
