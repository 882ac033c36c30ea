/-
  The contracts of the reference's fractions, first part: under, made, magnitude, Int, New, Of, Zero, Sign, Neg, Abs.
-/
import Derived.Test.YtmnipggjjcmjkaaPkNat
import Derived.Test.YtmnipggjjcmjkaaPkMem
import Derived.Deep.RegionHeld3
import Derived.Deep.DeepCutAuto
import Derived.Deep.DrawnRows
set_option linter.unusedSimpArgs false
set_option linter.unusedVariables false
namespace Go.Proofs.Ytmnipggjjcmjkaa
open Go.RowKit Dg

/-- A number is handed back. -/
def RetN (k : IntKind) (B : Nat) (w : World) (x : Nat) (e : Ending) (w' : World) : Prop := ∃ v, e = .returned v ∧ NatV k B w' v x ∧ Below w.heap.size w w'

/-- A fraction of the reference is handed back. -/
def RetQ (w : World) (q : Rat) (e : Ending) (w' : World) : Prop := ∃ v, e = .returned v ∧ RV w' v q ∧ Below w.heap.size w w'


theorem bcell {W w1 : World} (hb : Below W.heap.size W w1) : (∀ b o, b < W.heap.size → w1.cell? ⟨b, o, none⟩ = W.cell? ⟨b, o, none⟩) ∧ (∀ b o, b < W.heap.size → w1.frozen? ⟨b, o, none⟩ = W.frozen? ⟨b, o, none⟩) :=
  ⟨fun b o h => hb.cell (p := ⟨b, o, none⟩) h, fun b o h => hb.frozen (p := ⟨b, o, none⟩) h⟩

/-- The three cells of a fraction are stored into a block that holds no integer. -/
theorem store3 {w : World} {g : Nat} (hg : NoInt w g) {s : Bool} {v1 v2 : Value} {x y : Nat} (h1 : NatV .u32 4294967296 w v1 x) (h2 : NatV .u32 4294967296 w v2 y) :
    NatV .u32 4294967296 (((w.setCell ⟨g, 0, none⟩ (.bool s)).setCell ⟨g, 1, none⟩ v1).setCell ⟨g, 2, none⟩ v2) v1 x ∧ NatV .u32 4294967296 (((w.setCell ⟨g, 0, none⟩ (.bool s)).setCell ⟨g, 1, none⟩ v1).setCell ⟨g, 2, none⟩ v2) v2 y := by
  obtain ⟨_, _, _, _, e1, _⟩ := id h1
  have g1 := hg.set 0 (.bool s) (fun k x => by simp)
  have g2 := g1.set 1 v1 (fun k x => by rw [e1]; simp)
  exact ⟨((h1.box hg 0 _).box g1 1 _).box g2 2 _, ((h2.box hg 0 _).box g1 1 _).box g2 2 _⟩

theorem below_store3 {B : Nat} {w0 w : World} {g : Nat} (h : Below B w0 w) (hg : B ≤ g) (u1 u2 u3 : Value) : Below B w0 (((w.setCell ⟨g, 0, none⟩ u1).setCell ⟨g, 1, none⟩ u2).setCell ⟨g, 2, none⟩ u3) :=
  ((h.setCell (p := ⟨g, 0, none⟩) hg _).setCell (p := ⟨g, 1, none⟩) hg _).setCell (p := ⟨g, 2, none⟩) hg _

theorem ng_zero : ng 0 = false := by decide


set_option maxRecDepth 100000 in


theorem NatV.sz {w : World} {v : Value} {x K : Nat} (h : NatV .u32 4294967296 w v x) (hx : x < 4294967296 ^ K) : NatS .u32 4294967296 K w v x := by
  obtain ⟨ao, n, c, l, e, hs, hc, hv⟩ := h
  refine ⟨ao, n, c, l, e, hs, hc, hv, ?_⟩
  have := hc.length_le (by omega) (by rw [hv]; exact hx)
  rwa [hs.len] at this


theorem NatV.zero_of {w : World} {v : Value} (h : NatV .u32 4294967296 w v 0) : ∃ a c, v = .slice a 0 c := by
  obtain ⟨ao, n, c, l, e, hs, hc, hv⟩ := h
  have := hc.nil_of (by omega) hv
  subst this
  have := hs.len
  simp at this
  subst this
  exact ⟨_, _, e⟩

end Go.Proofs.Ytmnipggjjcmjkaa
