/-
  The contracts of the reference's fractions, second part: the numbers' contracts said of values; Add.
-/
import Derived.Test.YtkfekkhhfpkfaaaRefRat1
set_option linter.unusedSimpArgs false
set_option linter.unusedVariables false
namespace Go.Proofs.Ytkfekkhhfpkfaaa
open Go.RowKit Dg
attribute [local go_sem ↓] Go.wp_at_zero Go.wp_at_succ

theorem keepcell {w w' : World} {a : Addr} {v : Value} (h : w.cell? a = some v) (hb : Below w.heap.size w w') : w'.cell? a = some v := by
  rw [hb.cell (p := a) (cell_lt h)]; exact h

/-- The world W lies behind w: what was there in w is there in W. -/
def Since (w W : World) : Prop := Below w.heap.size w W
theorem Since.step {w W W' : World} (h : Since w W) (hb : Below W.heap.size W W') : Since w W' := Below.trans h (hb.mono (Below.size h))
theorem Since.refl (w : World) : Since w w := Below.refl _ _
theorem Since.rv {w W : World} {v : Value} {q : Rat} (hs : Since w W) (h : RV w v q) : RV W v q := h.mono hs
theorem Since.nv {k : IntKind} {B : Nat} {w W : World} {v : Value} {x : Nat} (hs : Since w W) (h : NatV k B w v x) : NatV k B W v x := h.mono hs

theorem RetNat.n {k : IntKind} {B : Nat} {w : World} {x : Nat} {e : Ending} {w' : World} (h : RetNat k B w x e w') : RetN k B w x e w' := let ⟨v, e, hv, hb, _⟩ := h; ⟨v, e, hv, hb⟩

/-- A value is handed back. -/
def RetI (w : World) (v : Value) (e : Ending) (w' : World) : Prop := e = .returned v ∧ Below w.heap.size w w'

theorem Box3.mono {w w' : World} {g : Nat} {u0 u1 u2 : Value} (h : Box3 w g u0 u1 u2) (hb : Below w.heap.size w w') : Box3 w' g u0 u1 u2 := h.below hb
theorem cell3 {w : World} {b o g : Nat} {v u0 u1 u2 : Value} (h : w.cell? ⟨b, o, none⟩ = some v) (hne : b ≠ g) : (((w.setCell ⟨g, 0, none⟩ u0).setCell ⟨g, 1, none⟩ u1).setCell ⟨g, 2, none⟩ u2).cell? ⟨b, o, none⟩ = some v := by
  rw [World.cell?_setCell_other _ _ _ _ (by intro e; simp only [Addr.mk.injEq] at e; omega), World.cell?_setCell_other _ _ _ _ (by intro e; simp only [Addr.mk.injEq] at e; omega), World.cell?_setCell_other _ _ _ _ (by intro e; simp only [Addr.mk.injEq] at e; omega)]
  exact h
theorem below_drewN (w : World) (q : Nat) : Below w.heap.size w (w.drewN q) := belowN (Below.refl _ _) q

set_option maxRecDepth 100000 in
/-- The end of a function that stores a fraction of the reference into a cell of its own and hands it back. -/
theorem ret_RV {fn : Func} {p : Tmp} {w0 w1 w : World} {g : Nat} {q : Rat} {s : Bool} {v1 v2 u0 u1 u2 : Value} {a : Act} (hr : fn.results = #[.cell p 64]) (ha : a.tmps.getD p undef = .pointer (some ⟨g, 0, none⟩)) (hdef : a.defers = [])
    (hbox : Box3 w1 g u0 u1 u2) (hni : NoInt w1 g) (hw : w = ((w1.setCell ⟨g, 0, none⟩ (.bool s)).setCell ⟨g, 1, none⟩ v1).setCell ⟨g, 2, none⟩ v2)
    {q' : Rat} (hq : q = q') (h : RV w1 (.agg #[.bool s, v1, v2]) q') (hb : Since w0 w1) (hg : w0.heap.size ≤ g) :
    bodyPost Try.prog fn (RetQ w0 q) .ret a w := by
  subst hq
  obtain ⟨vn, vd, d, e, h1, h2, hd⟩ := h
  simp only [Value.agg.injEq, Array.mk.injEq, List.cons.injEq, Value.bool.injEq] at e
  obtain ⟨rfl, rfl, rfl, _⟩ := e
  exact ret_R hr ha hdef hbox hni hw rfl h1 h2 hd hb hg

theorem rn_Nat (x : Nat) (w : World) (h : x < 18446744073709551616) : Calls Try.prog 65 #[.int .u64 (x : Int)] w (RetN .u32 4294967296 w x) := by
  have := (r_Nat_calls x w (by omega) (by omega)).mono fun e w' h => h.n
  rwa [Int.toNat_natCast] at this


theorem rn_Difference {v1 v2 : Value} {x y K : Nat} {w : World} (h1 : NatV .u32 4294967296 w v1 x) (h2 : NatV .u32 4294967296 w v2 y) (hx : x < 4294967296 ^ K) (hy : y ≤ x) (hK : K ≤ 1099511627776) :
    Calls Try.prog 91 #[v1, v2] w (RetN .u32 4294967296 w (x - y)) := by
  obtain ⟨a1, n1, c1, l1, rfl, hs1, hc1, rfl, hn1⟩ := h1.sz hx
  obtain ⟨a2, n2, c2, l2, rfl, hs2, hc2, rfl⟩ := h2
  exact (r_Difference_calls _ _ _ _ _ _ _ _ _ hs1 hs2 hc1 hc2 hy (by omega)).mono fun e w' h => h.n

theorem rn_Product {v1 v2 : Value} {x y K L : Nat} {w : World} (h1 : NatV .u32 4294967296 w v1 x) (h2 : NatV .u32 4294967296 w v2 y) (hx : x < 4294967296 ^ K) (hy : y < 4294967296 ^ L) (hK : K ≤ 1099511627776) (hL : L ≤ 1099511627776) :
    Calls Try.prog 94 #[v1, v2] w (RetN .u32 4294967296 w (x * y)) := by
  obtain ⟨a1, n1, c1, l1, rfl, hs1, hc1, rfl, hn1⟩ := h1.sz hx
  obtain ⟨a2, n2, c2, l2, rfl, hs2, hc2, rfl, hn2⟩ := h2.sz hy
  exact (r_Product_calls _ _ _ _ _ _ _ _ _ hs1 hs2 hc1.1 hc2.1 (by omega) (by omega)).mono fun e w' h => h.n

theorem rn_Order {v1 v2 : Value} {x y : Nat} {w : World} (h1 : NatV .u32 4294967296 w v1 x) (h2 : NatV .u32 4294967296 w v2 y) :
    Calls Try.prog 78 #[v1, v2] w (RetI w (.int .i64 (ordN x y))) := by
  obtain ⟨a1, n1, c1, l1, rfl, hs1, hc1, rfl⟩ := h1
  obtain ⟨a2, n2, c2, l2, rfl, hs2, hc2, rfl⟩ := h2
  exact (r_Order_calls _ _ _ _ _ _ _ _ _ hs1 hs2 hc1 hc2).mono fun e w' ⟨q, he, hw⟩ => ⟨he, by rw [hw]; exact below_drewN w q⟩


theorem below_drew (w : World) : Below w.heap.size w w.drew := (Below.refl _ _).drew


end Go.Proofs.Ytkfekkhhfpkfaaa
