/-
  The contracts of the reference's fractions, second part: the numbers' contracts said of values; Add.
-/
import Derived.Test.YtbnomdlojmgigaaGreatPkA13Q
set_option linter.unusedSimpArgs false
set_option linter.unusedVariables false
set_option maxRecDepth 100000
set_option maxHeartbeats 4000000
namespace Go.Proofs.YtbnomdlojmgigaaGreat
open Go.RowKit Dg
attribute [local go_sem ↓] Go.wp_at_zero Go.wp_at_succ
theorem keepcell {w w' : World} {a : Addr} {v : Value} (h : w.cell? a = some v) (hb : Below w.heap.size w w') : w'.cell? a = some v := by
 rw [hb.cell (p := a) (cell_lt h)]; exact h
def Since (w W : World) : Prop := Below w.heap.size w W
theorem Since.step {w W W' : World} (h : Since w W) (hb : Below W.heap.size W W') : Since w W' := Below.trans h (hb.mono (Below.size h))
theorem Since.refl (w : World) : Since w w := Below.refl _ _
theorem Since.rv {w W : World} {v : Value} {q : Rat} (hs : Since w W) (h : RV w v q) : RV W v q := h.mono hs
theorem Since.nv {k : IntKind} {B : Nat} {w W : World} {v : Value} {x : Nat} (hs : Since w W) (h : NatV k B w v x) : NatV k B W v x := h.mono hs
theorem RetNat.n {k : IntKind} {B : Nat} {w : World} {x : Nat} {e : Ending} {w' : World} (h : RetNat k B w x e w') : RetN k B w x e w' := let ⟨v, e, hv, hb, _⟩ := h; ⟨v, e, hv, hb⟩
def RetI (w : World) (v : Value) (e : Ending) (w' : World) : Prop := e = .returned v ∧ Below w.heap.size w w'
theorem Box3.mono {w w' : World} {g : Nat} {u0 u1 u2 : Value} (h : Box3 w g u0 u1 u2) (hb : Below w.heap.size w w') : Box3 w' g u0 u1 u2 := h.below hb
theorem cell3 {w : World} {b o g : Nat} {v u0 u1 u2 : Value} (h : w.cell? ⟨b, o, none⟩ = some v) (hne : b ≠ g) : (((w.setCell ⟨g, 0, none⟩ u0).setCell ⟨g, 1, none⟩ u1).setCell ⟨g, 2, none⟩ u2).cell? ⟨b, o, none⟩ = some v := by
 rw [World.cell?_setCell_other _ _ _ _ (by intro e; simp only [Addr.mk.injEq] at e; omega), World.cell?_setCell_other _ _ _ _ (by intro e; simp only [Addr.mk.injEq] at e; omega), World.cell?_setCell_other _ _ _ _ (by intro e; simp only [Addr.mk.injEq] at e; omega)]
 exact h
theorem below_drewN (w : World) (q : Nat) : Below w.heap.size w (w.drewN q) := belowN (Below.refl _ _) q
theorem ret_RV {fn : Func} {p : Tmp} {w0 w1 w : World} {g : Nat} {q : Rat} {s : Bool} {v1 v2 u0 u1 u2 : Value} {a : Act} (hr : fn.results = #[.cell p 53]) (ha : a.tmps.getD p undef = .pointer (some ⟨g, 0, none⟩)) (hdef : a.defers = [])
  (hbox : Box3 w1 g u0 u1 u2) (hni : NoInt w1 g) (hw : w = ((w1.setCell ⟨g, 0, none⟩ (.bool s)).setCell ⟨g, 1, none⟩ v1).setCell ⟨g, 2, none⟩ v2)
  {q' : Rat} (hq : q = q') (h : RV w1 (.agg #[.bool s, v1, v2]) q') (hb : Since w0 w1) (hg : w0.heap.size ≤ g) :
  bodyPost Tryz.prog fn (RetQ w0 q) .ret a w := by
 subst hq
 obtain ⟨vn, vd, d, e, h1, h2, hd⟩ := h
 simp only [Value.agg.injEq, Array.mk.injEq, List.cons.injEq, Value.bool.injEq] at e
 obtain ⟨rfl, rfl, rfl, _⟩ := e
 exact ret_R hr ha hdef hbox hni hw rfl h1 h2 hd hb hg
theorem rn_Nat (x : Nat) (w : World) (h : x < 18446744073709551616) : Calls Tryz.prog 91 #[.int .u64 (x : Int)] w (RetN .u32 4294967296 w x) := by
 have := (r_Nat_calls x w (by omega) (by omega)).mono fun e w' h => h.n
 rwa [Int.toNat_natCast] at this
theorem rn_Sum {v1 v2 : Value} {x y K : Nat} {w : World} (h1 : NatV .u32 4294967296 w v1 x) (h2 : NatV .u32 4294967296 w v2 y) (hx : x < 4294967296 ^ K) (hy : y < 4294967296 ^ K) (hK : K ≤ 1099511627776) :
  Calls Tryz.prog 151 #[v1, v2] w (RetN .u32 4294967296 w (x + y)) := by
 obtain ⟨a1, n1, c1, l1, rfl, Bb, B9, rfl, hn1⟩ := h1.sz hx
 obtain ⟨a2, n2, c2, l2, rfl, Bc, Ba, rfl, hn2⟩ := h2.sz hy
 exact (r_Sum_calls _ _ _ _ _ _ _ _ _ Bb Bc B9.1 Ba.1 (by omega) (by omega)).mono fun e w' h => h.n
theorem rn_Difference {v1 v2 : Value} {x y K : Nat} {w : World} (h1 : NatV .u32 4294967296 w v1 x) (h2 : NatV .u32 4294967296 w v2 y) (hx : x < 4294967296 ^ K) (hy : y ≤ x) (hK : K ≤ 1099511627776) :
  Calls Tryz.prog 149 #[v1, v2] w (RetN .u32 4294967296 w (x - y)) := by
 obtain ⟨a1, n1, c1, l1, rfl, Bb, B9, rfl, hn1⟩ := h1.sz hx
 obtain ⟨a2, n2, c2, l2, rfl, Bc, Ba, rfl⟩ := h2
 exact (r_Difference_calls _ _ _ _ _ _ _ _ _ Bb Bc B9 Ba hy (by omega)).mono fun e w' h => h.n
theorem rn_Product {v1 v2 : Value} {x y K L : Nat} {w : World} (h1 : NatV .u32 4294967296 w v1 x) (h2 : NatV .u32 4294967296 w v2 y) (hx : x < 4294967296 ^ K) (hy : y < 4294967296 ^ L) (hK : K ≤ 1099511627776) (hL : L ≤ 1099511627776) :
  Calls Tryz.prog 126 #[v1, v2] w (RetN .u32 4294967296 w (x * y)) := by
 obtain ⟨a1, n1, c1, l1, rfl, Bb, B9, rfl, hn1⟩ := h1.sz hx
 obtain ⟨a2, n2, c2, l2, rfl, Bc, Ba, rfl, hn2⟩ := h2.sz hy
 exact (r_Product_calls _ _ _ _ _ _ _ _ _ Bb Bc B9.1 Ba.1 (by omega) (by omega)).mono fun e w' h => h.n
theorem rn_Order {v1 v2 : Value} {x y : Nat} {w : World} (h1 : NatV .u32 4294967296 w v1 x) (h2 : NatV .u32 4294967296 w v2 y) :
  Calls Tryz.prog 89 #[v1, v2] w (RetI w (.int .i64 (ordN x y))) := by
 obtain ⟨a1, n1, c1, l1, rfl, Bb, B9, rfl⟩ := h1
 obtain ⟨a2, n2, c2, l2, rfl, Bc, Ba, rfl⟩ := h2
 exact (r_Order_calls _ _ _ _ _ _ _ _ _ Bb Bc B9 Ba).mono fun e w' ⟨q, he, hw⟩ => ⟨he, by rw [hw]; exact below_drewN w q⟩
theorem below_drew (w : World) : Below w.heap.size w w.drew := (Below.refl _ _).drew
theorem r_Add_calls (vx vy : Value) (x y : Rat) (K : Nat) (w : World) (hx : RV w vx x) (hy : RV w vy y) (hK : K ≤ 134217728) (sx : SzQ K x) (sy : SzQ K y) :
  Calls Tryz.prog 127 #[vx, vy] w (RetQ w (x + y)) := by
 obtain ⟨xn, xd, xe, rfl, B0, hxd, hxe⟩ := id hx
 obtain ⟨yn, yd, ye, rfl, B1, hyd, hye⟩ := id hy
 obtain ⟨a1, n1, c1, l1, rfl, _⟩ := id B0
 obtain ⟨a2, n2, c2, l2, rfl, _⟩ := id hxd
 obtain ⟨a3, n3, c3, l3, rfl, _⟩ := id B1
 obtain ⟨a4, n4, c4, l4, rfl, _⟩ := id hyd
 clear hxd hxe hyd hye
 have sx1 := sx.1
 have Bf := sx.2
 have sy1 := sy.1
 have Bg := sy.2
 have hd0 : x.den * y.den ≠ 0 := Nat.mul_ne_zero x.den_nz y.den_nz
 have zA : x.num.natAbs * y.den < 4294967296 ^ (K + K) := pow_mul_lt sx1 Bg
 have zB : y.num.natAbs * x.den < 4294967296 ^ (K + K) := pow_mul_lt sy1 Bf
 have zD : x.den * y.den < 4294967296 ^ (K + K) := pow_mul_lt Bf Bg
 have hp : 4294967296 ^ (K + K) ≤ 4294967296 ^ (K + K + 1) := Nat.pow_le_pow_right (by omega) (by omega)
 have hp2 : 2 * 4294967296 ^ (K + K) ≤ 4294967296 ^ (K + K + 1) := by rw [Nat.pow_succ]; omega
 have zD' := Nat.lt_of_lt_of_le zD hp
 have Be : K ≤ 1099511627776 := by omega
 have hK2 : K + K ≤ 1099511627776 := by omega
 have hK3 : K + K + 1 ≤ 536870912 := by omega
 have e1 := add_same x y
 have e2 := add_diff x y
 have e3 := add_diff' x y
 generalize hN1 : x.num.natAbs * y.den = N1 at *
 generalize hN2 : y.num.natAbs * x.den = N2 at *
 generalize hN3 : x.den * y.den = N3 at *
 have hS' : N1 + N2 < 4294967296 ^ (K + K + 1) := by omega
 have hS1 : N1 - N2 < 4294967296 ^ (K + K + 1) := by omega
 have hS2 : N2 - N1 < 4294967296 ^ (K + K + 1) := by omega
 generalize x + y = xy at *
 generalize hsx : ng x = bx at *
 generalize hsy : ng y = bY at *
 have E1 := Lib.hid e1
 have E2 := Lib.hid e2
 have E3 := Lib.hid e3
 have HN1 := Lib.hid hN1
 have HN2 := Lib.hid hN2
 have HN3 := Lib.hid hN3
 clear e1 e2 e3 hN1 hN2 hN3 hsx hsy hp hp2
 have hSa := Lib.hid hS'
 have hSb := Lib.hid hS1
 have hSc := Lib.hid hS2
 clear hS' hS1 hS2
 go_enter Tryz.func127, Tryz.ntmps127
 go_wp2_with fail
 generalize hw0 : ((w.alloc (.cells #[.bool bx, .slice a1 n1 c1, .slice a2 n2 c2] 53)).alloc (.cells #[.bool bY, .slice a3 n3 c3, .slice a4 n4 c4] 53)).alloc (.cells #[.bool false, .slice none 0 0, .slice none 0 0] 53) = w0
 have hs : Since w w0 := by rw [← hw0]; exact (((Below.refl _ _).alloc (Nat.le_refl _) _).alloc (by simp) _).alloc (by simp; omega) _
 have hbx : Box3 w0 w.heap.size (.bool bx) (.slice a1 n1 c1) (.slice a2 n2 c2) := by rw [← hw0]; exact ((Box3.new w _ _ _ _).alloc _).alloc _
 have hby : Box3 w0 (w.heap.size + 1) (.bool bY) (.slice a3 n3 c3) (.slice a4 n4 c4) := by rw [← hw0]; exact (Box3.new' _ _ _ _ _ _ (by simp)).alloc _
 have hz : Box3 w0 (w.heap.size + 1 + 1) (.bool false) (.slice none 0 0) (.slice none 0 0) := by rw [← hw0]; exact Box3.new' _ _ _ _ _ _ (by simp)
 have hx := hs.rv hx
 have hy := hs.rv hy
 have B0 := hs.nv B0
 have B1 := hs.nv B1
 clear hw0
 have B8 : w.heap.size ≠ w.heap.size + 1 + 1 := by omega
 have Bd : w.heap.size + 1 ≠ w.heap.size + 1 + 1 := by omega
 obtain ⟨x0, x1, x2⟩ := hbx.cells
 obtain ⟨y0, y1, y2⟩ := hby.cells
 have hs := Since.step hs (below_drew _)
 have x0 := keepcell x0 (below_drew _)
 have x1 := keepcell x1 (below_drew _)
 have x2 := keepcell x2 (below_drew _)
 have y0 := keepcell y0 (below_drew _)
 have y1 := keepcell y1 (below_drew _)
 have y2 := keepcell y2 (below_drew _)
 have hx := hx.mono (below_drew _)
 have hy := hy.mono (below_drew _)
 have B0 := B0.mono (below_drew _)
 have B1 := B1.mono (below_drew _)
 have hz := hz.mono (below_drew _)
 go_region_held3 (fun w' => w'.cell? ⟨w.heap.size, 0, none⟩ = some (.bool bx) ∧ w'.cell? ⟨w.heap.size, 1, none⟩ = some (.slice a1 n1 c1) ∧ w'.cell? ⟨w.heap.size, 2, none⟩ = some (.slice a2 n2 c2) ∧ w'.cell? ⟨w.heap.size + 1, 0, none⟩ = some (.bool bY) ∧ w'.cell? ⟨w.heap.size + 1, 1, none⟩ = some (.slice a3 n3 c3) ∧ w'.cell? ⟨w.heap.size + 1, 2, none⟩ = some (.slice a4 n4 c4))
  (first | exact ⟨x0, x1, x2, y0, y1, y2⟩ | exact ⟨cell3 x0 B8, cell3 x1 B8, cell3 x2 B8, cell3 y0 Bd, cell3 y1 Bd, cell3 y2 Bd⟩ | go_keep)
  (first
   | (go_at_call 90; (with_reducible refine (r_under_calls _ y _ hy).mono ?_); rintro e w1 ⟨_, rfl, B2, hb⟩; obtain ⟨_, _, _, _, rfl, _⟩ := id B2; have hs := Since.step hs hb; have x0 := keepcell x0 hb; have x1 := keepcell x1 hb; have x2 := keepcell x2 hb; have y0 := keepcell y0 hb; have y1 := keepcell y1 hb; have y2 := keepcell y2 hb; have hx := hx.mono hb; have hy := hy.mono hb; have B0 := B0.mono hb; have B1 := B1.mono hb; have hz := hz.mono hb)
   | (go_at_call 126; (with_reducible refine (rn_Product B0 B2 sx1 Bg Be Be).mono ?_); rintro e w2 ⟨_, rfl, hA, hb⟩; obtain ⟨_, _, _, _, rfl, _⟩ := id hA; have hs := Since.step hs hb; have x0 := keepcell x0 hb; have x1 := keepcell x1 hb; have x2 := keepcell x2 hb; have y0 := keepcell y0 hb; have y1 := keepcell y1 hb; have y2 := keepcell y2 hb; have hx := hx.mono hb; have hy := hy.mono hb; have B0 := B0.mono hb; have B1 := B1.mono hb; have hz := hz.mono hb; have B2 := B2.mono hb; rw [HN1.out] at hA)
   | (go_at_call 90; (with_reducible refine (r_under_calls _ x _ hx).mono ?_); rintro e w3 ⟨_, rfl, B3, hb⟩; obtain ⟨_, _, _, _, rfl, _⟩ := id B3; have hs := Since.step hs hb; have x0 := keepcell x0 hb; have x1 := keepcell x1 hb; have x2 := keepcell x2 hb; have y0 := keepcell y0 hb; have y1 := keepcell y1 hb; have y2 := keepcell y2 hb; have hx := hx.mono hb; have hy := hy.mono hb; have B0 := B0.mono hb; have B1 := B1.mono hb; have hz := hz.mono hb; have B2 := B2.mono hb; have hA := hA.mono hb)
   | (go_at_call 126; (with_reducible refine (rn_Product B1 B3 sy1 Bf Be Be).mono ?_); rintro e w4 ⟨_, rfl, hB, hb⟩; obtain ⟨_, _, _, _, rfl, _⟩ := id hB; have hs := Since.step hs hb; have x0 := keepcell x0 hb; have x1 := keepcell x1 hb; have x2 := keepcell x2 hb; have y0 := keepcell y0 hb; have y1 := keepcell y1 hb; have y2 := keepcell y2 hb; have hx := hx.mono hb; have hy := hy.mono hb; have B0 := B0.mono hb; have B1 := B1.mono hb; have hz := hz.mono hb; have B2 := B2.mono hb; have hA := hA.mono hb; have B3 := B3.mono hb; rw [HN2.out] at hB))
 go_wp2
 have hs := Since.step hs (below_drew _)
 have x0 := keepcell x0 (below_drew _)
 have x1 := keepcell x1 (below_drew _)
 have x2 := keepcell x2 (below_drew _)
 have y0 := keepcell y0 (below_drew _)
 have y1 := keepcell y1 (below_drew _)
 have y2 := keepcell y2 (below_drew _)
 have hx := hx.mono (below_drew _)
 have hy := hy.mono (below_drew _)
 have B0 := B0.mono (below_drew _)
 have B1 := B1.mono (below_drew _)
 have hz := hz.mono (below_drew _)
 have B2 := B2.mono (below_drew _)
 have hA := hA.mono (below_drew _)
 have B3 := B3.mono (below_drew _)
 have hB := hB.mono (below_drew _)
 go_region_held3 (fun w' => w'.cell? ⟨w.heap.size, 0, none⟩ = some (.bool bx) ∧ w'.cell? ⟨w.heap.size, 1, none⟩ = some (.slice a1 n1 c1) ∧ w'.cell? ⟨w.heap.size, 2, none⟩ = some (.slice a2 n2 c2) ∧ w'.cell? ⟨w.heap.size + 1, 0, none⟩ = some (.bool bY) ∧ w'.cell? ⟨w.heap.size + 1, 1, none⟩ = some (.slice a3 n3 c3) ∧ w'.cell? ⟨w.heap.size + 1, 2, none⟩ = some (.slice a4 n4 c4))
  (first | exact ⟨x0, x1, x2, y0, y1, y2⟩ | exact ⟨cell3 x0 B8, cell3 x1 B8, cell3 x2 B8, cell3 y0 Bd, cell3 y1 Bd, cell3 y2 Bd⟩ | go_keep)
  (first
   | (go_at_call 90; (with_reducible refine (r_under_calls _ x _ hx).mono ?_); rintro e w5 ⟨_, rfl, B4, hb⟩; obtain ⟨_, _, _, _, rfl, _⟩ := id B4; have hs := Since.step hs hb; have x0 := keepcell x0 hb; have x1 := keepcell x1 hb; have x2 := keepcell x2 hb; have y0 := keepcell y0 hb; have y1 := keepcell y1 hb; have y2 := keepcell y2 hb; have hx := hx.mono hb; have hy := hy.mono hb; have B0 := B0.mono hb; have B1 := B1.mono hb; have hz := hz.mono hb; have B2 := B2.mono hb; have hA := hA.mono hb; have B3 := B3.mono hb; have hB := hB.mono hb)
   | (go_at_call 90; (with_reducible refine (r_under_calls _ y _ hy).mono ?_); rintro e w6 ⟨_, rfl, B6, hb⟩; obtain ⟨_, _, _, _, rfl, _⟩ := id B6; have hs := Since.step hs hb; have x0 := keepcell x0 hb; have x1 := keepcell x1 hb; have x2 := keepcell x2 hb; have y0 := keepcell y0 hb; have y1 := keepcell y1 hb; have y2 := keepcell y2 hb; have hx := hx.mono hb; have hy := hy.mono hb; have B0 := B0.mono hb; have B1 := B1.mono hb; have hz := hz.mono hb; have B2 := B2.mono hb; have hA := hA.mono hb; have B3 := B3.mono hb; have hB := hB.mono hb; have B4 := B4.mono hb)
   | (go_at_call 126; (with_reducible refine (rn_Product B4 B6 Bf Bg Be Be).mono ?_); rintro e w7 ⟨_, rfl, B5, hb⟩; obtain ⟨_, _, _, _, rfl, _⟩ := id B5; have hs := Since.step hs hb; have x0 := keepcell x0 hb; have x1 := keepcell x1 hb; have x2 := keepcell x2 hb; have y0 := keepcell y0 hb; have y1 := keepcell y1 hb; have y2 := keepcell y2 hb; have hx := hx.mono hb; have hy := hy.mono hb; have B0 := B0.mono hb; have B1 := B1.mono hb; have hz := hz.mono hb; have B2 := B2.mono hb; have hA := hA.mono hb; have B3 := B3.mono hb; have hB := hB.mono hb; have B4 := B4.mono hb; have B6 := B6.mono hb; rw [HN3.out] at B5))
 by_cases hbb : bx = bY
 ·subst hbb
  go_wp2
  have hs := Since.step hs (below_drew _)
  have x0 := keepcell x0 (below_drew _)
  have x1 := keepcell x1 (below_drew _)
  have x2 := keepcell x2 (below_drew _)
  have y0 := keepcell y0 (below_drew _)
  have y1 := keepcell y1 (below_drew _)
  have y2 := keepcell y2 (below_drew _)
  have hx := hx.mono (below_drew _)
  have hy := hy.mono (below_drew _)
  have B0 := B0.mono (below_drew _)
  have B1 := B1.mono (below_drew _)
  have hz := hz.mono (below_drew _)
  have B2 := B2.mono (below_drew _)
  have hA := hA.mono (below_drew _)
  have B3 := B3.mono (below_drew _)
  have hB := hB.mono (below_drew _)
  have B4 := B4.mono (below_drew _)
  have B6 := B6.mono (below_drew _)
  have B5 := B5.mono (below_drew _)
  go_region_held3 (fun w' => w'.cell? ⟨w.heap.size, 0, none⟩ = some (.bool bx))
   (first | exact x0 | exact cell3 x0 B8 | go_keep)
   (first
    | (go_at_call 151; (with_reducible refine (rn_Sum hA hB zA zB hK2).mono ?_); rintro e w8 ⟨_, rfl, hS, hb⟩; obtain ⟨_, _, _, _, rfl, _⟩ := id hS; have hs := Since.step hs hb; have x0 := keepcell x0 hb; have x1 := keepcell x1 hb; have x2 := keepcell x2 hb; have y0 := keepcell y0 hb; have y1 := keepcell y1 hb; have y2 := keepcell y2 hb; have hx := hx.mono hb; have hy := hy.mono hb; have B0 := B0.mono hb; have B1 := B1.mono hb; have hz := hz.mono hb; have B2 := B2.mono hb; have hA := hA.mono hb; have B3 := B3.mono hb; have hB := hB.mono hb; have B4 := B4.mono hb; have B6 := B6.mono hb; have B5 := B5.mono hb)
    | (go_at_call 92; (with_reducible refine (r_made_calls bx _ _ _ _ _ _ hS B5 hd0 hK3 hSa.out zD').mono ?_); rintro e w9 ⟨_, rfl, hQ, hb⟩; obtain ⟨_, _, _, rfl, ⟨_, _, _, _, rfl, _⟩, ⟨_, _, _, _, rfl, _⟩, _⟩ := id hQ; have hs := Since.step hs hb; have x0 := keepcell x0 hb; have x1 := keepcell x1 hb; have x2 := keepcell x2 hb; have y0 := keepcell y0 hb; have y1 := keepcell y1 hb; have y2 := keepcell y2 hb; have hx := hx.mono hb; have hy := hy.mono hb; have B0 := B0.mono hb; have B1 := B1.mono hb; have hz := hz.mono hb; have B2 := B2.mono hb; have hA := hA.mono hb; have B3 := B3.mono hb; have hB := hB.mono hb; have B4 := B4.mono hb; have B6 := B6.mono hb; have B5 := B5.mono hb; have hS := hS.mono hb; obtain ⟨z0, z1, z2⟩ := hz.cells; have hf := hz.free))
  go_wp2
  exact ret_RV rfl rfl rfl hz (hz.noInt (by simp) (by simp) (by simp)) rfl (E1.out (by first | rfl | trivial)) hQ hs (by omega)
 have hbb' : (bx == bY) = false := by rw [beq_eq_false_iff_ne]; exact hbb
 have HBB := Lib.hid hbb
 clear hbb
 go_wp2_with fail
 refine (rn_Order hA hB).mono ?_
 rintro e w8 ⟨rfl, hb⟩
 have hs := Since.step hs hb
 have x0 := keepcell x0 hb
 have x1 := keepcell x1 hb
 have x2 := keepcell x2 hb
 have y0 := keepcell y0 hb
 have y1 := keepcell y1 hb
 have y2 := keepcell y2 hb
 have hx := hx.mono hb
 have hy := hy.mono hb
 have B0 := B0.mono hb
 have B1 := B1.mono hb
 have hz := hz.mono hb
 have B2 := B2.mono hb
 have hA := hA.mono hb
 have B3 := B3.mono hb
 have hB := hB.mono hb
 have B4 := B4.mono hb
 have B6 := B6.mono hb
 have B5 := B5.mono hb
 by_cases B7 : N2 ≤ N1
 ·have hord := ordN_ge B7
  have HLE := Lib.hid B7
  have hq := E2.out HBB.out B7
  have HQQ := Lib.hid hq
  clear hq
  go_wp2
  have hs := Since.step hs (below_drew _)
  have x0 := keepcell x0 (below_drew _)
  have x1 := keepcell x1 (below_drew _)
  have x2 := keepcell x2 (below_drew _)
  have y0 := keepcell y0 (below_drew _)
  have y1 := keepcell y1 (below_drew _)
  have y2 := keepcell y2 (below_drew _)
  have hx := hx.mono (below_drew _)
  have hy := hy.mono (below_drew _)
  have B0 := B0.mono (below_drew _)
  have B1 := B1.mono (below_drew _)
  have hz := hz.mono (below_drew _)
  have B2 := B2.mono (below_drew _)
  have hA := hA.mono (below_drew _)
  have B3 := B3.mono (below_drew _)
  have hB := hB.mono (below_drew _)
  have B4 := B4.mono (below_drew _)
  have B6 := B6.mono (below_drew _)
  have B5 := B5.mono (below_drew _)
  go_region_held3 (fun w' => w'.cell? ⟨w.heap.size, 0, none⟩ = some (.bool bx))
   (first | exact x0 | exact cell3 x0 B8 | go_keep)
   (first
    | (go_at_call 149; (with_reducible refine (rn_Difference hA hB zA B7 hK2).mono ?_); rintro e w9 ⟨_, rfl, hS, hb⟩; obtain ⟨_, _, _, _, rfl, _⟩ := id hS; have hs := Since.step hs hb; have x0 := keepcell x0 hb; have x1 := keepcell x1 hb; have x2 := keepcell x2 hb; have y0 := keepcell y0 hb; have y1 := keepcell y1 hb; have y2 := keepcell y2 hb; have hx := hx.mono hb; have hy := hy.mono hb; have B0 := B0.mono hb; have B1 := B1.mono hb; have hz := hz.mono hb; have B2 := B2.mono hb; have hA := hA.mono hb; have B3 := B3.mono hb; have hB := hB.mono hb; have B4 := B4.mono hb; have B6 := B6.mono hb; have B5 := B5.mono hb)
    | (go_at_call 92; (with_reducible refine (r_made_calls bx _ _ _ _ _ _ hS B5 hd0 hK3 hSb.out zD').mono ?_); rintro e w10 ⟨_, rfl, hQ, hb⟩; obtain ⟨_, _, _, rfl, ⟨_, _, _, _, rfl, _⟩, ⟨_, _, _, _, rfl, _⟩, _⟩ := id hQ; have hs := Since.step hs hb; have x0 := keepcell x0 hb; have x1 := keepcell x1 hb; have x2 := keepcell x2 hb; have y0 := keepcell y0 hb; have y1 := keepcell y1 hb; have y2 := keepcell y2 hb; have hx := hx.mono hb; have hy := hy.mono hb; have B0 := B0.mono hb; have B1 := B1.mono hb; have hz := hz.mono hb; have B2 := B2.mono hb; have hA := hA.mono hb; have B3 := B3.mono hb; have hB := hB.mono hb; have B4 := B4.mono hb; have B6 := B6.mono hb; have B5 := B5.mono hb; have hS := hS.mono hb; obtain ⟨z0, z1, z2⟩ := hz.cells; have hf := hz.free))
  go_wp2
  exact ret_RV rfl rfl rfl hz (hz.noInt (by simp) (by simp) (by simp)) rfl (HQQ.out) hQ hs (by omega)
 have hord := ordN_lt (show N1 < N2 by omega)
 have B7 : N1 ≤ N2 := by omega
 have HLE := Lib.hid B7
 have hq := E3.out HBB.out B7
 have HQQ := Lib.hid hq
 clear hq
 go_wp2
 have hs := Since.step hs (below_drew _)
 have x0 := keepcell x0 (below_drew _)
 have x1 := keepcell x1 (below_drew _)
 have x2 := keepcell x2 (below_drew _)
 have y0 := keepcell y0 (below_drew _)
 have y1 := keepcell y1 (below_drew _)
 have y2 := keepcell y2 (below_drew _)
 have hx := hx.mono (below_drew _)
 have hy := hy.mono (below_drew _)
 have B0 := B0.mono (below_drew _)
 have B1 := B1.mono (below_drew _)
 have hz := hz.mono (below_drew _)
 have B2 := B2.mono (below_drew _)
 have hA := hA.mono (below_drew _)
 have B3 := B3.mono (below_drew _)
 have hB := hB.mono (below_drew _)
 have B4 := B4.mono (below_drew _)
 have B6 := B6.mono (below_drew _)
 have B5 := B5.mono (below_drew _)
 go_region_held3 (fun w' => w'.cell? ⟨w.heap.size + 1, 0, none⟩ = some (.bool bY))
  (first | exact y0 | exact cell3 y0 Bd | go_keep)
  (first
   | (go_at_call 149; (with_reducible refine (rn_Difference hB hA zB B7 hK2).mono ?_); rintro e w9 ⟨_, rfl, hS, hb⟩; obtain ⟨_, _, _, _, rfl, _⟩ := id hS; have hs := Since.step hs hb; have x0 := keepcell x0 hb; have x1 := keepcell x1 hb; have x2 := keepcell x2 hb; have y0 := keepcell y0 hb; have y1 := keepcell y1 hb; have y2 := keepcell y2 hb; have hx := hx.mono hb; have hy := hy.mono hb; have B0 := B0.mono hb; have B1 := B1.mono hb; have hz := hz.mono hb; have B2 := B2.mono hb; have hA := hA.mono hb; have B3 := B3.mono hb; have hB := hB.mono hb; have B4 := B4.mono hb; have B6 := B6.mono hb; have B5 := B5.mono hb)
   | (go_at_call 92; (with_reducible refine (r_made_calls bY _ _ _ _ _ _ hS B5 hd0 hK3 hSc.out zD').mono ?_); rintro e w10 ⟨_, rfl, hQ, hb⟩; obtain ⟨_, _, _, rfl, ⟨_, _, _, _, rfl, _⟩, ⟨_, _, _, _, rfl, _⟩, _⟩ := id hQ; have hs := Since.step hs hb; have x0 := keepcell x0 hb; have x1 := keepcell x1 hb; have x2 := keepcell x2 hb; have y0 := keepcell y0 hb; have y1 := keepcell y1 hb; have y2 := keepcell y2 hb; have hx := hx.mono hb; have hy := hy.mono hb; have B0 := B0.mono hb; have B1 := B1.mono hb; have hz := hz.mono hb; have B2 := B2.mono hb; have hA := hA.mono hb; have B3 := B3.mono hb; have hB := hB.mono hb; have B4 := B4.mono hb; have B6 := B6.mono hb; have B5 := B5.mono hb; have hS := hS.mono hb; obtain ⟨z0, z1, z2⟩ := hz.cells; have hf := hz.free))
 go_wp2
 exact ret_RV rfl rfl rfl hz (hz.noInt (by simp) (by simp) (by simp)) rfl (HQQ.out) hQ hs (by omega)
end Go.Proofs.YtbnomdlojmgigaaGreat
