/-
  The contracts of the reference's fractions, third part: Zero, Sign, Neg, Abs, magnitude, Int, New, Of, Sub, Cmp, Same, Div, Text.
-/
import Derived.Test.YtbnomdlojmgigaaGreatRefRat2Q
import Derived.StillTailTactics
set_option linter.unusedSimpArgs false
set_option linter.unusedVariables false
set_option maxRecDepth 100000
set_option maxHeartbeats 4000000
namespace Go.Proofs.YtbnomdlojmgigaaGreat
open Go.RowKit Dg
attribute [local go_sem ↓] Go.wp_at_zero Go.wp_at_succ
def sgQ (q : Rat) : Int := if q.num < 0 then -1 else if q.num = 0 then 0 else 1
theorem r_Zero_calls (vx : Value) (x : Rat) (w : World) (hx : RV w vx x) :
  Calls Tryz.prog 113 #[vx] w (RetI w (.bool (decide (x = 0)))) := by
 obtain ⟨xn, xd, xe, rfl, B0, B1, B3⟩ := id hx
 obtain ⟨a1, n1, c1, l1, rfl, _⟩ := id B0
 obtain ⟨a2, n2, c2, l2, rfl, _⟩ := id B1
 clear B3
 obtain ⟨ao, n, c, l, e, B5, hcl, hvl⟩ := id B0
 cases e
 have hb : n1 ≤ 9223372036854775807 := by have := B5.cap; have := B5.max; omega
 have B4 : decide (x = 0) = ((n1 : Int) == 0) := by
  rw [Bool.eq_iff_iff, decide_eq_true_eq, beq_iff_eq, ← natAbs_zero_iff, ← hvl]
  have := hcl.length_pos_iff (by omega)
  rw [B5.len] at this
  omega
 rw [B4]
 clear B4 B5 hcl hvl B0 B1 hx
 go_enter Tryz.func113, Tryz.ntmps113
 go_wp2
 go_ret
 exact ⟨rfl, (Below.refl _ _).alloc (Nat.le_refl _) _⟩
theorem r_Sign_calls (vx : Value) (x : Rat) (w : World) (hx : RV w vx x) :
  Calls Tryz.prog 76 #[vx] w (RetI w (.int .i64 (sgQ x))) := by
 obtain ⟨xn, xd, xe, rfl, B0, B1, B3⟩ := id hx
 obtain ⟨a1, n1, c1, l1, rfl, _⟩ := id B0
 obtain ⟨a2, n2, c2, l2, rfl, _⟩ := id B1
 clear B3
 have B7 : sgQ x = if decide (x = 0) then 0 else if ng x then -1 else 1 := by
  unfold sgQ ng
  by_cases h0 : x = 0
  ·subst h0; decide
  have hn0 : x.num ≠ 0 := fun h => h0 (Rat.num_eq_zero.1 h)
  by_cases hneg : x.num < 0 <;> simp [h0, hn0, hneg]
 generalize B4 : decide (x = 0) = z at *
 generalize hsx : ng x = bx at *
 have HZ0 := Lib.hid B4
 clear B4 hsx
 rw [B7]
 clear B7
 cases z
 ·cases bx
  ·go_enter Tryz.func76, Tryz.ntmps76
   go_wp2_with fail
   generalize hw0 : (w.alloc (.cells #[.bool false, .slice a1 n1 c1, .slice a2 n2 c2] 53)) = w0
   have hs : Since w w0 := by rw [← hw0]; exact ((Below.refl _ _).alloc (by first | exact Nat.le_refl _ | (simp; done) | (simp; omega)) _)
   have B2 : Box3 w0 (w.heap.size) (.bool false) (.slice a1 n1 c1) (.slice a2 n2 c2) := by rw [← hw0]; exact Box3.new' _ _ _ _ _ _ (by first | rfl | (simp; done))
   have hx := hs.rv hx
   have B0 := hs.nv B0
   have B1 := hs.nv B1
   clear hw0
   obtain ⟨x0, x1, x2⟩ := B2.cells
   refine (r_Zero_calls _ _ _ hx).mono ?_
   rintro e w1 ⟨rfl, hb⟩
   have hs := Since.step hs hb
   have x0 := keepcell x0 hb
   have x1 := keepcell x1 hb
   have x2 := keepcell x2 hb
   have hx := hx.mono hb
   have B0 := B0.mono hb
   have B1 := B1.mono hb
   rw [HZ0.out]
   go_wp2
   go_ret
   exact ⟨rfl, hs⟩
  go_enter Tryz.func76, Tryz.ntmps76
  go_wp2_with fail
  generalize hw0 : (w.alloc (.cells #[.bool true, .slice a1 n1 c1, .slice a2 n2 c2] 53)) = w0
  have hs : Since w w0 := by rw [← hw0]; exact ((Below.refl _ _).alloc (by first | exact Nat.le_refl _ | (simp; done) | (simp; omega)) _)
  have B2 : Box3 w0 (w.heap.size) (.bool true) (.slice a1 n1 c1) (.slice a2 n2 c2) := by rw [← hw0]; exact Box3.new' _ _ _ _ _ _ (by first | rfl | (simp; done))
  have hx := hs.rv hx
  have B0 := hs.nv B0
  have B1 := hs.nv B1
  clear hw0
  obtain ⟨x0, x1, x2⟩ := B2.cells
  refine (r_Zero_calls _ _ _ hx).mono ?_
  rintro e w1 ⟨rfl, hb⟩
  have hs := Since.step hs hb
  have x0 := keepcell x0 hb
  have x1 := keepcell x1 hb
  have x2 := keepcell x2 hb
  have hx := hx.mono hb
  have B0 := B0.mono hb
  have B1 := B1.mono hb
  rw [HZ0.out]
  go_wp2
  go_ret
  exact ⟨rfl, hs⟩
 go_enter Tryz.func76, Tryz.ntmps76
 go_wp2_with fail
 generalize hw0 : (w.alloc (.cells #[.bool bx, .slice a1 n1 c1, .slice a2 n2 c2] 53)) = w0
 have hs : Since w w0 := by rw [← hw0]; exact ((Below.refl _ _).alloc (by first | exact Nat.le_refl _ | (simp; done) | (simp; omega)) _)
 have B2 : Box3 w0 (w.heap.size) (.bool bx) (.slice a1 n1 c1) (.slice a2 n2 c2) := by rw [← hw0]; exact Box3.new' _ _ _ _ _ _ (by first | rfl | (simp; done))
 have hx := hs.rv hx
 have B0 := hs.nv B0
 have B1 := hs.nv B1
 clear hw0
 obtain ⟨x0, x1, x2⟩ := B2.cells
 refine (r_Zero_calls _ _ _ hx).mono ?_
 rintro e w1 ⟨rfl, hb⟩
 have hs := Since.step hs hb
 have x0 := keepcell x0 hb
 have x1 := keepcell x1 hb
 have x2 := keepcell x2 hb
 have hx := hx.mono hb
 have B0 := B0.mono hb
 have B1 := B1.mono hb
 rw [HZ0.out]
 go_wp2
 go_ret
 exact ⟨rfl, hs⟩
theorem RV.parts {w : World} {s : Bool} {v1 v2 : Value} {q : Rat} (h : RV w (.agg #[.bool s, v1, v2]) q) : ∃ d, s = ng q ∧ NatV .u32 4294967296 w v1 q.num.natAbs ∧ NatV .u32 4294967296 w v2 d ∧ (d = q.den ∨ d = 0 ∧ q.den = 1) := by
 obtain ⟨vn, vd, d, e, h1, h2, hd⟩ := h
 simp only [Value.agg.injEq, Array.mk.injEq, List.cons.injEq, Value.bool.injEq] at e
 obtain ⟨rfl, rfl, rfl, _⟩ := e
 exact ⟨d, rfl, h1, h2, hd⟩
theorem RV.neg {w : World} {b s : Bool} {v1 v2 : Value} {q : Rat} (h : RV w (.agg #[.bool b, v1, v2]) q) (hs : s = (!b && decide (q ≠ 0))) : RV w (.agg #[.bool s, v1, v2]) (-q) := by
 obtain ⟨d, rfl, h1, h2, hd⟩ := h.parts
 subst hs
 rw [← ng_neg]
 exact ⟨v1, v2, d, rfl, by rw [Rat.neg_num, Int.natAbs_neg]; exact h1, h2, by rw [Rat.neg_den]; exact hd⟩
def absQ (q : Rat) : Rat := if ng q then -q else q
theorem RV.abs {w : World} {b : Bool} {v1 v2 : Value} {q : Rat} (h : RV w (.agg #[.bool b, v1, v2]) q) : RV w (.agg #[.bool false, v1, v2]) (absQ q) := by
 unfold absQ
 by_cases hn : ng q = true
 ·rw [if_pos hn]
  exact h.neg (by obtain ⟨_, e, _⟩ := h.parts; rw [e, hn]; rfl)
 rw [if_neg hn]
 obtain ⟨_, e, _⟩ := h.parts
 rw [Bool.not_eq_true] at hn
 rw [e, hn] at h
 exact h
theorem r_Neg_calls (vx : Value) (x : Rat) (w : World) (hx : RV w vx x) :
  Calls Tryz.prog 128 #[vx] w (RetQ w (-x)) := by
 obtain ⟨xn, xd, xe, rfl, B0, B1, B3⟩ := id hx
 obtain ⟨a1, n1, c1, l1, rfl, _⟩ := id B0
 obtain ⟨a2, n2, c2, l2, rfl, _⟩ := id B1
 clear B3
 generalize hsx : ng x = bx at *
 clear hsx
 cases bx
 ·go_enter Tryz.func128, Tryz.ntmps128
  go_wp2_with fail
  generalize hw0 : ((w.alloc (.cells #[.bool false, .slice a1 n1 c1, .slice a2 n2 c2] 53)).alloc (.cells #[.bool false, .slice none 0 0, .slice none 0 0] 53)) = w0
  have hs : Since w w0 := by rw [← hw0]; exact (((Below.refl _ _).alloc (by first | exact Nat.le_refl _ | (simp; done) | (simp; omega)) _).alloc (by first | exact Nat.le_refl _ | (simp; done) | (simp; omega)) _)
  have B2 : Box3 w0 (w.heap.size) (.bool false) (.slice a1 n1 c1) (.slice a2 n2 c2) := by rw [← hw0]; exact (Box3.new' _ _ _ _ _ _ (by first | rfl | (simp; done))).alloc _
  have hz : Box3 w0 (w.heap.size + 1) (.bool false) (.slice none 0 0) (.slice none 0 0) := by rw [← hw0]; exact Box3.new' _ _ _ _ _ _ (by first | rfl | (simp; done))
  have hx := hs.rv hx
  have B0 := hs.nv B0
  have B1 := hs.nv B1
  clear hw0
  obtain ⟨x0, x1, x2⟩ := B2.cells
  have B6 : w.heap.size ≠ w.heap.size + 1 := by omega
  have hs := Since.step hs (below_drew _)
  have x0 := keepcell x0 (below_drew _)
  have x1 := keepcell x1 (below_drew _)
  have x2 := keepcell x2 (below_drew _)
  have hx := hx.mono (below_drew _)
  have B0 := B0.mono (below_drew _)
  have B1 := B1.mono (below_drew _)
  have hz := hz.mono (below_drew _)
  obtain ⟨z0, z1, z2⟩ := hz.cells
  have hf := hz.free
  go_region_held3 (fun w' => w'.cell? ⟨w.heap.size, 0, none⟩ = some (.bool false) ∧ w'.cell? ⟨w.heap.size, 1, none⟩ = some (.slice a1 n1 c1) ∧ w'.cell? ⟨w.heap.size, 2, none⟩ = some (.slice a2 n2 c2))
   (first | exact ⟨x0, x1, x2⟩ | exact ⟨cell3 x0 B6, cell3 x1 B6, cell3 x2 B6⟩ | go_keep)
   (first
    | (go_at_call 113; (with_reducible refine (r_Zero_calls _ _ _ hx).mono ?_); rintro e w1 ⟨rfl, hb⟩; have hs := Since.step hs hb; have x0 := keepcell x0 hb; have x1 := keepcell x1 hb; have x2 := keepcell x2 hb; have hx := hx.mono hb; have B0 := B0.mono hb; have B1 := B1.mono hb; have hz := hz.mono hb; obtain ⟨z0, z1, z2⟩ := hz.cells; have hf := hz.free))
  go_wp2
  have hQ := hx.neg (s := !decide (x = 0)) (by simp)
  exact ret_RV rfl rfl rfl hz (hz.noInt (by simp) (by simp) (by simp)) rfl (rfl) hQ hs (by omega)
 go_enter Tryz.func128, Tryz.ntmps128
 go_wp2_with fail
 generalize hw0 : ((w.alloc (.cells #[.bool true, .slice a1 n1 c1, .slice a2 n2 c2] 53)).alloc (.cells #[.bool false, .slice none 0 0, .slice none 0 0] 53)) = w0
 have hs : Since w w0 := by rw [← hw0]; exact (((Below.refl _ _).alloc (by first | exact Nat.le_refl _ | (simp; done) | (simp; omega)) _).alloc (by first | exact Nat.le_refl _ | (simp; done) | (simp; omega)) _)
 have B2 : Box3 w0 (w.heap.size) (.bool true) (.slice a1 n1 c1) (.slice a2 n2 c2) := by rw [← hw0]; exact (Box3.new' _ _ _ _ _ _ (by first | rfl | (simp; done))).alloc _
 have hz : Box3 w0 (w.heap.size + 1) (.bool false) (.slice none 0 0) (.slice none 0 0) := by rw [← hw0]; exact Box3.new' _ _ _ _ _ _ (by first | rfl | (simp; done))
 have hx := hs.rv hx
 have B0 := hs.nv B0
 have B1 := hs.nv B1
 clear hw0
 obtain ⟨x0, x1, x2⟩ := B2.cells
 have B6 : w.heap.size ≠ w.heap.size + 1 := by omega
 obtain ⟨z0, z1, z2⟩ := hz.cells
 have hf := hz.free
 go_still_tail 13, (by kernel_rfl)
 change wpList _ _ _ _ _ (World.drew _)
 go_wp2
 have hs := Since.step hs (below_drew _)
 have x0 := keepcell x0 (below_drew _)
 have x1 := keepcell x1 (below_drew _)
 have x2 := keepcell x2 (below_drew _)
 have hx := hx.mono (below_drew _)
 have B0 := B0.mono (below_drew _)
 have B1 := B1.mono (below_drew _)
 have hz := hz.mono (below_drew _)
 go_wp2
 have hQ := hx.neg (s := false) rfl
 exact ret_RV rfl rfl rfl hz (hz.noInt (by simp) (by simp) (by simp)) rfl (rfl) hQ hs (by omega)
end Go.Proofs.YtbnomdlojmgigaaGreat
namespace Go.Proofs.YtbnomdlojmgigaaGreat
open Go.RowKit Dg
attribute [local go_sem ↓] Go.wp_at_zero Go.wp_at_succ
theorem RetQ.of_eq {w : World} {q q' : Rat} {e : Ending} {w' : World} (h : RetQ w q e w') (hq : q = q') : RetQ w q' e w' := hq ▸ h
def RetQE (w : World) (q : Rat) (err : Int) (e : Ending) (w' : World) : Prop := ∃ v, e = .returned (.tuple #[v, .int .i64 err]) ∧ RV w' v q ∧ Below w.heap.size w w'
theorem ret_RV2 {fn : Func} {p u : Tmp} {w0 w1 w : World} {g : Nat} {q : Rat} {s : Bool} {v1 v2 u0 u1 u2 : Value} {a : Act} {err : Int} (hr : fn.results = #[.cell p 53, .tmp u]) (ha : a.tmps.getD p undef = .pointer (some ⟨g, 0, none⟩)) (hu : a.tmps.getD u undef = .int .i64 err) (hdef : a.defers = [])
  (hbox : Box3 w1 g u0 u1 u2) (hni : NoInt w1 g) (hw : w = ((w1.setCell ⟨g, 0, none⟩ (.bool s)).setCell ⟨g, 1, none⟩ v1).setCell ⟨g, 2, none⟩ v2)
  {q' : Rat} (hq : q = q') (h : RV w1 (.agg #[.bool s, v1, v2]) q') (hb : Since w0 w1) (hg : w0.heap.size ≤ g) :
  bodyPost Tryz.prog fn (RetQE w0 q err) .ret a w := by
 subst hq
 subst hw
 obtain ⟨d, rfl, h1, h2, hd⟩ := h.parts
 have hst := store3 (s := ng q) hni h1 h2
 refine bodyPost_ret (v := .tuple #[.agg #[.bool (ng q), v1, v2], .int .i64 err]) ?_ hdef ⟨_, rfl, ⟨v1, v2, d, rfl, hst.1, hst.2, hd⟩, below_store3 hb hg _ _ _⟩
 rw [results_cell_tmp hr, ha, hu]
 simp only [asAddr, Sem.run_pure, Result.andThen_ok]
 rw [load_R (hbox.set _ _ _)]
 rfl
theorem r_magnitude_calls (n : Int) (w : World) (h0 : -9223372036854775808 ≤ n) (h1 : n ≤ 9223372036854775807) : Calls Tryz.prog 93 #[.int .i64 n] w (RetN .u32 4294967296 w n.natAbs) := by
 by_cases hn : n < 0
 ·go_enter Tryz.func93, Tryz.ntmps93
  go_wp2_with fail
  rw [show IntKind.u64.wrap (-IntKind.u64.wrap n) = ((n.natAbs : Nat) : Int) from by show (-(n % 18446744073709551616)) % 18446744073709551616 = _; omega]
  refine (rn_Nat n.natAbs _ (by omega)).mono ?_
  rintro e w1 ⟨_, rfl, hv, hb⟩
  go_wp2
  go_ret
  exact ⟨_, rfl, hv, hb⟩
 obtain ⟨m, rfl⟩ := Int.eq_ofNat_of_zero_le (show 0 ≤ n by omega)
 rw [Int.natAbs_natCast]
 go_enter Tryz.func93, Tryz.ntmps93
 go_wp2_with fail
 refine (rn_Nat m _ (by omega)).mono ?_
 rintro e w1 ⟨_, rfl, hv, hb⟩
 go_wp2
 go_ret
 exact ⟨_, rfl, hv, hb⟩
theorem r_Sub_calls (vx vy : Value) (x y : Rat) (K : Nat) (w : World) (hx : RV w vx x) (hy : RV w vy y) (hK : K ≤ 134217728) (sx : SzQ K x) (sy : SzQ K y) :
  Calls Tryz.prog 98 #[vx, vy] w (RetQ w (x - y)) := by
 obtain ⟨xn, xd, xe, rfl, B0, B2, Bb⟩ := id hx
 obtain ⟨yn, yd, ye, rfl, B1, B3, Bc⟩ := id hy
 obtain ⟨a1, n1, c1, l1, rfl, _⟩ := id B0
 obtain ⟨a2, n2, c2, l2, rfl, _⟩ := id B2
 obtain ⟨a3, n3, c3, l3, rfl, _⟩ := id B1
 obtain ⟨a4, n4, c4, l4, rfl, _⟩ := id B3
 clear Bb Bc
 rw [Rat.sub_eq_add_neg]
 have sy' := sy.neg
 generalize hsx : ng x = bx at *
 have HSX := Lib.hid hsx
 clear hsx
 generalize hsy : ng y = bY at *
 have HSY := Lib.hid hsy
 clear hsy
 go_enter Tryz.func98, Tryz.ntmps98
 go_wp2_with fail
 generalize hw0 : (((w.alloc (.cells #[.bool bx, .slice a1 n1 c1, .slice a2 n2 c2] 53)).alloc (.cells #[.bool bY, .slice a3 n3 c3, .slice a4 n4 c4] 53)).alloc (.cells #[.bool false, .slice none 0 0, .slice none 0 0] 53)) = w0
 have hs : Since w w0 := by rw [← hw0]; exact ((((Below.refl _ _).alloc (by first | exact Nat.le_refl _ | (simp; done) | (simp; omega)) _).alloc (by first | exact Nat.le_refl _ | (simp; done) | (simp; omega)) _).alloc (by first | exact Nat.le_refl _ | (simp; done) | (simp; omega)) _)
 have B9 : Box3 w0 (w.heap.size) (.bool bx) (.slice a1 n1 c1) (.slice a2 n2 c2) := by rw [← hw0]; exact ((Box3.new' _ _ _ _ _ _ (by first | rfl | (simp; done))).alloc _).alloc _
 have Ba : Box3 w0 (w.heap.size + 1) (.bool bY) (.slice a3 n3 c3) (.slice a4 n4 c4) := by rw [← hw0]; exact (Box3.new' _ _ _ _ _ _ (by first | rfl | (simp; done))).alloc _
 have hz : Box3 w0 (w.heap.size + 1 + 1) (.bool false) (.slice none 0 0) (.slice none 0 0) := by rw [← hw0]; exact Box3.new' _ _ _ _ _ _ (by first | rfl | (simp; done))
 have hx := hs.rv hx
 have B0 := hs.nv B0
 have B2 := hs.nv B2
 have hy := hs.rv hy
 have B1 := hs.nv B1
 have B3 := hs.nv B3
 clear hw0
 obtain ⟨x0, x1, x2⟩ := B9.cells
 have B5 : w.heap.size ≠ w.heap.size + 1 + 1 := by omega
 obtain ⟨y0, y1, y2⟩ := Ba.cells
 have B6 : w.heap.size + 1 ≠ w.heap.size + 1 + 1 := by omega
 have hs := Since.step hs (below_drew _)
 have x0 := keepcell x0 (below_drew _)
 have x1 := keepcell x1 (below_drew _)
 have x2 := keepcell x2 (below_drew _)
 have y0 := keepcell y0 (below_drew _)
 have y1 := keepcell y1 (below_drew _)
 have y2 := keepcell y2 (below_drew _)
 have hx := hx.mono (below_drew _)
 have B0 := B0.mono (below_drew _)
 have B2 := B2.mono (below_drew _)
 have hy := hy.mono (below_drew _)
 have B1 := B1.mono (below_drew _)
 have B3 := B3.mono (below_drew _)
 have hz := hz.mono (below_drew _)
 go_region_held3 (fun w' => w'.cell? ⟨w.heap.size, 0, none⟩ = some (.bool bx) ∧ w'.cell? ⟨w.heap.size, 1, none⟩ = some (.slice a1 n1 c1) ∧ w'.cell? ⟨w.heap.size, 2, none⟩ = some (.slice a2 n2 c2) ∧ w'.cell? ⟨w.heap.size + 1, 0, none⟩ = some (.bool bY) ∧ w'.cell? ⟨w.heap.size + 1, 1, none⟩ = some (.slice a3 n3 c3) ∧ w'.cell? ⟨w.heap.size + 1, 2, none⟩ = some (.slice a4 n4 c4))
  (first | exact ⟨x0, x1, x2, y0, y1, y2⟩ | exact ⟨cell3 x0 B5, cell3 x1 B5, cell3 x2 B5, cell3 y0 B6, cell3 y1 B6, cell3 y2 B6⟩ | go_keep)
  (first
   | (go_at_call 128; (with_reducible refine (r_Neg_calls _ y _ hy).mono ?_); rintro e w1 ⟨_, rfl, hn, hb⟩; obtain ⟨_, _, _, rfl, ⟨_, _, _, _, rfl, _⟩, ⟨_, _, _, _, rfl, _⟩, _⟩ := id hn; have hs := Since.step hs hb; have x0 := keepcell x0 hb; have x1 := keepcell x1 hb; have x2 := keepcell x2 hb; have y0 := keepcell y0 hb; have y1 := keepcell y1 hb; have y2 := keepcell y2 hb; have hx := hx.mono hb; have B0 := B0.mono hb; have B2 := B2.mono hb; have hy := hy.mono hb; have B1 := B1.mono hb; have B3 := B3.mono hb; have hz := hz.mono hb)
   | (go_at_call 127; (with_reducible refine (r_Add_calls _ _ x (-y) K _ hx hn hK sx sy').mono ?_); rintro e w2 ⟨_, rfl, hQ, hb⟩; obtain ⟨_, _, _, rfl, ⟨_, _, _, _, rfl, _⟩, ⟨_, _, _, _, rfl, _⟩, _⟩ := id hQ; have hs := Since.step hs hb; have x0 := keepcell x0 hb; have x1 := keepcell x1 hb; have x2 := keepcell x2 hb; have y0 := keepcell y0 hb; have y1 := keepcell y1 hb; have y2 := keepcell y2 hb; have hx := hx.mono hb; have B0 := B0.mono hb; have B2 := B2.mono hb; have hy := hy.mono hb; have B1 := B1.mono hb; have B3 := B3.mono hb; have hz := hz.mono hb; have hn := hn.mono hb; obtain ⟨z0, z1, z2⟩ := hz.cells; have hf := hz.free))
 go_wp2
 exact ret_RV rfl rfl rfl hz (hz.noInt (by simp) (by simp) (by simp)) rfl (rfl) hQ hs (by omega)
theorem r_Cmp_calls (vx vy : Value) (x y : Rat) (K : Nat) (w : World) (hx : RV w vx x) (hy : RV w vy y) (hK : K ≤ 134217728) (sx : SzQ K x) (sy : SzQ K y) :
  Calls Tryz.prog 57 #[vx, vy] w (RetI w (.int .i64 (sgQ (x - y)))) := by
 obtain ⟨xn, xd, xe, rfl, B0, B2, Bb⟩ := id hx
 obtain ⟨yn, yd, ye, rfl, B1, B3, Bc⟩ := id hy
 obtain ⟨a1, n1, c1, l1, rfl, _⟩ := id B0
 obtain ⟨a2, n2, c2, l2, rfl, _⟩ := id B2
 obtain ⟨a3, n3, c3, l3, rfl, _⟩ := id B1
 obtain ⟨a4, n4, c4, l4, rfl, _⟩ := id B3
 clear Bb Bc
 generalize hsx : ng x = bx at *
 have HSX := Lib.hid hsx
 clear hsx
 generalize hsy : ng y = bY at *
 have HSY := Lib.hid hsy
 clear hsy
 go_enter Tryz.func57, Tryz.ntmps57
 go_wp2_with fail
 generalize hw0 : ((w.alloc (.cells #[.bool bx, .slice a1 n1 c1, .slice a2 n2 c2] 53)).alloc (.cells #[.bool bY, .slice a3 n3 c3, .slice a4 n4 c4] 53)) = w0
 have hs : Since w w0 := by rw [← hw0]; exact (((Below.refl _ _).alloc (by first | exact Nat.le_refl _ | (simp; done) | (simp; omega)) _).alloc (by first | exact Nat.le_refl _ | (simp; done) | (simp; omega)) _)
 have B9 : Box3 w0 (w.heap.size) (.bool bx) (.slice a1 n1 c1) (.slice a2 n2 c2) := by rw [← hw0]; exact (Box3.new' _ _ _ _ _ _ (by first | rfl | (simp; done))).alloc _
 have Ba : Box3 w0 (w.heap.size + 1) (.bool bY) (.slice a3 n3 c3) (.slice a4 n4 c4) := by rw [← hw0]; exact Box3.new' _ _ _ _ _ _ (by first | rfl | (simp; done))
 have hx := hs.rv hx
 have B0 := hs.nv B0
 have B2 := hs.nv B2
 have hy := hs.rv hy
 have B1 := hs.nv B1
 have B3 := hs.nv B3
 clear hw0
 obtain ⟨x0, x1, x2⟩ := B9.cells
 obtain ⟨y0, y1, y2⟩ := Ba.cells
 refine (r_Sub_calls _ _ x y K _ hx hy hK sx sy).mono ?_
 rintro e w1 ⟨_, rfl, hd, hb⟩
 obtain ⟨_, _, _, rfl, ⟨_, _, _, _, rfl, _⟩, ⟨_, _, _, _, rfl, _⟩, _⟩ := id hd
 have hs := Since.step hs hb
 have x0 := keepcell x0 hb
 have x1 := keepcell x1 hb
 have x2 := keepcell x2 hb
 have y0 := keepcell y0 hb
 have y1 := keepcell y1 hb
 have y2 := keepcell y2 hb
 have hx := hx.mono hb
 have B0 := B0.mono hb
 have B2 := B2.mono hb
 have hy := hy.mono hb
 have B1 := B1.mono hb
 have B3 := B3.mono hb
 go_wp2_with fail
 refine (r_Sign_calls _ _ _ hd).mono ?_
 rintro e w9 ⟨rfl, hb⟩
 have hs := Since.step hs hb
 go_wp2
 go_ret
 exact ⟨rfl, hs⟩
theorem r_Div_calls (vx vy : Value) (x y : Rat) (K : Nat) (w : World) (hx : RV w vx x) (hy : RV w vy y) (hK : K ≤ 134217728) (sx : SzQ K x) (sy : SzQ K y) (hy0 : y ≠ 0) :
  Calls Tryz.prog 125 #[vx, vy] w (RetQE w (x / y) 0) := by
 obtain ⟨xn, xd, xe, rfl, B0, B2, Bb⟩ := id hx
 obtain ⟨yn, yd, ye, rfl, B1, B3, Bc⟩ := id hy
 obtain ⟨a1, n1, c1, l1, rfl, _⟩ := id B0
 obtain ⟨a2, n2, c2, l2, rfl, _⟩ := id B2
 obtain ⟨a3, n3, c3, l3, rfl, _⟩ := id B1
 obtain ⟨a4, n4, c4, l4, rfl, _⟩ := id B3
 clear Bb Bc
 have sx1 := sx.1
 have sx2 := sx.2
 have sy1 := sy.1
 have sy2 := sy.2
 have hn0 : y.num.natAbs ≠ 0 := fun h => hy0 ((natAbs_zero_iff y).1 h)
 have hd0 : x.den * y.num.natAbs ≠ 0 := Nat.mul_ne_zero x.den_nz hn0
 have zA : x.num.natAbs * y.den < 4294967296 ^ (K + K) := pow_mul_lt sx1 sy2
 have zD : x.den * y.num.natAbs < 4294967296 ^ (K + K) := pow_mul_lt sx2 sy1
 have Be : K ≤ 1099511627776 := by omega
 have hK3 : K + K ≤ 536870912 := by omega
 have e1 := div_mk x y hy0
 have hz0 : decide (y = 0) = false := decide_eq_false hy0
 generalize hN1 : x.num.natAbs * y.den = N1 at *
 generalize hN3 : x.den * y.num.natAbs = N3 at *
 generalize x / y = xy at *
 have E1 := Lib.hid e1
 have HN1 := Lib.hid hN1
 have HN3 := Lib.hid hN3
 have HZ0 := Lib.hid hz0
 clear e1 hN1 hN3 hz0 hy0 hn0
 generalize hsx : ng x = bx at *
 have HSX := Lib.hid hsx
 clear hsx
 generalize hsy : ng y = bY at *
 have HSY := Lib.hid hsy
 clear hsy
 go_enter Tryz.func125, Tryz.ntmps125
 go_wp2_with fail
 generalize hw0 : (((w.alloc (.cells #[.bool bx, .slice a1 n1 c1, .slice a2 n2 c2] 53)).alloc (.cells #[.bool bY, .slice a3 n3 c3, .slice a4 n4 c4] 53)).alloc (.cells #[.bool false, .slice none 0 0, .slice none 0 0] 53)) = w0
 have hs : Since w w0 := by rw [← hw0]; exact ((((Below.refl _ _).alloc (by first | exact Nat.le_refl _ | (simp; done) | (simp; omega)) _).alloc (by first | exact Nat.le_refl _ | (simp; done) | (simp; omega)) _).alloc (by first | exact Nat.le_refl _ | (simp; done) | (simp; omega)) _)
 have B9 : Box3 w0 (w.heap.size) (.bool bx) (.slice a1 n1 c1) (.slice a2 n2 c2) := by rw [← hw0]; exact ((Box3.new' _ _ _ _ _ _ (by first | rfl | (simp; done))).alloc _).alloc _
 have Ba : Box3 w0 (w.heap.size + 1) (.bool bY) (.slice a3 n3 c3) (.slice a4 n4 c4) := by rw [← hw0]; exact (Box3.new' _ _ _ _ _ _ (by first | rfl | (simp; done))).alloc _
 have hz : Box3 w0 (w.heap.size + 1 + 1) (.bool false) (.slice none 0 0) (.slice none 0 0) := by rw [← hw0]; exact Box3.new' _ _ _ _ _ _ (by first | rfl | (simp; done))
 have hx := hs.rv hx
 have B0 := hs.nv B0
 have B2 := hs.nv B2
 have hy := hs.rv hy
 have B1 := hs.nv B1
 have B3 := hs.nv B3
 clear hw0
 obtain ⟨x0, x1, x2⟩ := B9.cells
 have B5 : w.heap.size ≠ w.heap.size + 1 + 1 := by omega
 obtain ⟨y0, y1, y2⟩ := Ba.cells
 have B6 : w.heap.size + 1 ≠ w.heap.size + 1 + 1 := by omega
 refine (r_Zero_calls _ _ _ hy).mono ?_
 rintro e w8 ⟨rfl, hb⟩
 have hs := Since.step hs hb
 have x0 := keepcell x0 hb
 have x1 := keepcell x1 hb
 have x2 := keepcell x2 hb
 have y0 := keepcell y0 hb
 have y1 := keepcell y1 hb
 have y2 := keepcell y2 hb
 have hx := hx.mono hb
 have B0 := B0.mono hb
 have B2 := B2.mono hb
 have hy := hy.mono hb
 have B1 := B1.mono hb
 have B3 := B3.mono hb
 have hz := hz.mono hb
 rw [HZ0.out]
 go_wp2
 have hs := Since.step hs (below_drew _)
 have x0 := keepcell x0 (below_drew _)
 have x1 := keepcell x1 (below_drew _)
 have x2 := keepcell x2 (below_drew _)
 have y0 := keepcell y0 (below_drew _)
 have y1 := keepcell y1 (below_drew _)
 have y2 := keepcell y2 (below_drew _)
 have hx := hx.mono (below_drew _)
 have B0 := B0.mono (below_drew _)
 have B2 := B2.mono (below_drew _)
 have hy := hy.mono (below_drew _)
 have B1 := B1.mono (below_drew _)
 have B3 := B3.mono (below_drew _)
 have hz := hz.mono (below_drew _)
 go_region_held3 (fun w' => w'.cell? ⟨w.heap.size, 0, none⟩ = some (.bool bx) ∧ w'.cell? ⟨w.heap.size, 1, none⟩ = some (.slice a1 n1 c1) ∧ w'.cell? ⟨w.heap.size, 2, none⟩ = some (.slice a2 n2 c2) ∧ w'.cell? ⟨w.heap.size + 1, 0, none⟩ = some (.bool bY) ∧ w'.cell? ⟨w.heap.size + 1, 1, none⟩ = some (.slice a3 n3 c3) ∧ w'.cell? ⟨w.heap.size + 1, 2, none⟩ = some (.slice a4 n4 c4))
  (first | exact ⟨x0, x1, x2, y0, y1, y2⟩ | exact ⟨cell3 x0 B5, cell3 x1 B5, cell3 x2 B5, cell3 y0 B6, cell3 y1 B6, cell3 y2 B6⟩ | go_keep)
  (first
   | (go_at_call 90; (with_reducible refine (r_under_calls _ y _ hy).mono ?_); rintro e w1 ⟨_, rfl, B4, hb⟩; obtain ⟨_, _, _, _, rfl, _⟩ := id B4; have hs := Since.step hs hb; have x0 := keepcell x0 hb; have x1 := keepcell x1 hb; have x2 := keepcell x2 hb; have y0 := keepcell y0 hb; have y1 := keepcell y1 hb; have y2 := keepcell y2 hb; have hx := hx.mono hb; have B0 := B0.mono hb; have B2 := B2.mono hb; have hy := hy.mono hb; have B1 := B1.mono hb; have B3 := B3.mono hb; have hz := hz.mono hb)
   | (go_at_call 126; (with_reducible refine (rn_Product B0 B4 sx1 sy2 Be Be).mono ?_); rintro e w2 ⟨_, rfl, hA, hb⟩; obtain ⟨_, _, _, _, rfl, _⟩ := id hA; have hs := Since.step hs hb; have x0 := keepcell x0 hb; have x1 := keepcell x1 hb; have x2 := keepcell x2 hb; have y0 := keepcell y0 hb; have y1 := keepcell y1 hb; have y2 := keepcell y2 hb; have hx := hx.mono hb; have B0 := B0.mono hb; have B2 := B2.mono hb; have hy := hy.mono hb; have B1 := B1.mono hb; have B3 := B3.mono hb; have hz := hz.mono hb; have B4 := B4.mono hb; rw [HN1.out] at hA)
   | (go_at_call 90; (with_reducible refine (r_under_calls _ x _ hx).mono ?_); rintro e w3 ⟨_, rfl, B7, hb⟩; obtain ⟨_, _, _, _, rfl, _⟩ := id B7; have hs := Since.step hs hb; have x0 := keepcell x0 hb; have x1 := keepcell x1 hb; have x2 := keepcell x2 hb; have y0 := keepcell y0 hb; have y1 := keepcell y1 hb; have y2 := keepcell y2 hb; have hx := hx.mono hb; have B0 := B0.mono hb; have B2 := B2.mono hb; have hy := hy.mono hb; have B1 := B1.mono hb; have B3 := B3.mono hb; have hz := hz.mono hb; have B4 := B4.mono hb; have hA := hA.mono hb)
   | (go_at_call 126; (with_reducible refine (rn_Product B7 B1 sx2 sy1 Be Be).mono ?_); rintro e w4 ⟨_, rfl, B8, hb⟩; obtain ⟨_, _, _, _, rfl, _⟩ := id B8; have hs := Since.step hs hb; have x0 := keepcell x0 hb; have x1 := keepcell x1 hb; have x2 := keepcell x2 hb; have y0 := keepcell y0 hb; have y1 := keepcell y1 hb; have y2 := keepcell y2 hb; have hx := hx.mono hb; have B0 := B0.mono hb; have B2 := B2.mono hb; have hy := hy.mono hb; have B1 := B1.mono hb; have B3 := B3.mono hb; have hz := hz.mono hb; have B4 := B4.mono hb; have hA := hA.mono hb; have B7 := B7.mono hb; rw [HN3.out] at B8)
   | (go_at_call 92; (with_reducible refine (r_made_calls _ _ _ _ _ _ _ hA B8 hd0 hK3 zA zD).mono ?_); rintro e w5 ⟨_, rfl, hQ, hb⟩; obtain ⟨_, _, _, rfl, ⟨_, _, _, _, rfl, _⟩, ⟨_, _, _, _, rfl, _⟩, _⟩ := id hQ; have hs := Since.step hs hb; have x0 := keepcell x0 hb; have x1 := keepcell x1 hb; have x2 := keepcell x2 hb; have y0 := keepcell y0 hb; have y1 := keepcell y1 hb; have y2 := keepcell y2 hb; have hx := hx.mono hb; have B0 := B0.mono hb; have B2 := B2.mono hb; have hy := hy.mono hb; have B1 := B1.mono hb; have B3 := B3.mono hb; have hz := hz.mono hb; have B4 := B4.mono hb; have hA := hA.mono hb; have B7 := B7.mono hb; have B8 := B8.mono hb; obtain ⟨z0, z1, z2⟩ := hz.cells; have hf := hz.free))
 go_wp2
 exact ret_RV2 rfl rfl rfl rfl hz (hz.noInt (by simp) (by simp) (by simp)) rfl (E1.out.trans (by cases bx <;> cases bY <;> rfl)) hQ hs (by omega)
theorem int_mk (n : Int) : (n : Rat) = mkQ (decide (n < 0)) n.natAbs 1 := by
 unfold mkQ
 rw [show (if decide (n < 0) = true then -((n.natAbs : Nat) : Int) else ((n.natAbs : Nat) : Int)) = n from by split <;> simp_all <;> omega, Rat.mkRat_one]
theorem frac_mk (n d : Int) (hd : d ≠ 0) : (n : Rat) / (d : Rat) = mkQ (decide (n < 0) != decide (d < 0)) n.natAbs d.natAbs := by
 have h := div_mk (n : Rat) (d : Rat) (by rwa [Ne, Rat.intCast_eq_zero_iff])
 rw [h]
 simp only [ng, Rat.num_intCast, Rat.den_intCast, Nat.mul_one, Nat.one_mul]
 rfl
theorem lt_pow2 {n : Nat} (h : n ≤ 9223372036854775808) : n < 4294967296 ^ 2 := by omega
theorem r_Int_calls (n : Int) (w : World) (h0 : -9223372036854775808 ≤ n) (h1 : n ≤ 9223372036854775807) : Calls Tryz.prog 55 #[.int .i64 n] w (RetQ w (n : Rat)) := by
 rw [int_mk]
 have z1 : n.natAbs < 4294967296 ^ 2 := lt_pow2 (by omega)
 have z2 : 1 < 4294967296 ^ 2 := by omega
 have o1 : 1 ≠ 0 := by omega
 have o2 : 2 ≤ 536870912 := by omega
 have Z1 := Lib.hid z1
 clear z1
 generalize hneg : decide (n < 0) = b
 go_enter Tryz.func55, Tryz.ntmps55
 go_wp2_with fail
 generalize hw0 : (w.alloc (.cells #[.bool false, .slice none 0 0, .slice none 0 0] 53)) = w0
 have hs : Since w w0 := by rw [← hw0]; exact (Below.refl _ _).alloc (Nat.le_refl _) _
 have hz : Box3 w0 w.heap.size (.bool false) (.slice none 0 0) (.slice none 0 0) := by rw [← hw0]; exact Box3.new' _ _ _ _ _ _ rfl
 clear hw0
 refine (r_magnitude_calls n _ h0 h1).mono ?_
 rintro e w1 ⟨_, rfl, hm, hb⟩
 obtain ⟨_, _, _, _, rfl, _⟩ := id hm
 have hs := Since.step hs hb
 have hz := hz.mono hb
 go_wp2_with fail
 refine (rn_Nat 1 _ (by omega)).mono ?_
 rintro e w2 ⟨_, rfl, Bd, hb⟩
 obtain ⟨_, _, _, _, rfl, _⟩ := id Bd
 have hs := Since.step hs hb
 have hz := hz.mono hb
 have hm := hm.mono hb
 go_wp2_with fail
 refine (r_made_calls _ _ _ _ _ _ _ hm Bd o1 o2 Z1.out z2).mono ?_
 rintro e w3 ⟨_, rfl, hQ, hb⟩
 obtain ⟨_, _, _, rfl, ⟨_, _, _, _, rfl, _⟩, ⟨_, _, _, _, rfl, _⟩, _⟩ := id hQ
 have hs := Since.step hs hb
 have hz := hz.mono hb
 have hm := hm.mono hb
 have Bd := Bd.mono hb
 obtain ⟨z0, z1, z2⟩ := hz.cells
 have hf := hz.free
 go_wp2
 exact ret_RV rfl rfl rfl hz (hz.noInt (by simp) (by simp) (by simp)) rfl (rfl) hQ hs (Nat.le_refl _)
def textQ (q : Rat) : List UInt8 := (if ng q then [45] else []) ++ decS q.num.natAbs ++ (if q.den = 1 then [] else 47 :: decS q.den)
theorem cat_eq (w : World) (P : Program) (a b : List UInt8) (h : a.length + b.length ≤ 9223372036854775807) : (Op.stringOp .add ⟨a.toArray⟩ ⟨b.toArray⟩).run P w = .ok (.string ⟨(a ++ b).toArray⟩) w := by
 rw [run_string_add_sum, bytes_append]
 simp only [ByteArray.size, List.size_toArray]
 exact h
end Go.Proofs.YtbnomdlojmgigaaGreat
