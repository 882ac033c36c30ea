/-
  The contracts of the reference's fractions, third part: Zero, Sign, Neg, Abs, magnitude, Int, New, Of, Sub, Cmp, Same, Div, Text.
-/
import Derived.Test.YtkfekkhhfpkfaaaGreatRefRat2
import Derived.StillTailTactics
set_option linter.unusedSimpArgs false
set_option linter.unusedVariables false
namespace Go.Proofs.YtkfekkhhfpkfaaaGreat
open Go.RowKit Dg
attribute [local go_sem ↓] Go.wp_at_zero Go.wp_at_succ

/-- The sign of a fraction: -1, 0 or 1. -/
def sgQ (q : Rat) : Int := if q.num < 0 then -1 else if q.num = 0 then 0 else 1

set_option maxRecDepth 100000 in
set_option maxHeartbeats 4000000 in
theorem r_Zero_calls (vx : Value) (x : Rat) (w : World) (hx : RV w vx x) :
    Calls Tryz.prog 113 #[vx] w (RetI w (.bool (decide (x = 0)))) := by
  obtain ⟨xn, xd, xe, rfl, hxn, hxd, hxe⟩ := id hx
  obtain ⟨a1, n1, c1, l1, rfl, _⟩ := id hxn
  obtain ⟨a2, n2, c2, l2, rfl, _⟩ := id hxd
  clear hxe
  obtain ⟨ao, n, c, l, e, hsl, hcl, hvl⟩ := id hxn
  cases e
  have hb : n1 ≤ 9223372036854775807 := by have := hsl.cap; have := hsl.max; omega
  have hz0 : decide (x = 0) = ((n1 : Int) == 0) := by
    rw [Bool.eq_iff_iff, decide_eq_true_eq, beq_iff_eq, ← natAbs_zero_iff, ← hvl]
    have := hcl.length_pos_iff (by omega)
    rw [hsl.len] at this
    omega
  rw [hz0]
  clear hz0 hsl hcl hvl hxn hxd hx
  go_enter Tryz.func113, Tryz.ntmps113
  go_wp2
  go_ret
  exact ⟨rfl, (Below.refl _ _).alloc (Nat.le_refl _) _⟩

set_option maxRecDepth 100000 in
set_option maxHeartbeats 4000000 in
theorem r_Sign_calls (vx : Value) (x : Rat) (w : World) (hx : RV w vx x) :
    Calls Tryz.prog 59 #[vx] w (RetI w (.int .i64 (sgQ x))) := by
  obtain ⟨xn, xd, xe, rfl, hxn, hxd, hxe⟩ := id hx
  obtain ⟨a1, n1, c1, l1, rfl, _⟩ := id hxn
  obtain ⟨a2, n2, c2, l2, rfl, _⟩ := id hxd
  clear hxe
  have hval : sgQ x = if decide (x = 0) then 0 else if ng x then -1 else 1 := by
    unfold sgQ ng
    by_cases h0 : x = 0
    · subst h0; decide
    · have hn0 : x.num ≠ 0 := fun h => h0 (Rat.num_eq_zero.1 h)
      by_cases hneg : x.num < 0 <;> simp [h0, hn0, hneg]
  generalize hz0 : decide (x = 0) = z at *
  generalize hsx : ng x = bx at *
  have HZ0 := Lib.hid hz0
  clear hz0 hsx
  rw [hval]
  clear hval
  cases z
  · cases bx
    · go_enter Tryz.func59, Tryz.ntmps59
      go_wp2_with fail
      generalize hw0 : (w.alloc (.cells #[.bool false, .slice a1 n1 c1, .slice a2 n2 c2] 38)) = w0
      have hs : Since w w0 := by rw [← hw0]; exact ((Below.refl _ _).alloc (by first | exact Nat.le_refl _ | (simp; done) | (simp; omega)) _)
      have hbx : Box3 w0 (w.heap.size) (.bool false) (.slice a1 n1 c1) (.slice a2 n2 c2) := by rw [← hw0]; exact Box3.new' _ _ _ _ _ _ (by first | rfl | (simp; done))
      have hx := hs.rv hx
      have hxn := hs.nv hxn
      have hxd := hs.nv hxd
      clear hw0
      obtain ⟨x0, x1, x2⟩ := hbx.cells
      refine (r_Zero_calls _ _ _ hx).mono ?_
      rintro e w1 ⟨rfl, hb⟩
      have hs := Since.step hs hb
      have x0 := keepcell x0 hb
      have x1 := keepcell x1 hb
      have x2 := keepcell x2 hb
      have hx := hx.mono hb
      have hxn := hxn.mono hb
      have hxd := hxd.mono hb
      rw [HZ0.out]
      go_wp2
      go_ret
      exact ⟨rfl, hs⟩
    · go_enter Tryz.func59, Tryz.ntmps59
      go_wp2_with fail
      generalize hw0 : (w.alloc (.cells #[.bool true, .slice a1 n1 c1, .slice a2 n2 c2] 38)) = w0
      have hs : Since w w0 := by rw [← hw0]; exact ((Below.refl _ _).alloc (by first | exact Nat.le_refl _ | (simp; done) | (simp; omega)) _)
      have hbx : Box3 w0 (w.heap.size) (.bool true) (.slice a1 n1 c1) (.slice a2 n2 c2) := by rw [← hw0]; exact Box3.new' _ _ _ _ _ _ (by first | rfl | (simp; done))
      have hx := hs.rv hx
      have hxn := hs.nv hxn
      have hxd := hs.nv hxd
      clear hw0
      obtain ⟨x0, x1, x2⟩ := hbx.cells
      refine (r_Zero_calls _ _ _ hx).mono ?_
      rintro e w1 ⟨rfl, hb⟩
      have hs := Since.step hs hb
      have x0 := keepcell x0 hb
      have x1 := keepcell x1 hb
      have x2 := keepcell x2 hb
      have hx := hx.mono hb
      have hxn := hxn.mono hb
      have hxd := hxd.mono hb
      rw [HZ0.out]
      go_wp2
      go_ret
      exact ⟨rfl, hs⟩
  · go_enter Tryz.func59, Tryz.ntmps59
    go_wp2_with fail
    generalize hw0 : (w.alloc (.cells #[.bool bx, .slice a1 n1 c1, .slice a2 n2 c2] 38)) = w0
    have hs : Since w w0 := by rw [← hw0]; exact ((Below.refl _ _).alloc (by first | exact Nat.le_refl _ | (simp; done) | (simp; omega)) _)
    have hbx : Box3 w0 (w.heap.size) (.bool bx) (.slice a1 n1 c1) (.slice a2 n2 c2) := by rw [← hw0]; exact Box3.new' _ _ _ _ _ _ (by first | rfl | (simp; done))
    have hx := hs.rv hx
    have hxn := hs.nv hxn
    have hxd := hs.nv hxd
    clear hw0
    obtain ⟨x0, x1, x2⟩ := hbx.cells
    refine (r_Zero_calls _ _ _ hx).mono ?_
    rintro e w1 ⟨rfl, hb⟩
    have hs := Since.step hs hb
    have x0 := keepcell x0 hb
    have x1 := keepcell x1 hb
    have x2 := keepcell x2 hb
    have hx := hx.mono hb
    have hxn := hxn.mono hb
    have hxd := hxd.mono hb
    rw [HZ0.out]
    go_wp2
    go_ret
    exact ⟨rfl, hs⟩

theorem RV.parts {w : World} {s : Bool} {v1 v2 : Value} {q : Rat} (h : RV w (.agg #[.bool s, v1, v2]) q) : ∃ d, s = ng q ∧ NatV .u32 4294967296 w v1 q.num.natAbs ∧ NatV .u32 4294967296 w v2 d ∧ (d = q.den ∨ d = 0 ∧ q.den = 1) := by
  obtain ⟨vn, vd, d, e, h1, h2, hd⟩ := h
  simp only [Value.agg.injEq, Array.mk.injEq, List.cons.injEq, Value.bool.injEq] at e
  obtain ⟨rfl, rfl, rfl, _⟩ := e
  exact ⟨d, rfl, h1, h2, hd⟩

theorem RV.neg {w : World} {b s : Bool} {v1 v2 : Value} {q : Rat} (h : RV w (.agg #[.bool b, v1, v2]) q) (hs : s = (!b && decide (q ≠ 0))) : RV w (.agg #[.bool s, v1, v2]) (-q) := by
  obtain ⟨d, rfl, h1, h2, hd⟩ := h.parts
  subst hs
  rw [← ng_neg]
  exact ⟨v1, v2, d, rfl, by rw [Rat.neg_num, Int.natAbs_neg]; exact h1, h2, by rw [Rat.neg_den]; exact hd⟩

/-- The absolute value. -/
def absQ (q : Rat) : Rat := if ng q then -q else q

theorem RV.abs {w : World} {b : Bool} {v1 v2 : Value} {q : Rat} (h : RV w (.agg #[.bool b, v1, v2]) q) : RV w (.agg #[.bool false, v1, v2]) (absQ q) := by
  unfold absQ
  by_cases hn : ng q = true
  · rw [if_pos hn]
    exact h.neg (by obtain ⟨_, e, _⟩ := h.parts; rw [e, hn]; rfl)
  · rw [if_neg hn]
    obtain ⟨_, e, _⟩ := h.parts
    rw [Bool.not_eq_true] at hn
    rw [e, hn] at h
    exact h

set_option maxRecDepth 100000 in
theorem ret_R0 {fn : Func} {p : Tmp} {w0 w : World} {g : Nat} {q : Rat} {s : Bool} {v1 v2 : Value} {a : Act} (hr : fn.results = #[.cell p 38]) (ha : a.tmps.getD p undef = .pointer (some ⟨g, 0, none⟩)) (hdef : a.defers = [])
    (hbox : Box3 w g (.bool s) v1 v2) (h : RV w (.agg #[.bool s, v1, v2]) q) (hb : Below w0.heap.size w0 w) : bodyPost Tryz.prog fn (RetQ w0 q) .ret a w := by
  refine bodyPost_ret (v := .agg #[.bool s, v1, v2]) ?_ hdef ⟨_, rfl, h, hb⟩
  rw [results_cell1 hr, ha]
  exact load_R hbox

set_option maxRecDepth 100000 in
set_option maxHeartbeats 4000000 in
theorem r_Neg_calls (vx : Value) (x : Rat) (w : World) (hx : RV w vx x) :
    Calls Tryz.prog 120 #[vx] w (RetQ w (-x)) := by
  obtain ⟨xn, xd, xe, rfl, hxn, hxd, hxe⟩ := id hx
  obtain ⟨a1, n1, c1, l1, rfl, _⟩ := id hxn
  obtain ⟨a2, n2, c2, l2, rfl, _⟩ := id hxd
  clear hxe
  generalize hsx : ng x = bx at *
  clear hsx
  cases bx
  · go_enter Tryz.func120, Tryz.ntmps120
    go_wp2_with fail
    generalize hw0 : ((w.alloc (.cells #[.bool false, .slice a1 n1 c1, .slice a2 n2 c2] 38)).alloc (.cells #[.bool false, .slice none 0 0, .slice none 0 0] 38)) = w0
    have hs : Since w w0 := by rw [← hw0]; exact (((Below.refl _ _).alloc (by first | exact Nat.le_refl _ | (simp; done) | (simp; omega)) _).alloc (by first | exact Nat.le_refl _ | (simp; done) | (simp; omega)) _)
    have hbx : Box3 w0 (w.heap.size) (.bool false) (.slice a1 n1 c1) (.slice a2 n2 c2) := by rw [← hw0]; exact (Box3.new' _ _ _ _ _ _ (by first | rfl | (simp; done))).alloc _
    have hz : Box3 w0 (w.heap.size + 1) (.bool false) (.slice none 0 0) (.slice none 0 0) := by rw [← hw0]; exact Box3.new' _ _ _ _ _ _ (by first | rfl | (simp; done))
    have hx := hs.rv hx
    have hxn := hs.nv hxn
    have hxd := hs.nv hxd
    clear hw0
    obtain ⟨x0, x1, x2⟩ := hbx.cells
    have ne0 : w.heap.size ≠ w.heap.size + 1 := by omega
    have hs := Since.step hs (below_drew _)
    have x0 := keepcell x0 (below_drew _)
    have x1 := keepcell x1 (below_drew _)
    have x2 := keepcell x2 (below_drew _)
    have hx := hx.mono (below_drew _)
    have hxn := hxn.mono (below_drew _)
    have hxd := hxd.mono (below_drew _)
    have hz := hz.mono (below_drew _)
    obtain ⟨z0, z1, z2⟩ := hz.cells
    have hf := hz.free
    go_region_held3 (fun w' => w'.cell? ⟨w.heap.size, 0, none⟩ = some (.bool false) ∧ w'.cell? ⟨w.heap.size, 1, none⟩ = some (.slice a1 n1 c1) ∧ w'.cell? ⟨w.heap.size, 2, none⟩ = some (.slice a2 n2 c2))
      (first | exact ⟨x0, x1, x2⟩ | exact ⟨cell3 x0 ne0, cell3 x1 ne0, cell3 x2 ne0⟩ | go_keep)
      (first
        | (go_at_call 113; (with_reducible refine (r_Zero_calls _ _ _ hx).mono ?_); rintro e w1 ⟨rfl, hb⟩; have hs := Since.step hs hb; have x0 := keepcell x0 hb; have x1 := keepcell x1 hb; have x2 := keepcell x2 hb; have hx := hx.mono hb; have hxn := hxn.mono hb; have hxd := hxd.mono hb; have hz := hz.mono hb; obtain ⟨z0, z1, z2⟩ := hz.cells; have hf := hz.free))
    go_wp2
    have hQ := hx.neg (s := !decide (x = 0)) (by simp)
    exact ret_RV rfl rfl rfl hz (hz.noInt (by simp) (by simp) (by simp)) rfl (rfl) hQ hs (by omega)
  · go_enter Tryz.func120, Tryz.ntmps120
    go_wp2_with fail
    generalize hw0 : ((w.alloc (.cells #[.bool true, .slice a1 n1 c1, .slice a2 n2 c2] 38)).alloc (.cells #[.bool false, .slice none 0 0, .slice none 0 0] 38)) = w0
    have hs : Since w w0 := by rw [← hw0]; exact (((Below.refl _ _).alloc (by first | exact Nat.le_refl _ | (simp; done) | (simp; omega)) _).alloc (by first | exact Nat.le_refl _ | (simp; done) | (simp; omega)) _)
    have hbx : Box3 w0 (w.heap.size) (.bool true) (.slice a1 n1 c1) (.slice a2 n2 c2) := by rw [← hw0]; exact (Box3.new' _ _ _ _ _ _ (by first | rfl | (simp; done))).alloc _
    have hz : Box3 w0 (w.heap.size + 1) (.bool false) (.slice none 0 0) (.slice none 0 0) := by rw [← hw0]; exact Box3.new' _ _ _ _ _ _ (by first | rfl | (simp; done))
    have hx := hs.rv hx
    have hxn := hs.nv hxn
    have hxd := hs.nv hxd
    clear hw0
    obtain ⟨x0, x1, x2⟩ := hbx.cells
    have ne0 : w.heap.size ≠ w.heap.size + 1 := by omega
    obtain ⟨z0, z1, z2⟩ := hz.cells
    have hf := hz.free
    go_still_tail 13, (by kernel_rfl)
    change wpList _ _ _ _ _ (World.drew _)
    go_wp2
    have hs := Since.step hs (below_drew _)
    have x0 := keepcell x0 (below_drew _)
    have x1 := keepcell x1 (below_drew _)
    have x2 := keepcell x2 (below_drew _)
    have hx := hx.mono (below_drew _)
    have hxn := hxn.mono (below_drew _)
    have hxd := hxd.mono (below_drew _)
    have hz := hz.mono (below_drew _)
    go_wp2
    have hQ := hx.neg (s := false) rfl
    exact ret_RV rfl rfl rfl hz (hz.noInt (by simp) (by simp) (by simp)) rfl (rfl) hQ hs (by omega)

set_option maxRecDepth 100000 in
set_option maxHeartbeats 4000000 in
theorem r_Abs_calls (vx : Value) (x : Rat) (w : World) (hx : RV w vx x) :
    Calls Tryz.prog 71 #[vx] w (RetQ w (absQ x)) := by
  obtain ⟨xn, xd, xe, rfl, hxn, hxd, hxe⟩ := id hx
  obtain ⟨a1, n1, c1, l1, rfl, _⟩ := id hxn
  obtain ⟨a2, n2, c2, l2, rfl, _⟩ := id hxd
  clear hxe
  generalize hsx : ng x = bx at *
  clear hsx
  have hb : Below w.heap.size w ((w.alloc (.cells #[.bool bx, .slice a1 n1 c1, .slice a2 n2 c2] 38)).alloc (.cells #[.bool false, .slice a1 n1 c1, .slice a2 n2 c2] 38)) := ((Below.refl _ _).alloc (Nat.le_refl _) _).alloc (by simp) _
  have hz : Box3 ((w.alloc (.cells #[.bool bx, .slice a1 n1 c1, .slice a2 n2 c2] 38)).alloc (.cells #[.bool false, .slice a1 n1 c1, .slice a2 n2 c2] 38)) (w.heap.size + 1) (.bool false) (.slice a1 n1 c1) (.slice a2 n2 c2) := Box3.new' _ _ _ _ _ _ (by simp)
  have hQ := (hx.mono hb).abs
  have HB := Lib.hid hb
  have HZ := Lib.hid hz
  have HQ := Lib.hid hQ
  clear hb hz hQ hx hxn hxd
  go_enter Tryz.func71, Tryz.ntmps71
  go_wp2
  exact ret_R0 rfl rfl rfl HZ.out HQ.out HB.out

end Go.Proofs.YtkfekkhhfpkfaaaGreat
