/-
  The contracts of the reference's fractions, fourth part: magnitude, Int, New, Of, Sub, Cmp, Same, Div.
-/
import Derived.Test.YtkfekkhhfpkfaaaRefRat3
set_option linter.unusedSimpArgs false
set_option linter.unusedVariables false
namespace Go.Proofs.Ytkfekkhhfpkfaaa
open Go.RowKit Dg
attribute [local go_sem ↓] Go.wp_at_zero Go.wp_at_succ

theorem RetQ.of_eq {w : World} {q q' : Rat} {e : Ending} {w' : World} (h : RetQ w q e w') (hq : q = q') : RetQ w q' e w' := hq ▸ h

/-- A fraction and an error code are handed back. -/
def RetQE (w : World) (q : Rat) (err : Int) (e : Ending) (w' : World) : Prop := ∃ v, e = .returned (.tuple #[v, .int .i64 err]) ∧ RV w' v q ∧ Below w.heap.size w w'

set_option maxRecDepth 100000 in
theorem ret_RV2 {fn : Func} {p u : Tmp} {w0 w1 w : World} {g : Nat} {q : Rat} {s : Bool} {v1 v2 u0 u1 u2 : Value} {a : Act} {err : Int} (hr : fn.results = #[.cell p 64, .tmp u]) (ha : a.tmps.getD p undef = .pointer (some ⟨g, 0, none⟩)) (hu : a.tmps.getD u undef = .int .i64 err) (hdef : a.defers = [])
    (hbox : Box3 w1 g u0 u1 u2) (hni : NoInt w1 g) (hw : w = ((w1.setCell ⟨g, 0, none⟩ (.bool s)).setCell ⟨g, 1, none⟩ v1).setCell ⟨g, 2, none⟩ v2)
    {q' : Rat} (hq : q = q') (h : RV w1 (.agg #[.bool s, v1, v2]) q') (hb : Since w0 w1) (hg : w0.heap.size ≤ g) :
    bodyPost Try.prog fn (RetQE w0 q err) .ret a w := by
  subst hq
  subst hw
  obtain ⟨d, rfl, h1, h2, hd⟩ := h.parts
  have hst := store3 (s := ng q) hni h1 h2
  refine bodyPost_ret (v := .tuple #[.agg #[.bool (ng q), v1, v2], .int .i64 err]) ?_ hdef ⟨_, rfl, ⟨v1, v2, d, rfl, hst.1, hst.2, hd⟩, below_store3 hb hg _ _ _⟩
  rw [results_cell_tmp hr, ha, hu]
  simp only [asAddr, Sem.run_pure, Result.andThen_ok]
  rw [load_R (hbox.set _ _ _)]
  rfl

set_option maxRecDepth 100000 in
theorem ret_RVA {fn : Func} {p : Tmp} {w0 w1 w : World} {g : Nat} {q : Rat} {s : Bool} {v1 v2 u0 u1 u2 : Value} {o : Obj} {a : Act} (hr : fn.results = #[.cell p 64]) (ha : a.tmps.getD p undef = .pointer (some ⟨g, 0, none⟩)) (hdef : a.defers = [])
    (hbox : Box3 w1 g u0 u1 u2) (hni : NoInt w1 g) (hw : w = (((w1.setCell ⟨g, 0, none⟩ (.bool s)).setCell ⟨g, 1, none⟩ v1).setCell ⟨g, 2, none⟩ v2).alloc o)
    (h : RV w1 (.agg #[.bool s, v1, v2]) q) (hb : Since w0 w1) (hg : w0.heap.size ≤ g) :
    bodyPost Try.prog fn (RetQ w0 q) .ret a w := by
  subst hw
  obtain ⟨d, rfl, h1, h2, hd⟩ := h.parts
  have hst := store3 (s := ng q) hni h1 h2
  have hal := (Below.refl _ _).alloc (Nat.le_refl (((w1.setCell ⟨g, 0, none⟩ (.bool (ng q))).setCell ⟨g, 1, none⟩ v1).setCell ⟨g, 2, none⟩ v2).heap.size) o
  have hbb := below_store3 (g := g) hb hg (.bool (ng q)) v1 v2
  refine bodyPost_ret (v := .agg #[.bool (ng q), v1, v2]) ?_ hdef ⟨_, rfl, RV.mono ⟨v1, v2, d, rfl, hst.1, hst.2, hd⟩ hal, hbb.trans (hal.mono hbb.size)⟩
  rw [results_cell1 hr, ha]
  exact load_R ((hbox.set _ _ _).alloc _)

set_option maxRecDepth 100000 in
set_option maxHeartbeats 1000000 in
theorem r_magnitude_calls (n : Int) (w : World) (h0 : -9223372036854775808 ≤ n) (h1 : n ≤ 9223372036854775807) : Calls Try.prog 64 #[.int .i64 n] w (RetN .u32 4294967296 w n.natAbs) := by
  by_cases hn : n < 0
  · go_enter Try.func64, Try.ntmps64
    go_wp2_with fail
    rw [show IntKind.u64.wrap (-IntKind.u64.wrap n) = ((n.natAbs : Nat) : Int) from by show (-(n % 18446744073709551616)) % 18446744073709551616 = _; omega]
    refine (rn_Nat n.natAbs _ (by omega)).mono ?_
    rintro e w1 ⟨_, rfl, hv, hb⟩
    go_wp2
    go_ret
    exact ⟨_, rfl, hv, hb⟩
  · obtain ⟨m, rfl⟩ := Int.eq_ofNat_of_zero_le (show 0 ≤ n by omega)
    rw [Int.natAbs_natCast]
    go_enter Try.func64, Try.ntmps64
    go_wp2_with fail
    refine (rn_Nat m _ (by omega)).mono ?_
    rintro e w1 ⟨_, rfl, hv, hb⟩
    go_wp2
    go_ret
    exact ⟨_, rfl, hv, hb⟩



theorem sgQ_zero (x y : Rat) : (sgQ (x - y) == 0) = decide (x = y) := by
  rw [Bool.eq_iff_iff, beq_iff_eq, decide_eq_true_eq]
  unfold sgQ
  rw [show x = y ↔ x - y = 0 from ⟨fun h => by rw [h, Rat.sub_self], fun h => by have := Rat.sub_add_cancel (a := x) (b := y); rw [h, Rat.zero_add] at this; exact this.symm⟩, ← Rat.num_eq_zero]
  split
  · omega
  · split <;> omega



theorem int_mk (n : Int) : (n : Rat) = mkQ (decide (n < 0)) n.natAbs 1 := by
  unfold mkQ
  rw [show (if decide (n < 0) = true then -((n.natAbs : Nat) : Int) else ((n.natAbs : Nat) : Int)) = n from by split <;> simp_all <;> omega, Rat.mkRat_one]

theorem frac_mk (n d : Int) (hd : d ≠ 0) : (n : Rat) / (d : Rat) = mkQ (decide (n < 0) != decide (d < 0)) n.natAbs d.natAbs := by
  have h := div_mk (n : Rat) (d : Rat) (by rwa [Ne, Rat.intCast_eq_zero_iff])
  rw [h]
  simp only [ng, Rat.num_intCast, Rat.den_intCast, Nat.mul_one, Nat.one_mul]
  rfl

theorem lt_pow2 {n : Nat} (h : n ≤ 9223372036854775808) : n < 4294967296 ^ 2 := by omega

set_option maxRecDepth 100000 in
set_option maxHeartbeats 4000000 in
theorem r_Int_calls (n : Int) (w : World) (h0 : -9223372036854775808 ≤ n) (h1 : n ≤ 9223372036854775807) : Calls Try.prog 42 #[.int .i64 n] w (RetQ w (n : Rat)) := by
  rw [int_mk]
  have z1 : n.natAbs < 4294967296 ^ 2 := lt_pow2 (by omega)
  have z2 : 1 < 4294967296 ^ 2 := by omega
  have o1 : 1 ≠ 0 := by omega
  have o2 : 2 ≤ 536870912 := by omega
  have Z1 := Lib.hid z1
  clear z1
  generalize hneg : decide (n < 0) = b
  go_enter Try.func42, Try.ntmps42
  go_wp2_with fail
  generalize hw0 : (w.alloc (.cells #[.bool false, .slice none 0 0, .slice none 0 0] 64)) = w0
  have hs : Since w w0 := by rw [← hw0]; exact (Below.refl _ _).alloc (Nat.le_refl _) _
  have hz : Box3 w0 w.heap.size (.bool false) (.slice none 0 0) (.slice none 0 0) := by rw [← hw0]; exact Box3.new' _ _ _ _ _ _ rfl
  clear hw0
  refine (r_magnitude_calls n _ h0 h1).mono ?_
  rintro e w1 ⟨_, rfl, hm, hb⟩
  obtain ⟨_, _, _, _, rfl, _⟩ := id hm
  have hs := Since.step hs hb
  have hz := hz.mono hb
  go_wp2_with fail
  refine (rn_Nat 1 _ (by omega)).mono ?_
  rintro e w2 ⟨_, rfl, h1n, hb⟩
  obtain ⟨_, _, _, _, rfl, _⟩ := id h1n
  have hs := Since.step hs hb
  have hz := hz.mono hb
  have hm := hm.mono hb
  go_wp2_with fail
  refine (r_made_calls _ _ _ _ _ _ _ hm h1n o1 o2 Z1.out z2).mono ?_
  rintro e w3 ⟨_, rfl, hQ, hb⟩
  obtain ⟨_, _, _, rfl, ⟨_, _, _, _, rfl, _⟩, ⟨_, _, _, _, rfl, _⟩, _⟩ := id hQ
  have hs := Since.step hs hb
  have hz := hz.mono hb
  have hm := hm.mono hb
  have h1n := h1n.mono hb
  obtain ⟨z0, z1, z2⟩ := hz.cells
  have hf := hz.free
  go_wp2
  exact ret_RV rfl rfl rfl hz (hz.noInt (by simp) (by simp) (by simp)) rfl (rfl) hQ hs (Nat.le_refl _)

set_option maxRecDepth 100000 in
set_option maxHeartbeats 4000000 in
theorem r_New_calls (n d : Int) (w : World) (h0 : -9223372036854775808 ≤ n) (h1 : n ≤ 9223372036854775807) (d0 : -9223372036854775808 ≤ d) (d1 : d ≤ 9223372036854775807) (hd : d ≠ 0) : Calls Try.prog 43 #[.int .i64 n, .int .i64 d] w (RetQE w ((n : Rat) / (d : Rat)) 0) := by
  rw [frac_mk n d hd]
  have z1 : n.natAbs < 4294967296 ^ 2 := lt_pow2 (by omega)
  have z2 : d.natAbs < 4294967296 ^ 2 := lt_pow2 (by omega)
  have o1 : d.natAbs ≠ 0 := by omega
  have o2 : 2 ≤ 536870912 := by omega
  have hd' : (d == 0) = false := by rw [beq_eq_false_iff_ne]; exact hd
  have Z1 := Lib.hid z1
  have Z2 := Lib.hid z2
  have O1 := Lib.hid o1
  clear z1 z2 o1 hd
  generalize hneg : decide (n < 0) = b
  generalize hneg' : decide (d < 0) = c
  go_enter Try.func43, Try.ntmps43
  go_wp2_with fail
  generalize hw0 : (w.alloc (.cells #[.bool false, .slice none 0 0, .slice none 0 0] 64)) = w0
  have hs : Since w w0 := by rw [← hw0]; exact (Below.refl _ _).alloc (Nat.le_refl _) _
  have hz : Box3 w0 w.heap.size (.bool false) (.slice none 0 0) (.slice none 0 0) := by rw [← hw0]; exact Box3.new' _ _ _ _ _ _ rfl
  clear hw0
  refine (r_magnitude_calls n _ h0 h1).mono ?_
  rintro e w1 ⟨_, rfl, hm, hb⟩
  obtain ⟨_, _, _, _, rfl, _⟩ := id hm
  have hs := Since.step hs hb
  have hz := hz.mono hb
  go_wp2_with fail
  refine (r_magnitude_calls d _ d0 d1).mono ?_
  rintro e w2 ⟨_, rfl, hm2, hb⟩
  obtain ⟨_, _, _, _, rfl, _⟩ := id hm2
  have hs := Since.step hs hb
  have hz := hz.mono hb
  have hm := hm.mono hb
  go_wp2_with fail
  refine (r_made_calls _ _ _ _ _ _ _ hm hm2 O1.out o2 Z1.out Z2.out).mono ?_
  rintro e w3 ⟨_, rfl, hQ, hb⟩
  obtain ⟨_, _, _, rfl, ⟨_, _, _, _, rfl, _⟩, ⟨_, _, _, _, rfl, _⟩, _⟩ := id hQ
  have hs := Since.step hs hb
  have hz := hz.mono hb
  have hm := hm.mono hb
  have hm2 := hm2.mono hb
  obtain ⟨z0, z1, z2⟩ := hz.cells
  have hf := hz.free
  go_wp2
  exact ret_RV2 rfl rfl rfl rfl hz (hz.noInt (by simp) (by simp) (by simp)) rfl (by cases b <;> cases c <;> rfl) hQ hs (Nat.le_refl _)

/-- The fraction of plain data. -/
def fracQ (n d : Int) : Rat := if d ≤ 0 then (n : Rat) else (n : Rat) / (d : Rat)

set_option maxRecDepth 100000 in
set_option maxHeartbeats 4000000 in
theorem r_Of_calls (n d : Int) (w : World) (h0 : -9223372036854775808 ≤ n) (h1 : n ≤ 9223372036854775807) (d0 : -9223372036854775808 ≤ d) (d1 : d ≤ 9223372036854775807) : Calls Try.prog 20 #[.agg #[.int .i64 n, .int .i64 d]] w (RetQ w (fracQ n d)) := by
  by_cases hd : d ≤ 0
  · rw [show fracQ n d = (n : Rat) from if_pos hd]
    go_enter Try.func20, Try.ntmps20
    go_wp2_with fail
    generalize hw0 : ((w.alloc (.cells #[.int .i64 n, .int .i64 d] 53)).alloc (.cells #[.bool false, .slice none 0 0, .slice none 0 0] 64)) = w0
    have hs : Since w w0 := by rw [← hw0]; exact ((Below.refl _ _).alloc (Nat.le_refl _) _).alloc (by simp) _
    have hz : Box3 w0 (w.heap.size + 1) (.bool false) (.slice none 0 0) (.slice none 0 0) := by rw [← hw0]; exact Box3.new' _ _ _ _ _ _ (by simp)
    clear hw0
    refine (r_Int_calls n _ h0 h1).mono ?_
    rintro e w1 ⟨_, rfl, hQ, hb⟩
    obtain ⟨_, _, _, rfl, ⟨_, _, _, _, rfl, _⟩, ⟨_, _, _, _, rfl, _⟩, _⟩ := id hQ
    have hs := Since.step hs hb
    have hz := hz.mono hb
    obtain ⟨z0, z1, z2⟩ := hz.cells
    have hf := hz.free
    go_wp2
    exact ret_RV rfl rfl rfl hz (hz.noInt (by simp) (by simp) (by simp)) rfl (rfl) hQ hs (by omega)
  · rw [show fracQ n d = (n : Rat) / (d : Rat) from if_neg hd]
    go_enter Try.func20, Try.ntmps20
    go_wp2_with fail
    generalize hw0 : ((w.alloc (.cells #[.int .i64 n, .int .i64 d] 53)).alloc (.cells #[.bool false, .slice none 0 0, .slice none 0 0] 64)) = w0
    have hs : Since w w0 := by rw [← hw0]; exact ((Below.refl _ _).alloc (Nat.le_refl _) _).alloc (by simp) _
    have hz : Box3 w0 (w.heap.size + 1) (.bool false) (.slice none 0 0) (.slice none 0 0) := by rw [← hw0]; exact Box3.new' _ _ _ _ _ _ (by simp)
    clear hw0
    refine (r_New_calls n d _ h0 h1 d0 d1 (by omega)).mono ?_
    rintro e w1 ⟨_, rfl, hQ, hb⟩
    obtain ⟨_, _, _, rfl, ⟨_, _, _, _, rfl, _⟩, ⟨_, _, _, _, rfl, _⟩, _⟩ := id hQ
    have hs := Since.step hs hb
    have hz := hz.mono hb
    obtain ⟨z0, z1, z2⟩ := hz.cells
    have hf := hz.free
    have hlt : w.heap.size + 1 < w1.heap.size := hz.lt
    go_wp2
    exact ret_RVA rfl rfl rfl hz (hz.noInt (by simp) (by simp) (by simp)) rfl hQ hs (by omega)

/-- The text of a fraction. -/
def textQ (q : Rat) : List UInt8 := (if ng q then [45] else []) ++ decS q.num.natAbs ++ (if q.den = 1 then [] else 47 :: decS q.den)

theorem decS_len {n K : Nat} (h : n < 4294967296 ^ K) : (decS n).length ≤ 32 * K + 1 := by
  unfold decS
  split
  · simp
  · have h1 := dgs_length n
    have h2 : bl n ≤ 32 * K := bl_le_of_lt (by rwa [show (4294967296 : Nat) = 2 ^ 32 from rfl, ← Nat.pow_mul] at h)
    omega

theorem cat_eq (w : World) (P : Program) (a b : List UInt8) (h : a.length + b.length ≤ 9223372036854775807) : (Op.stringOp .add ⟨a.toArray⟩ ⟨b.toArray⟩).run P w = .ok (.string ⟨(a ++ b).toArray⟩) w := by
  rw [run_string_add_sum, bytes_append]
  simp only [ByteArray.size, List.size_toArray]
  exact h

end Go.Proofs.Ytkfekkhhfpkfaaa
