/-
  The contracts of the program's fractions, second part: size, Int, New, Zero, Sign, Abs, Neg, Mul, by, Div.
-/
import Derived.Test.YtkfekkhhfpkfaaaGreatRatP1
import Derived.StillTailTactics
set_option linter.unusedSimpArgs false
set_option linter.unusedVariables false
namespace Go.Proofs.YtkfekkhhfpkfaaaGreat
open Go.RowKit Dg
attribute [local go_sem ↓] Go.wp_at_zero Go.wp_at_succ

theorem lt_pow1P {n : Nat} (h : n ≤ 9223372036854775808) : n < 18446744073709551616 ^ 1 := by omega

set_option maxRecDepth 100000 in
set_option maxHeartbeats 4000000 in
theorem p_size_calls (n : Int) (w : World) (h0 : -9223372036854775808 ≤ n) (h1 : n ≤ 9223372036854775807) : Calls Tryz.prog 104 #[.int .i64 n] w (RetN .u64 18446744073709551616 w n.natAbs) := by
  by_cases hn : n < 0
  · go_enter Tryz.func104, Tryz.ntmps104
    go_wp2_with fail
    rw [show IntKind.u64.wrap (-IntKind.u64.wrap n) = ((n.natAbs : Nat) : Int) from by show (-(n % 18446744073709551616)) % 18446744073709551616 = _; omega]
    refine (ln_word n.natAbs _ (by omega)).mono ?_
    rintro e w1 ⟨_, rfl, hv, hb⟩
    go_wp2
    go_ret
    exact ⟨_, rfl, hv, hb⟩
  · obtain ⟨m, rfl⟩ := Int.eq_ofNat_of_zero_le (show 0 ≤ n by omega)
    rw [Int.natAbs_natCast]
    go_enter Tryz.func104, Tryz.ntmps104
    go_wp2_with fail
    refine (ln_word m _ (by omega)).mono ?_
    rintro e w1 ⟨_, rfl, hv, hb⟩
    go_wp2
    go_ret
    exact ⟨_, rfl, hv, hb⟩

set_option maxRecDepth 100000 in
set_option maxHeartbeats 4000000 in
theorem p_Int_calls (n : Int) (w : World) (h0 : -9223372036854775808 ≤ n) (h1 : n ≤ 9223372036854775807) : Calls Tryz.prog 45 #[.int .i64 n] w (RetP w (n : Rat)) := by
  have hng : decide (n < 0) = ng (n : Rat) := by unfold ng; rw [Rat.num_intCast]
  generalize hneg : decide (n < 0) = b at *
  have HNG := Lib.hid hng
  clear hng
  go_enter Tryz.func45, Tryz.ntmps45
  have hs := Below.refl w.heap.size w
  go_wp2_with fail
  refine Calls.abs ?_
  intro w1 hW
  have hsz := hs.size
  have hs1 : Below w.heap.size w w1 := by rw [hW]; exact (Below.alloc hs (by first | exact hs.size | (have := hs.size; simp; done) | (have := hs.size; simp; omega)) _)
  have hk : KeepD w w1 := by rw [hW]; exact ((KeepD.refl _).alloc _)
  have Bl1z : Bx w1 (w.heap.size) 32 #[.bool false, .slice none 0 0, .slice none 0 0] := by rw [hW]; exact (Bx.new' _ _ _ _ (by first | rfl | (simp; done)))
  replace hs := hs1
  clear hs1
  have Blz := Bl1z
  clear Bl1z
  clear hW hk hsz
  have hz_w1 : w.heap.size < w1.heap.size := Blz.lt
  refine (p_size_calls n _ h0 h1).mono ?_
  rintro e w2 ⟨_, rfl, hm, hb⟩
  obtain ⟨ahm, nhm, chm, rfl⟩ := hm.shape
  replace hs := bStep hs hb
  replace Blz := Blz.mono hb
  clear hb
  have cz_0 : w2.cell? ⟨w.heap.size, 0, none⟩ = some (.bool false) := Blz.at 0 rfl
  have cz_1 : w2.cell? ⟨w.heap.size, 1, none⟩ = some (.slice none 0 0) := Blz.at 1 rfl
  have cz_2 : w2.cell? ⟨w.heap.size, 2, none⟩ = some (.slice none 0 0) := Blz.at 2 rfl
  have fz := Blz.free
  go_wp2
  refine bodyPost.abs ?_
  intro w3 hW
  have hsz := hs.size
  have lz := Blz.lt
  have hs1 : Below w.heap.size w w3 := by rw [hW]; exact (Below.setCell (Below.setCell (Below.setCell hs (by first | exact Nat.le_refl _ | omega | (have := hs.size; simp; done) | (have := hs.size; simp; omega)) _) (by first | exact Nat.le_refl _ | omega | (have := hs.size; simp; done) | (have := hs.size; simp; omega)) _) (by first | exact Nat.le_refl _ | omega | (have := hs.size; simp; done) | (have := hs.size; simp; omega)) _)
  have hk : KeepD w2 w3 := by rw [hW]; exact (KeepD.set (KeepD.set (KeepD.set (KeepD.refl _) Blz.ty (by decide) _ _) (TyB.store Blz.ty _ _) (by decide) _ _) (TyB.store (TyB.store Blz.ty _ _) _ _) (by decide) _ _)
  have Bl1z : Bx w3 (w.heap.size) 32 #[.bool b, .slice ahm nhm chm, .slice none 0 0] := by rw [hW]; exact (Bx.set (Bx.set (Bx.set Blz 0 _ rfl) 1 _ rfl) 2 _ rfl)
  replace hs := hs1
  clear hs1
  replace Blz := Bl1z
  clear Bl1z
  replace hm := hm.keep hk
  clear hW hk hsz lz
  exact ret_P rfl rfl rfl Blz (PV.mk' hm (d := 0) ⟨_, _, _, [], rfl, Sl.empty _ _ _ _ (by omega) (fun _ => rfl), Canon.nil _, rfl⟩ HNG.out (by rw [Rat.num_intCast]) (by rw [Rat.den_intCast]; rfl)) hs

set_option maxRecDepth 100000 in
set_option maxHeartbeats 4000000 in
theorem p_New_calls (n d : Int) (w : World) (h0 : -9223372036854775808 ≤ n) (h1 : n ≤ 9223372036854775807) (d0 : -9223372036854775808 ≤ d) (d1 : d ≤ 9223372036854775807) (hd : d ≠ 0) : Calls Tryz.prog 85 #[.int .i64 n, .int .i64 d] w (RetPE w ((n : Rat) / (d : Rat)) 0) := by
  rw [frac_mk n d hd]
  have z1 : n.natAbs < 18446744073709551616 ^ 1 := lt_pow1P (by omega)
  have z2 : d.natAbs < 18446744073709551616 ^ 1 := lt_pow1P (by omega)
  have o1 : 0 < d.natAbs := by omega
  have o2 : 1 ≤ 1099511627774 := by omega
  have hd' : (d == 0) = false := by rw [beq_eq_false_iff_ne]; exact hd
  have Z1 := Lib.hid z1
  have Z2 := Lib.hid z2
  clear z1 z2 hd
  generalize hneg : decide (n < 0) = b
  generalize hneg' : decide (d < 0) = c
  go_enter Tryz.func85, Tryz.ntmps85
  have hs := Below.refl w.heap.size w
  go_wp2_with fail
  refine Calls.abs ?_
  intro w1 hW
  have hsz := hs.size
  have hs1 : Below w.heap.size w w1 := by rw [hW]; exact (Below.alloc hs (by first | exact hs.size | (have := hs.size; simp; done) | (have := hs.size; simp; omega)) _)
  have hk : KeepD w w1 := by rw [hW]; exact ((KeepD.refl _).alloc _)
  have Bl1z : Bx w1 (w.heap.size) 32 #[.bool false, .slice none 0 0, .slice none 0 0] := by rw [hW]; exact (Bx.new' _ _ _ _ (by first | rfl | (simp; done)))
  replace hs := hs1
  clear hs1
  have Blz := Bl1z
  clear Bl1z
  clear hW hk hsz
  have hz_w1 : w.heap.size < w1.heap.size := Blz.lt
  refine (p_size_calls n _ h0 h1).mono ?_
  rintro e w2 ⟨_, rfl, hm, hb⟩
  obtain ⟨ahm, nhm, chm, rfl⟩ := hm.shape
  replace hs := bStep hs hb
  replace Blz := Blz.mono hb
  clear hb
  go_wp2_with fail
  refine (p_size_calls d _ d0 d1).mono ?_
  rintro e w3 ⟨_, rfl, hm2, hb⟩
  obtain ⟨ahm2, nhm2, chm2, rfl⟩ := hm2.shape
  replace hs := bStep hs hb
  replace Blz := Blz.mono hb
  replace hm := hm.mono hb
  clear hb
  go_wp2_with fail
  refine (p_reduced_calls _ _ _ _ _ _ _ hm hm2 o1 o2 Z1.out Z2.out).mono ?_
  rintro e w4 ⟨_, rfl, hQ, hb⟩
  obtain ⟨shQ, ahQ, nhQ, chQ, AhQ, NhQ, ChQ, rfl⟩ := hQ.shape
  replace hs := bStep hs hb
  replace Blz := Blz.mono hb
  replace hm := hm.mono hb
  replace hm2 := hm2.mono hb
  clear hb
  have cz_0 : w4.cell? ⟨w.heap.size, 0, none⟩ = some (.bool false) := Blz.at 0 rfl
  have cz_1 : w4.cell? ⟨w.heap.size, 1, none⟩ = some (.slice none 0 0) := Blz.at 1 rfl
  have cz_2 : w4.cell? ⟨w.heap.size, 2, none⟩ = some (.slice none 0 0) := Blz.at 2 rfl
  have fz := Blz.free
  go_wp2
  refine bodyPost.abs ?_
  intro w5 hW
  have hsz := hs.size
  have lz := Blz.lt
  have hs1 : Below w.heap.size w w5 := by rw [hW]; exact (Below.setCell (Below.setCell (Below.setCell hs (by first | exact Nat.le_refl _ | omega | (have := hs.size; simp; done) | (have := hs.size; simp; omega)) _) (by first | exact Nat.le_refl _ | omega | (have := hs.size; simp; done) | (have := hs.size; simp; omega)) _) (by first | exact Nat.le_refl _ | omega | (have := hs.size; simp; done) | (have := hs.size; simp; omega)) _)
  have hk : KeepD w4 w5 := by rw [hW]; exact (KeepD.set (KeepD.set (KeepD.set (KeepD.refl _) Blz.ty (by decide) _ _) (TyB.store Blz.ty _ _) (by decide) _ _) (TyB.store (TyB.store Blz.ty _ _) _ _) (by decide) _ _)
  have Bl1z : Bx w5 (w.heap.size) 32 #[.bool shQ, .slice ahQ nhQ chQ, .slice AhQ NhQ ChQ] := by rw [hW]; exact (Bx.set (Bx.set (Bx.set Blz 0 _ rfl) 1 _ rfl) 2 _ rfl)
  replace hs := hs1
  clear hs1
  replace Blz := Bl1z
  clear Bl1z
  replace hm := hm.keep hk
  replace hm2 := hm2.keep hk
  replace hQ := hQ.keep hk
  clear hW hk hsz lz
  exact ret_PE rfl rfl rfl rfl Blz (hQ.of_eq (by cases b <;> cases c <;> rfl)) hs

set_option maxRecDepth 100000 in
set_option maxHeartbeats 4000000 in
theorem p_New_zero (n : Int) (w : World) : Calls Tryz.prog 85 #[.int .i64 n, .int .i64 0] w (RetPE w 0 3) := by
  go_enter Tryz.func85, Tryz.ntmps85
  have hs := Below.refl w.heap.size w
  go_wp2
  refine bodyPost.abs ?_
  intro w1 hW
  have hsz := hs.size
  have hs1 : Below w.heap.size w w1 := by rw [hW]; exact (Below.alloc hs (by first | exact hs.size | (have := hs.size; simp; done) | (have := hs.size; simp; omega)) _)
  have hk : KeepD w w1 := by rw [hW]; exact ((KeepD.refl _).alloc _)
  have Bl1z : Bx w1 (w.heap.size) 32 #[.bool false, .slice none 0 0, .slice none 0 0] := by rw [hW]; exact (Bx.new' _ _ _ _ (by first | rfl | (simp; done)))
  replace hs := hs1
  clear hs1
  have Blz := Bl1z
  clear Bl1z
  clear hW hk hsz
  have hz_w1 : w.heap.size < w1.heap.size := Blz.lt
  exact ret_PE rfl rfl rfl rfl Blz (PV.zero _) hs

set_option maxRecDepth 100000 in
set_option maxHeartbeats 4000000 in
theorem p_Zero_calls (vx : Value) (x : Rat) (w : World) (hx : PV w vx x) : Calls Tryz.prog 131 #[vx] w (RetV w (.bool (decide (x = 0)))) := by
  obtain ⟨gx, ax, nx, cx, Ax, Nx, Cx, rfl⟩ := hx.shape
  have egx := hx.sign
  have EGx := Lib.hid egx
  have hxn := hx.parts.2.1
  have hxd := hx.parts.2.2
  have hb : nx ≤ 9223372036854775807 := by
    obtain ⟨ao, n, c, l, e, hsl, hcl, hvl⟩ := hxn
    cases e
    have := hsl.cap; have := hsl.max; omega
  have hz0 : decide (x = 0) = ((nx : Int) == 0) := by
    obtain ⟨ao, n, c, l, e, hsl, hcl, hvl⟩ := hxn
    cases e
    rw [Bool.eq_iff_iff, decide_eq_true_eq, beq_iff_eq, ← natAbs_zero_iff, ← hvl]
    have := hcl.length_pos_iff (by omega)
    rw [hsl.len] at this
    omega
  rw [hz0]
  clear hz0 hxn hxd hx
  clear egx
  go_enter Tryz.func131, Tryz.ntmps131
  go_wp2
  go_ret
  exact ⟨rfl, (Below.refl _ _).alloc (Nat.le_refl _) _⟩

set_option maxRecDepth 100000 in
set_option maxHeartbeats 4000000 in
theorem p_Sign_calls (vx : Value) (x : Rat) (w : World) (hx : PV w vx x) : Calls Tryz.prog 79 #[vx] w (RetV w (.int .i64 (sgQ x))) := by
  obtain ⟨gx, ax, nx, cx, Ax, Nx, Cx, rfl⟩ := hx.shape
  have egx := hx.sign
  have EGx := Lib.hid egx
  have hval : sgQ x = if ng x then -1 else if decide (x = 0) then 0 else 1 := by
    unfold sgQ ng
    by_cases h0 : x = 0
    · subst h0; decide
    · have hn0 : x.num ≠ 0 := fun h => h0 (Rat.num_eq_zero.1 h)
      by_cases hneg : x.num < 0 <;> simp [h0, hn0, hneg]
  rw [hval, ← egx]
  clear hval
  generalize hz0 : decide (x = 0) = z at *
  clear egx
  have hs := Below.refl w.heap.size w
  cases gx <;> cases z
  · go_enter Tryz.func79, Tryz.ntmps79
    go_wp2_with fail
    refine Calls.abs ?_
    intro w1 hW
    have hsz := hs.size
    have hs1 : Below w.heap.size w w1 := by rw [hW]; exact (Below.alloc hs (by first | exact hs.size | (have := hs.size; simp; done) | (have := hs.size; simp; omega)) _)
    have hk : KeepD w w1 := by rw [hW]; exact ((KeepD.refl _).alloc _)
    have Bl1x : Bx w1 (w.heap.size) 32 #[.bool false, .slice ax nx cx, .slice Ax Nx Cx] := by rw [hW]; exact (Bx.new' _ _ _ _ (by first | rfl | (simp; done)))
    replace hs := hs1
    clear hs1
    have Blx := Bl1x
    clear Bl1x
    replace hx := hx.keep hk
    clear hW hk hsz
    have hz_w1 : w.heap.size < w1.heap.size := Blx.lt
    refine (p_Zero_calls _ _ _ hx).mono ?_
    rintro e w2 ⟨rfl, hb⟩
    replace hs := bStep hs hb
    replace Blx := Blx.mono hb
    replace hx := hx.mono hb
    clear hb
    rw [hz0]
    go_wp2
    go_ret
    exact ⟨rfl, hs⟩
  · go_enter Tryz.func79, Tryz.ntmps79
    go_wp2_with fail
    refine Calls.abs ?_
    intro w1 hW
    have hsz := hs.size
    have hs1 : Below w.heap.size w w1 := by rw [hW]; exact (Below.alloc hs (by first | exact hs.size | (have := hs.size; simp; done) | (have := hs.size; simp; omega)) _)
    have hk : KeepD w w1 := by rw [hW]; exact ((KeepD.refl _).alloc _)
    have Bl1x : Bx w1 (w.heap.size) 32 #[.bool false, .slice ax nx cx, .slice Ax Nx Cx] := by rw [hW]; exact (Bx.new' _ _ _ _ (by first | rfl | (simp; done)))
    replace hs := hs1
    clear hs1
    have Blx := Bl1x
    clear Bl1x
    replace hx := hx.keep hk
    clear hW hk hsz
    have hz_w1 : w.heap.size < w1.heap.size := Blx.lt
    refine (p_Zero_calls _ _ _ hx).mono ?_
    rintro e w2 ⟨rfl, hb⟩
    replace hs := bStep hs hb
    replace Blx := Blx.mono hb
    replace hx := hx.mono hb
    clear hb
    rw [hz0]
    go_wp2
    go_ret
    exact ⟨rfl, hs⟩
  all_goals
    go_enter Tryz.func79, Tryz.ntmps79
    go_wp2
    go_ret
    exact ⟨rfl, (Below.refl _ _).alloc (Nat.le_refl _) _⟩

theorem ng_abs (x : Rat) : ng (absQ x) = false := by
  unfold absQ ng
  by_cases h : x.num < 0
  · simp only [h, decide_true, if_true, Rat.neg_num]; rw [decide_eq_false_iff_not]; omega
  · simp [h]
theorem absQ_num (x : Rat) : (absQ x).num.natAbs = x.num.natAbs := by unfold absQ; split <;> simp [Rat.neg_num]
theorem absQ_den (x : Rat) : (absQ x).den = x.den := by unfold absQ; split <;> simp [Rat.neg_den]
theorem PV.abs {w : World} {x : Rat} {s v1 v2 : Value} (h : PV w (.agg #[s, v1, v2]) x) : PV w (.agg #[.bool false, v1, v2]) (absQ x) := by
  obtain ⟨_, h1, h2⟩ := h.parts
  exact PV.mk' h1 h2 (ng_abs x).symm (absQ_num x).symm (by rw [absQ_den])
theorem PV.neg {w : World} {x : Rat} {s v1 v2 : Value} {b : Bool} (h : PV w (.agg #[s, v1, v2]) x) (hb : b = (!ng x && !decide (x = 0))) : PV w (.agg #[.bool b, v1, v2]) (-x) := by
  obtain ⟨_, h1, h2⟩ := h.parts
  exact PV.mk' h1 h2 (by rw [hb, ng_neg]; simp) (by rw [Rat.neg_num, Int.natAbs_neg]) (by rw [Rat.neg_den])

set_option maxRecDepth 100000 in
set_option maxHeartbeats 4000000 in
theorem p_Abs_calls (vx : Value) (x : Rat) (w : World) (hx : PV w vx x) : Calls Tryz.prog 17 #[vx] w (RetP w (absQ x)) := by
  obtain ⟨gx, ax, nx, cx, Ax, Nx, Cx, rfl⟩ := hx.shape
  have egx := hx.sign
  have EGx := Lib.hid egx
  have hQ := hx.abs
  clear hx
  clear egx
  have hs := Below.refl w.heap.size w
  go_enter Tryz.func17, Tryz.ntmps17
  go_wp2
  refine bodyPost.abs ?_
  intro w1 hW
  have hsz := hs.size
  have hs1 : Below w.heap.size w w1 := by rw [hW]; exact (Below.alloc (Below.alloc hs (by first | exact hs.size | (have := hs.size; simp; done) | (have := hs.size; simp; omega)) _) (by first | exact hs.size | (have := hs.size; simp; done) | (have := hs.size; simp; omega)) _)
  have hk : KeepD w w1 := by rw [hW]; exact (((KeepD.refl _).alloc _).alloc _)
  have Bl1x : Bx w1 (w.heap.size) 32 #[.bool gx, .slice ax nx cx, .slice Ax Nx Cx] := by rw [hW]; exact ((Bx.new' _ _ _ _ (by first | rfl | (simp; done))).alloc _)
  have Bl1z : Bx w1 (w.heap.size + 1) 32 #[.bool false, .slice ax nx cx, .slice Ax Nx Cx] := by rw [hW]; exact (Bx.new' _ _ _ _ (by first | rfl | (simp; done)))
  replace hs := hs1
  clear hs1
  have Blx := Bl1x
  clear Bl1x
  have Blz := Bl1z
  clear Bl1z
  replace hQ := hQ.keep hk
  clear hW hk hsz
  have hz_w1 : w.heap.size + 1 < w1.heap.size := Blz.lt
  exact ret_P rfl rfl rfl Blz hQ hs

set_option maxRecDepth 100000 in
set_option maxHeartbeats 4000000 in
theorem p_Neg_calls (vx : Value) (x : Rat) (w : World) (hx : PV w vx x) : Calls Tryz.prog 106 #[vx] w (RetP w (-x)) := by
  obtain ⟨gx, ax, nx, cx, Ax, Nx, Cx, rfl⟩ := hx.shape
  have egx := hx.sign
  have EGx := Lib.hid egx
  have hs := Below.refl w.heap.size w
  clear egx
  cases gx
  · go_enter Tryz.func106, Tryz.ntmps106
    go_wp2_with fail
    refine Code.abs ?_
    intro w1 hW
    have hsz := hs.size
    have hs1 : Below w.heap.size w w1 := by rw [hW]; exact (Below.alloc (Below.alloc hs (by first | exact hs.size | (have := hs.size; simp; done) | (have := hs.size; simp; omega)) _) (by first | exact hs.size | (have := hs.size; simp; done) | (have := hs.size; simp; omega)) _)
    have hk : KeepD w w1 := by rw [hW]; exact (((KeepD.refl _).alloc _).alloc _)
    have Bl1x : Bx w1 (w.heap.size) 32 #[.bool false, .slice ax nx cx, .slice Ax Nx Cx] := by rw [hW]; exact ((Bx.new' _ _ _ _ (by first | rfl | (simp; done))).alloc _)
    have Bl1z : Bx w1 (w.heap.size + 1) 32 #[.bool false, .slice none 0 0, .slice none 0 0] := by rw [hW]; exact (Bx.new' _ _ _ _ (by first | rfl | (simp; done)))
    replace hs := hs1
    clear hs1
    have Blx := Bl1x
    clear Bl1x
    have Blz := Bl1z
    clear Bl1z
    replace hx := hx.keep hk
    clear hW hk hsz
    have hz_w1 : w.heap.size + 1 < w1.heap.size := Blz.lt
    have hb := bDrew w1
    replace hs := bStep hs hb
    replace Blx := Blx.mono hb
    replace Blz := Blz.mono hb
    replace hx := hx.mono hb
    clear hb
    have cx_0 : (w1.drew).cell? ⟨w.heap.size, 0, none⟩ = some (.bool false) := Blx.at 0 rfl
    have cx_1 : (w1.drew).cell? ⟨w.heap.size, 1, none⟩ = some (.slice ax nx cx) := Blx.at 1 rfl
    have cx_2 : (w1.drew).cell? ⟨w.heap.size, 2, none⟩ = some (.slice Ax Nx Cx) := Blx.at 2 rfl
    go_region_held3 (fun w' => w'.cell? ⟨w.heap.size, 0, none⟩ = some (.bool false) ∧ w'.cell? ⟨w.heap.size, 1, none⟩ = some (.slice ax nx cx) ∧ w'.cell? ⟨w.heap.size, 2, none⟩ = some (.slice Ax Nx Cx))
      (first | exact ⟨cx_0, cx_1, cx_2⟩ | exact ⟨cellO (cellO (cellO (cx_0) (by first | omega | (have := hs.size; simp; done) | (have := hs.size; simp; omega))) (by first | omega | (have := hs.size; simp; done) | (have := hs.size; simp; omega))) (by first | omega | (have := hs.size; simp; done) | (have := hs.size; simp; omega)), cellO (cellO (cellO (cx_1) (by first | omega | (have := hs.size; simp; done) | (have := hs.size; simp; omega))) (by first | omega | (have := hs.size; simp; done) | (have := hs.size; simp; omega))) (by first | omega | (have := hs.size; simp; done) | (have := hs.size; simp; omega)), cellO (cellO (cellO (cx_2) (by first | omega | (have := hs.size; simp; done) | (have := hs.size; simp; omega))) (by first | omega | (have := hs.size; simp; done) | (have := hs.size; simp; omega))) (by first | omega | (have := hs.size; simp; done) | (have := hs.size; simp; omega))⟩ | go_keep)
      (first
        | (go_at_call 131; (with_reducible refine (p_Zero_calls _ _ _ hx).mono ?_); rintro e w2 ⟨rfl, hb⟩; replace hs := bStep hs hb; replace Blx := Blx.mono hb; replace Blz := Blz.mono hb; replace hx := hx.mono hb; replace cx_0 := cellK cx_0 hb; replace cx_1 := cellK cx_1 hb; replace cx_2 := cellK cx_2 hb; clear hb; have cz_0 : w2.cell? ⟨w.heap.size + 1, 0, none⟩ = some (.bool false) := Blz.at 0 rfl; have cz_1 : w2.cell? ⟨w.heap.size + 1, 1, none⟩ = some (.slice none 0 0) := Blz.at 1 rfl; have cz_2 : w2.cell? ⟨w.heap.size + 1, 2, none⟩ = some (.slice none 0 0) := Blz.at 2 rfl; have fz := Blz.free))
    clear cx_0 cx_1 cx_2
    go_wp2
    refine bodyPost.abs ?_
    intro w3 hW
    have hsz := hs.size
    have lx := Blx.lt
    have lz := Blz.lt
    have hs1 : Below w.heap.size w w3 := by rw [hW]; exact (Below.setCell (Below.setCell (Below.setCell hs (by first | exact Nat.le_refl _ | omega | (have := hs.size; simp; done) | (have := hs.size; simp; omega)) _) (by first | exact Nat.le_refl _ | omega | (have := hs.size; simp; done) | (have := hs.size; simp; omega)) _) (by first | exact Nat.le_refl _ | omega | (have := hs.size; simp; done) | (have := hs.size; simp; omega)) _)
    have hk : KeepD w2 w3 := by rw [hW]; exact (KeepD.set (KeepD.set (KeepD.set (KeepD.refl _) Blz.ty (by decide) _ _) (TyB.store Blz.ty _ _) (by decide) _ _) (TyB.store (TyB.store Blz.ty _ _) _ _) (by decide) _ _)
    have Bl1x : Bx w3 (w.heap.size) 32 #[.bool false, .slice ax nx cx, .slice Ax Nx Cx] := by rw [hW]; exact (Bx.far (Bx.far (Bx.far Blx (by first | omega | (simp; done) | (simp; omega)) _) (by first | omega | (simp; done) | (simp; omega)) _) (by first | omega | (simp; done) | (simp; omega)) _)
    have Bl1z : Bx w3 (w.heap.size + 1) 32 #[.bool (!decide (x = 0)), .slice ax nx cx, .slice Ax Nx Cx] := by rw [hW]; exact (Bx.set (Bx.set (Bx.set Blz 0 _ rfl) 1 _ rfl) 2 _ rfl)
    replace hs := hs1
    clear hs1
    replace Blx := Bl1x
    clear Bl1x
    replace Blz := Bl1z
    clear Bl1z
    replace hx := hx.keep hk
    clear hW hk hsz lx lz
    exact ret_P rfl rfl rfl Blz (hx.neg (by rw [← EGx.out]; rfl)) hs
  · go_enter Tryz.func106, Tryz.ntmps106
    go_wp2_with fail
    refine Code.abs ?_
    intro w1 hW
    have hsz := hs.size
    have hs1 : Below w.heap.size w w1 := by rw [hW]; exact (Below.alloc (Below.alloc hs (by first | exact hs.size | (have := hs.size; simp; done) | (have := hs.size; simp; omega)) _) (by first | exact hs.size | (have := hs.size; simp; done) | (have := hs.size; simp; omega)) _)
    have hk : KeepD w w1 := by rw [hW]; exact (((KeepD.refl _).alloc _).alloc _)
    have Bl1x : Bx w1 (w.heap.size) 32 #[.bool true, .slice ax nx cx, .slice Ax Nx Cx] := by rw [hW]; exact ((Bx.new' _ _ _ _ (by first | rfl | (simp; done))).alloc _)
    have Bl1z : Bx w1 (w.heap.size + 1) 32 #[.bool false, .slice none 0 0, .slice none 0 0] := by rw [hW]; exact (Bx.new' _ _ _ _ (by first | rfl | (simp; done)))
    replace hs := hs1
    clear hs1
    have Blx := Bl1x
    clear Bl1x
    have Blz := Bl1z
    clear Bl1z
    replace hx := hx.keep hk
    clear hW hk hsz
    have hz_w1 : w.heap.size + 1 < w1.heap.size := Blz.lt
    have cx_0 : w1.cell? ⟨w.heap.size, 0, none⟩ = some (.bool true) := Blx.at 0 rfl
    have cx_1 : w1.cell? ⟨w.heap.size, 1, none⟩ = some (.slice ax nx cx) := Blx.at 1 rfl
    have cx_2 : w1.cell? ⟨w.heap.size, 2, none⟩ = some (.slice Ax Nx Cx) := Blx.at 2 rfl
    have cz_0 : w1.cell? ⟨w.heap.size + 1, 0, none⟩ = some (.bool false) := Blz.at 0 rfl
    have cz_1 : w1.cell? ⟨w.heap.size + 1, 1, none⟩ = some (.slice none 0 0) := Blz.at 1 rfl
    have cz_2 : w1.cell? ⟨w.heap.size + 1, 2, none⟩ = some (.slice none 0 0) := Blz.at 2 rfl
    have fz := Blz.free
    go_still_tail 13, (by kernel_rfl)
    change wpList _ _ _ _ _ (World.drew _)
    go_wp2
    refine bodyPost.abs ?_
    intro w2 hW
    have hsz := hs.size
    have lx := Blx.lt
    have lz := Blz.lt
    have hs1 : Below w.heap.size w w2 := by rw [hW]; exact (Below.setCell (Below.setCell (Below.setCell (Below.drew hs) (by first | exact Nat.le_refl _ | omega | (have := hs.size; simp; done) | (have := hs.size; simp; omega)) _) (by first | exact Nat.le_refl _ | omega | (have := hs.size; simp; done) | (have := hs.size; simp; omega)) _) (by first | exact Nat.le_refl _ | omega | (have := hs.size; simp; done) | (have := hs.size; simp; omega)) _)
    have hk : KeepD w1 w2 := by rw [hW]; exact (KeepD.set (KeepD.set (KeepD.set ((KeepD.refl _).drew) (Blz.ty.drew) (by decide) _ _) (TyB.store (Blz.ty.drew) _ _) (by decide) _ _) (TyB.store (TyB.store (Blz.ty.drew) _ _) _ _) (by decide) _ _)
    have Bl1x : Bx w2 (w.heap.size) 32 #[.bool true, .slice ax nx cx, .slice Ax Nx Cx] := by rw [hW]; exact (Bx.far (Bx.far (Bx.far (Blx.drew) (by first | omega | (simp; done) | (simp; omega)) _) (by first | omega | (simp; done) | (simp; omega)) _) (by first | omega | (simp; done) | (simp; omega)) _)
    have Bl1z : Bx w2 (w.heap.size + 1) 32 #[.bool false, .slice ax nx cx, .slice Ax Nx Cx] := by rw [hW]; exact (Bx.set (Bx.set (Bx.set (Blz.drew) 0 _ rfl) 1 _ rfl) 2 _ rfl)
    replace hs := hs1
    clear hs1
    replace Blx := Bl1x
    clear Bl1x
    replace Blz := Bl1z
    clear Bl1z
    replace hx := hx.keep hk
    clear hW hk hsz lx lz
    exact ret_P rfl rfl rfl Blz (hx.neg (by rw [← EGx.out]; rfl)) hs

set_option maxRecDepth 100000 in
set_option maxHeartbeats 4000000 in
theorem p_Mul_calls (vx vy : Value) (x y : Rat) (K : Nat) (w : World) (hx : PV w vx x) (hy : PV w vy y) (hK : K ≤ 268435456) (sx : SzP K x) (sy : SzP K y) : Calls Tryz.prog 55 #[vx, vy] w (RetP w (x * y)) := by
  obtain ⟨gx, ax, nx, cx, Ax, Nx, Cx, rfl⟩ := hx.shape
  have egx := hx.sign
  have EGx := Lib.hid egx
  have hxn := hx.parts.2.1
  have hxd := hx.parts.2.2
  obtain ⟨gy, ay, ny, cy, Ay, Ny, Cy, rfl⟩ := hy.shape
  have egy := hy.sign
  have EGy := Lib.hid egy
  have hyn := hy.parts.2.1
  have hyd := hy.parts.2.2
  have sx1 := sx.1
  have sx2 := sx.2
  have sy1 := sy.1
  have sy2 := sy.2
  have hdx := x.den_pos
  have hdy := y.den_pos
  have hd0 : 0 < x.den * y.den := Nat.mul_pos hdx hdy
  have zA : x.num.natAbs * y.num.natAbs < 18446744073709551616 ^ (K + K) := pow_mul_ltP sx1 sy1
  have zD : x.den * y.den < 18446744073709551616 ^ (K + K) := pow_mul_ltP sx2 sy2
  have hK' : K ≤ 1099511627776 := by omega
  have hK3 : K + K ≤ 1099511627774 := by omega
  have e1 := mul_mk x y
  rw [← egx, ← egy] at e1
  generalize hN1 : x.num.natAbs * y.num.natAbs = N1 at *
  generalize hN3 : x.den * y.den = N3 at *
  generalize x * y = xy at *
  have E1 := Lib.hid e1
  have HN1 := Lib.hid hN1
  have HN3 := Lib.hid hN3
  clear e1 hN1 hN3
  clear egx
  clear egy
  have hs := Below.refl w.heap.size w
  go_enter Tryz.func55, Tryz.ntmps55
  go_wp2_with fail
  clear hx hy
  refine Code.abs ?_
  intro w1 hW
  have hsz := hs.size
  have hs1 : Below w.heap.size w w1 := by rw [hW]; exact (Below.alloc (Below.alloc (Below.alloc hs (by first | exact hs.size | (have := hs.size; simp; done) | (have := hs.size; simp; omega)) _) (by first | exact hs.size | (have := hs.size; simp; done) | (have := hs.size; simp; omega)) _) (by first | exact hs.size | (have := hs.size; simp; done) | (have := hs.size; simp; omega)) _)
  have hk : KeepD w w1 := by rw [hW]; exact ((((KeepD.refl _).alloc _).alloc _).alloc _)
  have Bl1x : Bx w1 (w.heap.size) 32 #[.bool gx, .slice ax nx cx, .slice Ax Nx Cx] := by rw [hW]; exact (((Bx.new' _ _ _ _ (by first | rfl | (simp; done))).alloc _).alloc _)
  have Bl1y : Bx w1 (w.heap.size + 1) 32 #[.bool gy, .slice ay ny cy, .slice Ay Ny Cy] := by rw [hW]; exact ((Bx.new' _ _ _ _ (by first | rfl | (simp; done))).alloc _)
  have Bl1z : Bx w1 (w.heap.size + 1 + 1) 32 #[.bool false, .slice none 0 0, .slice none 0 0] := by rw [hW]; exact (Bx.new' _ _ _ _ (by first | rfl | (simp; done)))
  replace hs := hs1
  clear hs1
  have Blx := Bl1x
  clear Bl1x
  have Bly := Bl1y
  clear Bl1y
  have Blz := Bl1z
  clear Bl1z
  replace hxn := hxn.keep hk
  replace hxd := hxd.keep hk
  replace hyn := hyn.keep hk
  replace hyd := hyd.keep hk
  clear hW hk hsz
  have hz_w1 : w.heap.size + 1 + 1 < w1.heap.size := Blz.lt
  have hb := bDrew w1
  replace hs := bStep hs hb
  replace Blx := Blx.mono hb
  replace Bly := Bly.mono hb
  replace Blz := Blz.mono hb
  replace hxn := hxn.mono hb
  replace hxd := hxd.mono hb
  replace hyn := hyn.mono hb
  replace hyd := hyd.mono hb
  clear hb
  have cx_0 : (w1.drew).cell? ⟨w.heap.size, 0, none⟩ = some (.bool gx) := Blx.at 0 rfl
  have cx_1 : (w1.drew).cell? ⟨w.heap.size, 1, none⟩ = some (.slice ax nx cx) := Blx.at 1 rfl
  have cx_2 : (w1.drew).cell? ⟨w.heap.size, 2, none⟩ = some (.slice Ax Nx Cx) := Blx.at 2 rfl
  have cy_0 : (w1.drew).cell? ⟨w.heap.size + 1, 0, none⟩ = some (.bool gy) := Bly.at 0 rfl
  have cy_1 : (w1.drew).cell? ⟨w.heap.size + 1, 1, none⟩ = some (.slice ay ny cy) := Bly.at 1 rfl
  have cy_2 : (w1.drew).cell? ⟨w.heap.size + 1, 2, none⟩ = some (.slice Ay Ny Cy) := Bly.at 2 rfl
  go_region_held3 (fun w' => w'.cell? ⟨w.heap.size, 0, none⟩ = some (.bool gx) ∧ w'.cell? ⟨w.heap.size, 1, none⟩ = some (.slice ax nx cx) ∧ w'.cell? ⟨w.heap.size, 2, none⟩ = some (.slice Ax Nx Cx) ∧ w'.cell? ⟨w.heap.size + 1, 0, none⟩ = some (.bool gy) ∧ w'.cell? ⟨w.heap.size + 1, 1, none⟩ = some (.slice ay ny cy) ∧ w'.cell? ⟨w.heap.size + 1, 2, none⟩ = some (.slice Ay Ny Cy))
    (first | exact ⟨cx_0, cx_1, cx_2, cy_0, cy_1, cy_2⟩ | exact ⟨cellO (cellO (cellO (cx_0) (by first | omega | (have := hs.size; simp; done) | (have := hs.size; simp; omega))) (by first | omega | (have := hs.size; simp; done) | (have := hs.size; simp; omega))) (by first | omega | (have := hs.size; simp; done) | (have := hs.size; simp; omega)), cellO (cellO (cellO (cx_1) (by first | omega | (have := hs.size; simp; done) | (have := hs.size; simp; omega))) (by first | omega | (have := hs.size; simp; done) | (have := hs.size; simp; omega))) (by first | omega | (have := hs.size; simp; done) | (have := hs.size; simp; omega)), cellO (cellO (cellO (cx_2) (by first | omega | (have := hs.size; simp; done) | (have := hs.size; simp; omega))) (by first | omega | (have := hs.size; simp; done) | (have := hs.size; simp; omega))) (by first | omega | (have := hs.size; simp; done) | (have := hs.size; simp; omega)), cellO (cellO (cellO (cy_0) (by first | omega | (have := hs.size; simp; done) | (have := hs.size; simp; omega))) (by first | omega | (have := hs.size; simp; done) | (have := hs.size; simp; omega))) (by first | omega | (have := hs.size; simp; done) | (have := hs.size; simp; omega)), cellO (cellO (cellO (cy_1) (by first | omega | (have := hs.size; simp; done) | (have := hs.size; simp; omega))) (by first | omega | (have := hs.size; simp; done) | (have := hs.size; simp; omega))) (by first | omega | (have := hs.size; simp; done) | (have := hs.size; simp; omega)), cellO (cellO (cellO (cy_2) (by first | omega | (have := hs.size; simp; done) | (have := hs.size; simp; omega))) (by first | omega | (have := hs.size; simp; done) | (have := hs.size; simp; omega))) (by first | omega | (have := hs.size; simp; done) | (have := hs.size; simp; omega))⟩ | go_keep)
    (first
      | (go_at_call 80; (with_reducible refine (ln_times hxn hyn sx1 sy1 hK' hK').mono ?_); rintro e w2 ⟨_, rfl, hA, hb⟩; obtain ⟨ahA, nhA, chA, rfl⟩ := hA.shape; replace hs := bStep hs hb; replace Blx := Blx.mono hb; replace Bly := Bly.mono hb; replace Blz := Blz.mono hb; replace hxn := hxn.mono hb; replace hxd := hxd.mono hb; replace hyn := hyn.mono hb; replace hyd := hyd.mono hb; replace cx_0 := cellK cx_0 hb; replace cx_1 := cellK cx_1 hb; replace cx_2 := cellK cx_2 hb; replace cy_0 := cellK cy_0 hb; replace cy_1 := cellK cy_1 hb; replace cy_2 := cellK cy_2 hb; clear hb; rw [HN1.out] at hA)
      | (go_at_call 81; (with_reducible refine (p_under_calls _ _ _ hdx hxd).mono ?_); rintro e w3 ⟨_, rfl, hu1, hb⟩; obtain ⟨ahu1, nhu1, chu1, rfl⟩ := hu1.shape; replace hs := bStep hs hb; replace Blx := Blx.mono hb; replace Bly := Bly.mono hb; replace Blz := Blz.mono hb; replace hxn := hxn.mono hb; replace hxd := hxd.mono hb; replace hyn := hyn.mono hb; replace hyd := hyd.mono hb; replace hA := hA.mono hb; replace cx_0 := cellK cx_0 hb; replace cx_1 := cellK cx_1 hb; replace cx_2 := cellK cx_2 hb; replace cy_0 := cellK cy_0 hb; replace cy_1 := cellK cy_1 hb; replace cy_2 := cellK cy_2 hb; clear hb)
      | (go_at_call 81; (with_reducible refine (p_under_calls _ _ _ hdy hyd).mono ?_); rintro e w4 ⟨_, rfl, hu2, hb⟩; obtain ⟨ahu2, nhu2, chu2, rfl⟩ := hu2.shape; replace hs := bStep hs hb; replace Blx := Blx.mono hb; replace Bly := Bly.mono hb; replace Blz := Blz.mono hb; replace hxn := hxn.mono hb; replace hxd := hxd.mono hb; replace hyn := hyn.mono hb; replace hyd := hyd.mono hb; replace hA := hA.mono hb; replace hu1 := hu1.mono hb; replace cx_0 := cellK cx_0 hb; replace cx_1 := cellK cx_1 hb; replace cx_2 := cellK cx_2 hb; replace cy_0 := cellK cy_0 hb; replace cy_1 := cellK cy_1 hb; replace cy_2 := cellK cy_2 hb; clear hb)
      | (go_at_call 80; (with_reducible refine (ln_times hu1 hu2 sx2 sy2 hK' hK').mono ?_); rintro e w5 ⟨_, rfl, hD, hb⟩; obtain ⟨ahD, nhD, chD, rfl⟩ := hD.shape; replace hs := bStep hs hb; replace Blx := Blx.mono hb; replace Bly := Bly.mono hb; replace Blz := Blz.mono hb; replace hxn := hxn.mono hb; replace hxd := hxd.mono hb; replace hyn := hyn.mono hb; replace hyd := hyd.mono hb; replace hA := hA.mono hb; replace hu1 := hu1.mono hb; replace hu2 := hu2.mono hb; replace cx_0 := cellK cx_0 hb; replace cx_1 := cellK cx_1 hb; replace cx_2 := cellK cx_2 hb; replace cy_0 := cellK cy_0 hb; replace cy_1 := cellK cy_1 hb; replace cy_2 := cellK cy_2 hb; clear hb; rw [HN3.out] at hD)
      | (go_at_call 76; (with_reducible refine (p_reduced_calls _ _ _ _ _ _ _ hA hD hd0 hK3 zA zD).mono ?_); rintro e w6 ⟨_, rfl, hQ, hb⟩; obtain ⟨shQ, ahQ, nhQ, chQ, AhQ, NhQ, ChQ, rfl⟩ := hQ.shape; replace hs := bStep hs hb; replace Blx := Blx.mono hb; replace Bly := Bly.mono hb; replace Blz := Blz.mono hb; replace hxn := hxn.mono hb; replace hxd := hxd.mono hb; replace hyn := hyn.mono hb; replace hyd := hyd.mono hb; replace hA := hA.mono hb; replace hu1 := hu1.mono hb; replace hu2 := hu2.mono hb; replace hD := hD.mono hb; replace cx_0 := cellK cx_0 hb; replace cx_1 := cellK cx_1 hb; replace cx_2 := cellK cx_2 hb; replace cy_0 := cellK cy_0 hb; replace cy_1 := cellK cy_1 hb; replace cy_2 := cellK cy_2 hb; clear hb; have cz_0 : w6.cell? ⟨w.heap.size + 1 + 1, 0, none⟩ = some (.bool false) := Blz.at 0 rfl; have cz_1 : w6.cell? ⟨w.heap.size + 1 + 1, 1, none⟩ = some (.slice none 0 0) := Blz.at 1 rfl; have cz_2 : w6.cell? ⟨w.heap.size + 1 + 1, 2, none⟩ = some (.slice none 0 0) := Blz.at 2 rfl; have fz := Blz.free))
  clear cx_0 cx_1 cx_2 cy_0 cy_1 cy_2
  go_wp2
  refine bodyPost.abs ?_
  intro w7 hW
  have hsz := hs.size
  have lx := Blx.lt
  have ly := Bly.lt
  have lz := Blz.lt
  have hs1 : Below w.heap.size w w7 := by rw [hW]; exact (Below.setCell (Below.setCell (Below.setCell hs (by first | exact Nat.le_refl _ | omega | (have := hs.size; simp; done) | (have := hs.size; simp; omega)) _) (by first | exact Nat.le_refl _ | omega | (have := hs.size; simp; done) | (have := hs.size; simp; omega)) _) (by first | exact Nat.le_refl _ | omega | (have := hs.size; simp; done) | (have := hs.size; simp; omega)) _)
  have hk : KeepD w6 w7 := by rw [hW]; exact (KeepD.set (KeepD.set (KeepD.set (KeepD.refl _) Blz.ty (by decide) _ _) (TyB.store Blz.ty _ _) (by decide) _ _) (TyB.store (TyB.store Blz.ty _ _) _ _) (by decide) _ _)
  have Bl1x : Bx w7 (w.heap.size) 32 #[.bool gx, .slice ax nx cx, .slice Ax Nx Cx] := by rw [hW]; exact (Bx.far (Bx.far (Bx.far Blx (by first | omega | (simp; done) | (simp; omega)) _) (by first | omega | (simp; done) | (simp; omega)) _) (by first | omega | (simp; done) | (simp; omega)) _)
  have Bl1y : Bx w7 (w.heap.size + 1) 32 #[.bool gy, .slice ay ny cy, .slice Ay Ny Cy] := by rw [hW]; exact (Bx.far (Bx.far (Bx.far Bly (by first | omega | (simp; done) | (simp; omega)) _) (by first | omega | (simp; done) | (simp; omega)) _) (by first | omega | (simp; done) | (simp; omega)) _)
  have Bl1z : Bx w7 (w.heap.size + 1 + 1) 32 #[.bool shQ, .slice ahQ nhQ chQ, .slice AhQ NhQ ChQ] := by rw [hW]; exact (Bx.set (Bx.set (Bx.set Blz 0 _ rfl) 1 _ rfl) 2 _ rfl)
  replace hs := hs1
  clear hs1
  replace Blx := Bl1x
  clear Bl1x
  replace Bly := Bl1y
  clear Bl1y
  replace Blz := Bl1z
  clear Bl1z
  replace hxn := hxn.keep hk
  replace hxd := hxd.keep hk
  replace hyn := hyn.keep hk
  replace hyd := hyd.keep hk
  replace hA := hA.keep hk
  replace hu1 := hu1.keep hk
  replace hu2 := hu2.keep hk
  replace hD := hD.keep hk
  replace hQ := hQ.keep hk
  clear hW hk hsz lx ly lz
  exact ret_P rfl rfl rfl Blz (hQ.of_eq (E1.out.trans (by cases gx <;> cases gy <;> rfl)).symm) hs

set_option maxRecDepth 100000 in
set_option maxHeartbeats 4000000 in
theorem p_by_calls (vx vy : Value) (x y : Rat) (K : Nat) (w : World) (hx : PV w vx x) (hy : PV w vy y) (hK : K ≤ 268435456) (sx : SzP K x) (sy : SzP K y) (hy0 : y ≠ 0) : Calls Tryz.prog 143 #[vx, vy] w (RetP w (x / y)) := by
  obtain ⟨gx, ax, nx, cx, Ax, Nx, Cx, rfl⟩ := hx.shape
  have egx := hx.sign
  have EGx := Lib.hid egx
  have hxn := hx.parts.2.1
  have hxd := hx.parts.2.2
  obtain ⟨gy, ay, ny, cy, Ay, Ny, Cy, rfl⟩ := hy.shape
  have egy := hy.sign
  have EGy := Lib.hid egy
  have hyn := hy.parts.2.1
  have hyd := hy.parts.2.2
  have sx1 := sx.1
  have sx2 := sx.2
  have sy1 := sy.1
  have sy2 := sy.2
  have hdx := x.den_pos
  have hdy := y.den_pos
  have hn0 : 0 < y.num.natAbs := Nat.pos_of_ne_zero (fun h => hy0 ((natAbs_zero_iff y).1 h))
  have hd0 : 0 < x.den * y.num.natAbs := Nat.mul_pos hdx hn0
  have zA : x.num.natAbs * y.den < 18446744073709551616 ^ (K + K) := pow_mul_ltP sx1 sy2
  have zD : x.den * y.num.natAbs < 18446744073709551616 ^ (K + K) := pow_mul_ltP sx2 sy1
  have hK' : K ≤ 1099511627776 := by omega
  have hK3 : K + K ≤ 1099511627774 := by omega
  have e1 := div_mk x y hy0
  rw [← egx, ← egy] at e1
  generalize hN1 : x.num.natAbs * y.den = N1 at *
  generalize hN3 : x.den * y.num.natAbs = N3 at *
  generalize x / y = xy at *
  have E1 := Lib.hid e1
  have HN1 := Lib.hid hN1
  have HN3 := Lib.hid hN3
  clear e1 hN1 hN3 hy0
  clear egx
  clear egy
  have hs := Below.refl w.heap.size w
  go_enter Tryz.func143, Tryz.ntmps143
  go_wp2_with fail
  clear hx hy
  refine Code.abs ?_
  intro w1 hW
  have hsz := hs.size
  have hs1 : Below w.heap.size w w1 := by rw [hW]; exact (Below.alloc (Below.alloc (Below.alloc hs (by first | exact hs.size | (have := hs.size; simp; done) | (have := hs.size; simp; omega)) _) (by first | exact hs.size | (have := hs.size; simp; done) | (have := hs.size; simp; omega)) _) (by first | exact hs.size | (have := hs.size; simp; done) | (have := hs.size; simp; omega)) _)
  have hk : KeepD w w1 := by rw [hW]; exact ((((KeepD.refl _).alloc _).alloc _).alloc _)
  have Bl1x : Bx w1 (w.heap.size) 32 #[.bool gx, .slice ax nx cx, .slice Ax Nx Cx] := by rw [hW]; exact (((Bx.new' _ _ _ _ (by first | rfl | (simp; done))).alloc _).alloc _)
  have Bl1y : Bx w1 (w.heap.size + 1) 32 #[.bool gy, .slice ay ny cy, .slice Ay Ny Cy] := by rw [hW]; exact ((Bx.new' _ _ _ _ (by first | rfl | (simp; done))).alloc _)
  have Bl1z : Bx w1 (w.heap.size + 1 + 1) 32 #[.bool false, .slice none 0 0, .slice none 0 0] := by rw [hW]; exact (Bx.new' _ _ _ _ (by first | rfl | (simp; done)))
  replace hs := hs1
  clear hs1
  have Blx := Bl1x
  clear Bl1x
  have Bly := Bl1y
  clear Bl1y
  have Blz := Bl1z
  clear Bl1z
  replace hxn := hxn.keep hk
  replace hxd := hxd.keep hk
  replace hyn := hyn.keep hk
  replace hyd := hyd.keep hk
  clear hW hk hsz
  have hz_w1 : w.heap.size + 1 + 1 < w1.heap.size := Blz.lt
  have hb := bDrew w1
  replace hs := bStep hs hb
  replace Blx := Blx.mono hb
  replace Bly := Bly.mono hb
  replace Blz := Blz.mono hb
  replace hxn := hxn.mono hb
  replace hxd := hxd.mono hb
  replace hyn := hyn.mono hb
  replace hyd := hyd.mono hb
  clear hb
  have cx_0 : (w1.drew).cell? ⟨w.heap.size, 0, none⟩ = some (.bool gx) := Blx.at 0 rfl
  have cx_1 : (w1.drew).cell? ⟨w.heap.size, 1, none⟩ = some (.slice ax nx cx) := Blx.at 1 rfl
  have cx_2 : (w1.drew).cell? ⟨w.heap.size, 2, none⟩ = some (.slice Ax Nx Cx) := Blx.at 2 rfl
  have cy_0 : (w1.drew).cell? ⟨w.heap.size + 1, 0, none⟩ = some (.bool gy) := Bly.at 0 rfl
  have cy_1 : (w1.drew).cell? ⟨w.heap.size + 1, 1, none⟩ = some (.slice ay ny cy) := Bly.at 1 rfl
  have cy_2 : (w1.drew).cell? ⟨w.heap.size + 1, 2, none⟩ = some (.slice Ay Ny Cy) := Bly.at 2 rfl
  go_region_held3 (fun w' => w'.cell? ⟨w.heap.size, 0, none⟩ = some (.bool gx) ∧ w'.cell? ⟨w.heap.size, 1, none⟩ = some (.slice ax nx cx) ∧ w'.cell? ⟨w.heap.size, 2, none⟩ = some (.slice Ax Nx Cx) ∧ w'.cell? ⟨w.heap.size + 1, 0, none⟩ = some (.bool gy) ∧ w'.cell? ⟨w.heap.size + 1, 1, none⟩ = some (.slice ay ny cy) ∧ w'.cell? ⟨w.heap.size + 1, 2, none⟩ = some (.slice Ay Ny Cy))
    (first | exact ⟨cx_0, cx_1, cx_2, cy_0, cy_1, cy_2⟩ | exact ⟨cellO (cellO (cellO (cx_0) (by first | omega | (have := hs.size; simp; done) | (have := hs.size; simp; omega))) (by first | omega | (have := hs.size; simp; done) | (have := hs.size; simp; omega))) (by first | omega | (have := hs.size; simp; done) | (have := hs.size; simp; omega)), cellO (cellO (cellO (cx_1) (by first | omega | (have := hs.size; simp; done) | (have := hs.size; simp; omega))) (by first | omega | (have := hs.size; simp; done) | (have := hs.size; simp; omega))) (by first | omega | (have := hs.size; simp; done) | (have := hs.size; simp; omega)), cellO (cellO (cellO (cx_2) (by first | omega | (have := hs.size; simp; done) | (have := hs.size; simp; omega))) (by first | omega | (have := hs.size; simp; done) | (have := hs.size; simp; omega))) (by first | omega | (have := hs.size; simp; done) | (have := hs.size; simp; omega)), cellO (cellO (cellO (cy_0) (by first | omega | (have := hs.size; simp; done) | (have := hs.size; simp; omega))) (by first | omega | (have := hs.size; simp; done) | (have := hs.size; simp; omega))) (by first | omega | (have := hs.size; simp; done) | (have := hs.size; simp; omega)), cellO (cellO (cellO (cy_1) (by first | omega | (have := hs.size; simp; done) | (have := hs.size; simp; omega))) (by first | omega | (have := hs.size; simp; done) | (have := hs.size; simp; omega))) (by first | omega | (have := hs.size; simp; done) | (have := hs.size; simp; omega)), cellO (cellO (cellO (cy_2) (by first | omega | (have := hs.size; simp; done) | (have := hs.size; simp; omega))) (by first | omega | (have := hs.size; simp; done) | (have := hs.size; simp; omega))) (by first | omega | (have := hs.size; simp; done) | (have := hs.size; simp; omega))⟩ | go_keep)
    (first
      | (go_at_call 81; (with_reducible refine (p_under_calls _ _ _ hdy hyd).mono ?_); rintro e w2 ⟨_, rfl, hu1, hb⟩; obtain ⟨ahu1, nhu1, chu1, rfl⟩ := hu1.shape; replace hs := bStep hs hb; replace Blx := Blx.mono hb; replace Bly := Bly.mono hb; replace Blz := Blz.mono hb; replace hxn := hxn.mono hb; replace hxd := hxd.mono hb; replace hyn := hyn.mono hb; replace hyd := hyd.mono hb; replace cx_0 := cellK cx_0 hb; replace cx_1 := cellK cx_1 hb; replace cx_2 := cellK cx_2 hb; replace cy_0 := cellK cy_0 hb; replace cy_1 := cellK cy_1 hb; replace cy_2 := cellK cy_2 hb; clear hb)
      | (go_at_call 80; (with_reducible refine (ln_times hxn hu1 sx1 sy2 hK' hK').mono ?_); rintro e w3 ⟨_, rfl, hA, hb⟩; obtain ⟨ahA, nhA, chA, rfl⟩ := hA.shape; replace hs := bStep hs hb; replace Blx := Blx.mono hb; replace Bly := Bly.mono hb; replace Blz := Blz.mono hb; replace hxn := hxn.mono hb; replace hxd := hxd.mono hb; replace hyn := hyn.mono hb; replace hyd := hyd.mono hb; replace hu1 := hu1.mono hb; replace cx_0 := cellK cx_0 hb; replace cx_1 := cellK cx_1 hb; replace cx_2 := cellK cx_2 hb; replace cy_0 := cellK cy_0 hb; replace cy_1 := cellK cy_1 hb; replace cy_2 := cellK cy_2 hb; clear hb; rw [HN1.out] at hA)
      | (go_at_call 81; (with_reducible refine (p_under_calls _ _ _ hdx hxd).mono ?_); rintro e w4 ⟨_, rfl, hu2, hb⟩; obtain ⟨ahu2, nhu2, chu2, rfl⟩ := hu2.shape; replace hs := bStep hs hb; replace Blx := Blx.mono hb; replace Bly := Bly.mono hb; replace Blz := Blz.mono hb; replace hxn := hxn.mono hb; replace hxd := hxd.mono hb; replace hyn := hyn.mono hb; replace hyd := hyd.mono hb; replace hu1 := hu1.mono hb; replace hA := hA.mono hb; replace cx_0 := cellK cx_0 hb; replace cx_1 := cellK cx_1 hb; replace cx_2 := cellK cx_2 hb; replace cy_0 := cellK cy_0 hb; replace cy_1 := cellK cy_1 hb; replace cy_2 := cellK cy_2 hb; clear hb)
      | (go_at_call 80; (with_reducible refine (ln_times hu2 hyn sx2 sy1 hK' hK').mono ?_); rintro e w5 ⟨_, rfl, hD, hb⟩; obtain ⟨ahD, nhD, chD, rfl⟩ := hD.shape; replace hs := bStep hs hb; replace Blx := Blx.mono hb; replace Bly := Bly.mono hb; replace Blz := Blz.mono hb; replace hxn := hxn.mono hb; replace hxd := hxd.mono hb; replace hyn := hyn.mono hb; replace hyd := hyd.mono hb; replace hu1 := hu1.mono hb; replace hA := hA.mono hb; replace hu2 := hu2.mono hb; replace cx_0 := cellK cx_0 hb; replace cx_1 := cellK cx_1 hb; replace cx_2 := cellK cx_2 hb; replace cy_0 := cellK cy_0 hb; replace cy_1 := cellK cy_1 hb; replace cy_2 := cellK cy_2 hb; clear hb; rw [HN3.out] at hD)
      | (go_at_call 76; (with_reducible refine (p_reduced_calls _ _ _ _ _ _ _ hA hD hd0 hK3 zA zD).mono ?_); rintro e w6 ⟨_, rfl, hQ, hb⟩; obtain ⟨shQ, ahQ, nhQ, chQ, AhQ, NhQ, ChQ, rfl⟩ := hQ.shape; replace hs := bStep hs hb; replace Blx := Blx.mono hb; replace Bly := Bly.mono hb; replace Blz := Blz.mono hb; replace hxn := hxn.mono hb; replace hxd := hxd.mono hb; replace hyn := hyn.mono hb; replace hyd := hyd.mono hb; replace hu1 := hu1.mono hb; replace hA := hA.mono hb; replace hu2 := hu2.mono hb; replace hD := hD.mono hb; replace cx_0 := cellK cx_0 hb; replace cx_1 := cellK cx_1 hb; replace cx_2 := cellK cx_2 hb; replace cy_0 := cellK cy_0 hb; replace cy_1 := cellK cy_1 hb; replace cy_2 := cellK cy_2 hb; clear hb; have cz_0 : w6.cell? ⟨w.heap.size + 1 + 1, 0, none⟩ = some (.bool false) := Blz.at 0 rfl; have cz_1 : w6.cell? ⟨w.heap.size + 1 + 1, 1, none⟩ = some (.slice none 0 0) := Blz.at 1 rfl; have cz_2 : w6.cell? ⟨w.heap.size + 1 + 1, 2, none⟩ = some (.slice none 0 0) := Blz.at 2 rfl; have fz := Blz.free))
  clear cx_0 cx_1 cx_2 cy_0 cy_1 cy_2
  go_wp2
  refine bodyPost.abs ?_
  intro w7 hW
  have hsz := hs.size
  have lx := Blx.lt
  have ly := Bly.lt
  have lz := Blz.lt
  have hs1 : Below w.heap.size w w7 := by rw [hW]; exact (Below.setCell (Below.setCell (Below.setCell hs (by first | exact Nat.le_refl _ | omega | (have := hs.size; simp; done) | (have := hs.size; simp; omega)) _) (by first | exact Nat.le_refl _ | omega | (have := hs.size; simp; done) | (have := hs.size; simp; omega)) _) (by first | exact Nat.le_refl _ | omega | (have := hs.size; simp; done) | (have := hs.size; simp; omega)) _)
  have hk : KeepD w6 w7 := by rw [hW]; exact (KeepD.set (KeepD.set (KeepD.set (KeepD.refl _) Blz.ty (by decide) _ _) (TyB.store Blz.ty _ _) (by decide) _ _) (TyB.store (TyB.store Blz.ty _ _) _ _) (by decide) _ _)
  have Bl1x : Bx w7 (w.heap.size) 32 #[.bool gx, .slice ax nx cx, .slice Ax Nx Cx] := by rw [hW]; exact (Bx.far (Bx.far (Bx.far Blx (by first | omega | (simp; done) | (simp; omega)) _) (by first | omega | (simp; done) | (simp; omega)) _) (by first | omega | (simp; done) | (simp; omega)) _)
  have Bl1y : Bx w7 (w.heap.size + 1) 32 #[.bool gy, .slice ay ny cy, .slice Ay Ny Cy] := by rw [hW]; exact (Bx.far (Bx.far (Bx.far Bly (by first | omega | (simp; done) | (simp; omega)) _) (by first | omega | (simp; done) | (simp; omega)) _) (by first | omega | (simp; done) | (simp; omega)) _)
  have Bl1z : Bx w7 (w.heap.size + 1 + 1) 32 #[.bool shQ, .slice ahQ nhQ chQ, .slice AhQ NhQ ChQ] := by rw [hW]; exact (Bx.set (Bx.set (Bx.set Blz 0 _ rfl) 1 _ rfl) 2 _ rfl)
  replace hs := hs1
  clear hs1
  replace Blx := Bl1x
  clear Bl1x
  replace Bly := Bl1y
  clear Bl1y
  replace Blz := Bl1z
  clear Bl1z
  replace hxn := hxn.keep hk
  replace hxd := hxd.keep hk
  replace hyn := hyn.keep hk
  replace hyd := hyd.keep hk
  replace hu1 := hu1.keep hk
  replace hA := hA.keep hk
  replace hu2 := hu2.keep hk
  replace hD := hD.keep hk
  replace hQ := hQ.keep hk
  clear hW hk hsz lx ly lz
  exact ret_P rfl rfl rfl Blz (hQ.of_eq (E1.out.trans (by cases gx <;> cases gy <;> rfl)).symm) hs

set_option maxRecDepth 100000 in
set_option maxHeartbeats 4000000 in
theorem p_Div_calls (vx vy : Value) (x y : Rat) (K : Nat) (w : World) (hx : PV w vx x) (hy : PV w vy y) (hK : K ≤ 268435456) (sx : SzP K x) (sy : SzP K y) (hy0 : y ≠ 0) : Calls Tryz.prog 111 #[vx, vy] w (RetPE w (x / y) 0) := by
  obtain ⟨gx, ax, nx, cx, Ax, Nx, Cx, rfl⟩ := hx.shape
  have egx := hx.sign
  have EGx := Lib.hid egx
  obtain ⟨gy, ay, ny, cy, Ay, Ny, Cy, rfl⟩ := hy.shape
  have egy := hy.sign
  have EGy := Lib.hid egy
  have hz0 : decide (y = 0) = false := decide_eq_false hy0
  have HZ0 := Lib.hid hz0
  clear hz0
  clear egx egy
  have hs := Below.refl w.heap.size w
  go_enter Tryz.func111, Tryz.ntmps111
  go_wp2_with fail
  refine Calls.abs ?_
  intro w1 hW
  have hsz := hs.size
  have hs1 : Below w.heap.size w w1 := by rw [hW]; exact (Below.alloc (Below.alloc (Below.alloc hs (by first | exact hs.size | (have := hs.size; simp; done) | (have := hs.size; simp; omega)) _) (by first | exact hs.size | (have := hs.size; simp; done) | (have := hs.size; simp; omega)) _) (by first | exact hs.size | (have := hs.size; simp; done) | (have := hs.size; simp; omega)) _)
  have hk : KeepD w w1 := by rw [hW]; exact ((((KeepD.refl _).alloc _).alloc _).alloc _)
  have Bl1x : Bx w1 (w.heap.size) 32 #[.bool gx, .slice ax nx cx, .slice Ax Nx Cx] := by rw [hW]; exact (((Bx.new' _ _ _ _ (by first | rfl | (simp; done))).alloc _).alloc _)
  have Bl1y : Bx w1 (w.heap.size + 1) 32 #[.bool gy, .slice ay ny cy, .slice Ay Ny Cy] := by rw [hW]; exact ((Bx.new' _ _ _ _ (by first | rfl | (simp; done))).alloc _)
  have Bl1z : Bx w1 (w.heap.size + 1 + 1) 32 #[.bool false, .slice none 0 0, .slice none 0 0] := by rw [hW]; exact (Bx.new' _ _ _ _ (by first | rfl | (simp; done)))
  replace hs := hs1
  clear hs1
  have Blx := Bl1x
  clear Bl1x
  have Bly := Bl1y
  clear Bl1y
  have Blz := Bl1z
  clear Bl1z
  replace hx := hx.keep hk
  replace hy := hy.keep hk
  clear hW hk hsz
  have hz_w1 : w.heap.size + 1 + 1 < w1.heap.size := Blz.lt
  refine (p_Zero_calls _ _ _ hy).mono ?_
  rintro e w2 ⟨rfl, hb⟩
  replace hs := bStep hs hb
  replace Blx := Blx.mono hb
  replace Bly := Bly.mono hb
  replace Blz := Blz.mono hb
  replace hx := hx.mono hb
  replace hy := hy.mono hb
  clear hb
  rw [HZ0.out]
  have cx_0 : w2.cell? ⟨w.heap.size, 0, none⟩ = some (.bool gx) := Blx.at 0 rfl
  have cx_1 : w2.cell? ⟨w.heap.size, 1, none⟩ = some (.slice ax nx cx) := Blx.at 1 rfl
  have cx_2 : w2.cell? ⟨w.heap.size, 2, none⟩ = some (.slice Ax Nx Cx) := Blx.at 2 rfl
  have cy_0 : w2.cell? ⟨w.heap.size + 1, 0, none⟩ = some (.bool gy) := Bly.at 0 rfl
  have cy_1 : w2.cell? ⟨w.heap.size + 1, 1, none⟩ = some (.slice ay ny cy) := Bly.at 1 rfl
  have cy_2 : w2.cell? ⟨w.heap.size + 1, 2, none⟩ = some (.slice Ay Ny Cy) := Bly.at 2 rfl
  go_wp2_with fail
  clear cx_0 cx_1 cx_2 cy_0 cy_1 cy_2
  refine (p_by_calls _ _ x y K _ hx hy hK sx sy hy0).mono ?_
  rintro e w3 ⟨_, rfl, hQ, hb⟩
  obtain ⟨shQ, ahQ, nhQ, chQ, AhQ, NhQ, ChQ, rfl⟩ := hQ.shape
  replace hs := bStep hs hb
  replace Blx := Blx.mono hb
  replace Bly := Bly.mono hb
  replace Blz := Blz.mono hb
  replace hx := hx.mono hb
  replace hy := hy.mono hb
  clear hb
  have cz_0 : w3.cell? ⟨w.heap.size + 1 + 1, 0, none⟩ = some (.bool false) := Blz.at 0 rfl
  have cz_1 : w3.cell? ⟨w.heap.size + 1 + 1, 1, none⟩ = some (.slice none 0 0) := Blz.at 1 rfl
  have cz_2 : w3.cell? ⟨w.heap.size + 1 + 1, 2, none⟩ = some (.slice none 0 0) := Blz.at 2 rfl
  have fz := Blz.free
  go_wp2
  refine bodyPost.abs ?_
  intro w4 hW
  have hsz := hs.size
  have lx := Blx.lt
  have ly := Bly.lt
  have lz := Blz.lt
  have hs1 : Below w.heap.size w w4 := by rw [hW]; exact (Below.setCell (Below.setCell (Below.setCell hs (by first | exact Nat.le_refl _ | omega | (have := hs.size; simp; done) | (have := hs.size; simp; omega)) _) (by first | exact Nat.le_refl _ | omega | (have := hs.size; simp; done) | (have := hs.size; simp; omega)) _) (by first | exact Nat.le_refl _ | omega | (have := hs.size; simp; done) | (have := hs.size; simp; omega)) _)
  have hk : KeepD w3 w4 := by rw [hW]; exact (KeepD.set (KeepD.set (KeepD.set (KeepD.refl _) Blz.ty (by decide) _ _) (TyB.store Blz.ty _ _) (by decide) _ _) (TyB.store (TyB.store Blz.ty _ _) _ _) (by decide) _ _)
  have Bl1x : Bx w4 (w.heap.size) 32 #[.bool gx, .slice ax nx cx, .slice Ax Nx Cx] := by rw [hW]; exact (Bx.far (Bx.far (Bx.far Blx (by first | omega | (simp; done) | (simp; omega)) _) (by first | omega | (simp; done) | (simp; omega)) _) (by first | omega | (simp; done) | (simp; omega)) _)
  have Bl1y : Bx w4 (w.heap.size + 1) 32 #[.bool gy, .slice ay ny cy, .slice Ay Ny Cy] := by rw [hW]; exact (Bx.far (Bx.far (Bx.far Bly (by first | omega | (simp; done) | (simp; omega)) _) (by first | omega | (simp; done) | (simp; omega)) _) (by first | omega | (simp; done) | (simp; omega)) _)
  have Bl1z : Bx w4 (w.heap.size + 1 + 1) 32 #[.bool shQ, .slice ahQ nhQ chQ, .slice AhQ NhQ ChQ] := by rw [hW]; exact (Bx.set (Bx.set (Bx.set Blz 0 _ rfl) 1 _ rfl) 2 _ rfl)
  replace hs := hs1
  clear hs1
  replace Blx := Bl1x
  clear Bl1x
  replace Bly := Bl1y
  clear Bl1y
  replace Blz := Bl1z
  clear Bl1z
  replace hx := hx.keep hk
  replace hy := hy.keep hk
  replace hQ := hQ.keep hk
  clear hW hk hsz lx ly lz
  exact ret_PE rfl rfl rfl rfl Blz hQ hs

set_option maxRecDepth 100000 in
set_option maxHeartbeats 4000000 in
theorem p_Div_zero (vx vy : Value) (x : Rat) (w : World) (hx : PV w vx x) (hy : PV w vy 0) : Calls Tryz.prog 111 #[vx, vy] w (RetPE w 0 3) := by
  obtain ⟨gx, ax, nx, cx, Ax, Nx, Cx, rfl⟩ := hx.shape
  have egx := hx.sign
  have EGx := Lib.hid egx
  obtain ⟨gy, ay, ny, cy, Ay, Ny, Cy, rfl⟩ := hy.shape
  have egy := hy.sign
  have EGy := Lib.hid egy
  clear egx egy
  have hs := Below.refl w.heap.size w
  go_enter Tryz.func111, Tryz.ntmps111
  go_wp2_with fail
  refine Calls.abs ?_
  intro w1 hW
  have hsz := hs.size
  have hs1 : Below w.heap.size w w1 := by rw [hW]; exact (Below.alloc (Below.alloc (Below.alloc hs (by first | exact hs.size | (have := hs.size; simp; done) | (have := hs.size; simp; omega)) _) (by first | exact hs.size | (have := hs.size; simp; done) | (have := hs.size; simp; omega)) _) (by first | exact hs.size | (have := hs.size; simp; done) | (have := hs.size; simp; omega)) _)
  have hk : KeepD w w1 := by rw [hW]; exact ((((KeepD.refl _).alloc _).alloc _).alloc _)
  have Bl1x : Bx w1 (w.heap.size) 32 #[.bool gx, .slice ax nx cx, .slice Ax Nx Cx] := by rw [hW]; exact (((Bx.new' _ _ _ _ (by first | rfl | (simp; done))).alloc _).alloc _)
  have Bl1y : Bx w1 (w.heap.size + 1) 32 #[.bool gy, .slice ay ny cy, .slice Ay Ny Cy] := by rw [hW]; exact ((Bx.new' _ _ _ _ (by first | rfl | (simp; done))).alloc _)
  have Bl1z : Bx w1 (w.heap.size + 1 + 1) 32 #[.bool false, .slice none 0 0, .slice none 0 0] := by rw [hW]; exact (Bx.new' _ _ _ _ (by first | rfl | (simp; done)))
  replace hs := hs1
  clear hs1
  have Blx := Bl1x
  clear Bl1x
  have Bly := Bl1y
  clear Bl1y
  have Blz := Bl1z
  clear Bl1z
  replace hx := hx.keep hk
  replace hy := hy.keep hk
  clear hW hk hsz
  have hz_w1 : w.heap.size + 1 + 1 < w1.heap.size := Blz.lt
  refine (p_Zero_calls _ _ _ hy).mono ?_
  rintro e w2 ⟨rfl, hb⟩
  replace hs := bStep hs hb
  replace Blx := Blx.mono hb
  replace Bly := Bly.mono hb
  replace Blz := Blz.mono hb
  replace hx := hx.mono hb
  replace hy := hy.mono hb
  clear hb
  rw [show decide ((0 : Rat) = 0) = true from by decide]
  have cz_0 : w2.cell? ⟨w.heap.size + 1 + 1, 0, none⟩ = some (.bool false) := Blz.at 0 rfl
  have cz_1 : w2.cell? ⟨w.heap.size + 1 + 1, 1, none⟩ = some (.slice none 0 0) := Blz.at 1 rfl
  have cz_2 : w2.cell? ⟨w.heap.size + 1 + 1, 2, none⟩ = some (.slice none 0 0) := Blz.at 2 rfl
  have fz := Blz.free
  go_wp2
  refine bodyPost.abs ?_
  intro w3 hW
  have hsz := hs.size
  have lx := Blx.lt
  have ly := Bly.lt
  have lz := Blz.lt
  have hs1 : Below w.heap.size w w3 := by rw [hW]; exact (Below.setCell (Below.setCell (Below.setCell hs (by first | exact Nat.le_refl _ | omega | (have := hs.size; simp; done) | (have := hs.size; simp; omega)) _) (by first | exact Nat.le_refl _ | omega | (have := hs.size; simp; done) | (have := hs.size; simp; omega)) _) (by first | exact Nat.le_refl _ | omega | (have := hs.size; simp; done) | (have := hs.size; simp; omega)) _)
  have hk : KeepD w2 w3 := by rw [hW]; exact (KeepD.set (KeepD.set (KeepD.set (KeepD.refl _) Blz.ty (by decide) _ _) (TyB.store Blz.ty _ _) (by decide) _ _) (TyB.store (TyB.store Blz.ty _ _) _ _) (by decide) _ _)
  have Bl1x : Bx w3 (w.heap.size) 32 #[.bool gx, .slice ax nx cx, .slice Ax Nx Cx] := by rw [hW]; exact (Bx.far (Bx.far (Bx.far Blx (by first | omega | (simp; done) | (simp; omega)) _) (by first | omega | (simp; done) | (simp; omega)) _) (by first | omega | (simp; done) | (simp; omega)) _)
  have Bl1y : Bx w3 (w.heap.size + 1) 32 #[.bool gy, .slice ay ny cy, .slice Ay Ny Cy] := by rw [hW]; exact (Bx.far (Bx.far (Bx.far Bly (by first | omega | (simp; done) | (simp; omega)) _) (by first | omega | (simp; done) | (simp; omega)) _) (by first | omega | (simp; done) | (simp; omega)) _)
  have Bl1z : Bx w3 (w.heap.size + 1 + 1) 32 #[.bool false, .slice none 0 0, .slice none 0 0] := by rw [hW]; exact (Bx.set (Bx.set (Bx.set Blz 0 _ rfl) 1 _ rfl) 2 _ rfl)
  replace hs := hs1
  clear hs1
  replace Blx := Bl1x
  clear Bl1x
  replace Bly := Bl1y
  clear Bl1y
  replace Blz := Bl1z
  clear Bl1z
  replace hx := hx.keep hk
  replace hy := hy.keep hk
  clear hW hk hsz lx ly lz
  exact ret_PE rfl rfl rfl rfl Blz (PV.zero _) hs
end Go.Proofs.YtkfekkhhfpkfaaaGreat
