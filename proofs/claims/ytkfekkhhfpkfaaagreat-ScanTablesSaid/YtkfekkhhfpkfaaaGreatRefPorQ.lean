/-
  Reference 07: Porosity.
-/
import Derived.Test.YtkfekkhhfpkfaaaGreatPkRVQ
import Derived.Test.YtkfekkhhfpkfaaaGreatPkSpanQ
set_option linter.unusedSimpArgs false
set_option linter.unusedVariables false
set_option maxRecDepth 100000
set_option maxHeartbeats 16000000
namespace Go.Proofs.YtkfekkhhfpkfaaaGreat
open Go.RowKit Dg
attribute [local go_sem ↓] Go.wp_at_zero Go.wp_at_succ
theorem valQ_five {T : List Stp} {x q : Rat} {c : Int} (h : valQ T x = (q, c)) (h3 : ¬ c = 0) : c = 5 := by
 rcases valQ_err T x with e | e
 ·rw [h] at e; exact absurd e h3
 ·rw [h] at e; exact congrArg Prod.snd e
theorem r7_Porosity_ok (v : Value) (T : List Stp) (vr : Value) (lo hi a b : Rat) (c : Int) (w : World) (hl : Rows 6 155 (C2 RC) w v T) (hT1 : 1 ≤ T.length) (hz : TabSz T) (hr : RV2 w vr lo hi) (slo : SzQ 100 lo) (shi : SzQ 100 hi) (hte : tabE T = 0) (hv : porQ T lo hi = (a, b, c)) :
  Calls Tryz.prog 33 #[v, vr] w (Ret2 (fun w v => RV2 w v a b) (fun _ v => v = .int .i64 c) w) := by
 obtain ⟨rb, ro, rc, rfl, hc1, hc2, -⟩ := hl.open_ (by omega)
 have hrb : rb < w.heap.size := hl.lt (by omega)
 have hs := Below.refl w.heap.size w
 have HL := Lib.hid hl
 clear hl
 obtain ⟨Cx, Cp, Cv, Cr, Cd, Cn, Cf, Cw, Co, Cu, Cq, Cc, Cm, Ce, rfl, hlo, hhi⟩ := hr.shape
 clear hr
 have HZ := Lib.hid hz
 have Cy := Lib.hid hte
 obtain ⟨vl, cl, hvl⟩ : ∃ q c, valQ T lo = (q, c) := ⟨_, _, rfl⟩
 obtain ⟨vh, ch, hvh⟩ : ∃ q c, valQ T hi = (q, c) := ⟨_, _, rfl⟩
 have svl : SzQ 400 vl := by have := valQ_sz hz slo; rwa [hvl] at this
 have svh : SzQ 400 vh := by have := valQ_sz hz shi; rwa [hvh] at this
 have Dl := Lib.hid hvl
 have Dx := Lib.hid hvh
 have HAS := Lib.hid (ascB_asc _ (tabE_ok hte).2.2)
 have Dw := Lib.hid hv
 clear hz hv hte hvl hvh
 go_enter Tryz.func33, Tryz.ntmps33
 go_wp2_with fail
 refine Calls.abs ?_
 intro w1 hW
 have hG : Gr [] w w1 := by rw [hW]; exact (Gr.refl _ _).alloc.alloc
 have B6 : Below w.heap.size w w1 := hG.below0 hs.size
 have hk : KeepD w w1 := hG.keep True.intro
 have En : w.heap.size ≤ w.heap.size := hs.size
 have B1 : Bx w1 (w.heap.size) 87 #[.bool Cx, .slice Cp Cv Cr, .slice Cd Cn Cf, .bool Cw, .slice Co Cu Cq, .slice Cc Cm Ce] := by rw [hW]; exact ((Bx.new0 _ _ _).alloc _)
 have Blk : Bx w1 (w.heap.size + 1) 87 #[.bool false, .slice none 0 0, .slice none 0 0, .bool false, .slice none 0 0, .slice none 0 0] := by rw [hW]; exact (Bx.new0 _ _ _)
 replace hs := hs.trans B6
 replace hlo := hlo.keep hk
 replace hhi := hhi.keep hk
 clear hW hG hk B6
 have Ek := Blk.lt
 with_reducible refine (r7_zero _).mono ?_
 rintro e w2 ⟨_, rfl, h1, hb⟩
 obtain ⟨sh1, ah1, nh1, ch1, Ah1, Nh1, Ch1, rfl⟩ := h1.shape
 replace hs := bStep hs hb
 replace B1 := B1.mono hb
 replace Blk := Blk.mono hb
 replace hlo := hlo.mono hb
 replace hhi := hhi.mono hb
 clear hb
 go_wp2_with fail
 with_reducible refine (r_Only_ h1).mono ?_
 rintro e w3 ⟨_, rfl, h2, hb⟩
 obtain ⟨Bm, Bg, Bk, Bi, Ba, Be, Bc, Bn, Bh, Bl, Bj, Bb, Bf, Bd, rfl, B4, B5⟩ := h2.shape
 clear h1
 replace hs := bStep hs hb
 replace B1 := B1.mono hb
 replace Blk := Blk.mono hb
 replace hlo := hlo.mono hb
 replace hhi := hhi.mono hb
 clear hb
 go_wp2_with fail
 refine Calls.abs ?_
 intro w4 hW
 have hG : Gr [] w3 w4 := by rw [hW]; exact (Gr.refl _ _).alloc
 have B6 : Below w.heap.size w3 w4 := hG.below0 hs.size
 have hk : KeepD w3 w4 := hG.keep True.intro
 have Eo : w.heap.size ≤ w3.heap.size := hs.size
 have Dv := B1.lt
 have Em := Blk.lt
 have B0 : Bx w4 (w3.heap.size) 87 #[.bool Bm, .slice Bg Bk Bi, .slice Ba Be Bc, .bool Bn, .slice Bh Bl Bj, .slice Bb Bf Bd] := by rw [hW]; exact (Bx.new0 _ _ _)
 replace hs := hs.trans B6
 replace B1 := hG.bx B1 notMem0
 replace Blk := hG.bx Blk notMem0
 replace hlo := hlo.keep hk
 replace hhi := hhi.keep hk
 replace B4 := B4.keep hk
 replace B5 := B5.keep hk
 clear hW hG hk B6
 have El := B0.lt
 with_reducible refine (r7_Table _ T _ _ (HL.out.mono (C2.kept RC.kept) hs) HZ.out Cy.out).mono ?_
 rintro e w5 ⟨rfl, hb⟩
 replace hs := bStep hs hb
 replace B1 := B1.mono hb
 replace Blk := Blk.mono hb
 replace B0 := B0.mono hb
 replace hlo := hlo.mono hb
 replace hhi := hhi.mono hb
 replace B4 := B4.mono hb
 replace B5 := B5.mono hb
 clear hb
 go_wp2
 go_loopw [8] (fun s8 wq => ∃ k : Nat, 1 ≤ k ∧ k ≤ T.length ∧ s8 = .int .i64 k ∧ Below w.heap.size w wq ∧ Bx wq (w.heap.size) 87 #[.bool Cx, .slice Cp Cv Cr, .slice Cd Cn Cf, .bool Cw, .slice Co Cu Cq, .slice Cc Cm Ce] ∧ Bx wq (w.heap.size + 1) 87 #[.bool false, .slice none 0 0, .slice none 0 0, .bool false, .slice none 0 0, .slice none 0 0] ∧ Bx wq (w3.heap.size) 87 #[.bool Bm, .slice Bg Bk Bi, .slice Ba Be Bc, .bool Bn, .slice Bh Bl Bj, .slice Bb Bf Bd] ∧ RV wq (.agg #[.bool Cx, .slice Cp Cv Cr, .slice Cd Cn Cf]) (lo) ∧ RV wq (.agg #[.bool Cw, .slice Co Cu Cq, .slice Cc Cm Ce]) (hi) ∧ RV wq (.agg #[.bool Bm, .slice Bg Bk Bi, .slice Ba Be Bc]) (0) ∧ RV wq (.agg #[.bool Bn, .slice Bh Bl Bj, .slice Bb Bf Bd]) (0) ∧ (risB T k = true)) (fun s8 _ => T.length - (intOf s8).toNat)
 case atStart => exact ⟨1, Nat.le_refl _, by omega, rfl, hs, B1, Blk, B0, hlo, hhi, B4, B5, risB_one T⟩
 case round =>
  clear B1 Blk B0 hlo hhi B4 B5 hs
  obtain ⟨k, k_ge, k_le, rfl, hs, B1, Blk, B0, hlo, hhi, B4, B5, HE⟩ := hrel
  replace HE := Lib.hid HE
  by_cases q3 : k < T.length
  ·have q3d : ((k : Int) < (T.length : Int)) = True := eq_true (by omega)
   go_upto_region 8 with fail
   obtain ⟨_, _, _, _, _, _, _, Ea, E6, Ec, E8, E0, E4, E2, -, -, -, Cg, Ch, Ci, -, Cs, le4⟩ := rowSR_at (HL.out.mono (C2.kept RC.kept) hs) (show k < T.length by omega)
   have SW5a := IntWalk.i64_in ((k : Int) - 1) (by omega)
   have SW5b : (0 : Int) ≤ (k : Int) - 1 := by omega
   have SW5c : ((k : Int) - 1).toNat = (k - 1) := by omega
   have SW5d : (k : Int) - 1 < (T.length : Int) := by omega
   have SW5e : (1 : Int) ≤ (k : Int) := by omega
   have SW5f : (k : Int) < (T.length : Int) + 1 := by omega
   obtain ⟨_, _, _, _, _, _, _, Eb, E7, Ed, E9, E1, E5, E3, -, -, -, Cj, Ck, Cl, -, Ct, le6⟩ := rowSR_at (HL.out.mono (C2.kept RC.kept) hs) (show (k - 1) < T.length by omega)
   obtain ⟨Dz, Da⟩ : ∃ s : Int, s = sgQ ((vaQ T k) - (vaQ T (k - 1))) := ⟨_, rfl⟩
   replace Da := Lib.hid Da
   refine U_region (S := fun w' => w'.cell? ⟨rb, ro + k * 6 + 3, none⟩ = some (.bool Ea) ∧ w'.cell? ⟨rb, ro + k * 6 + 4, none⟩ = some (.slice E6 Ec E8) ∧ w'.cell? ⟨rb, ro + k * 6 + 5, none⟩ = some (.slice E0 E4 E2) ∧ w'.cell? ⟨rb, ro + (k - 1) * 6 + 3, none⟩ = some (.bool Eb) ∧ w'.cell? ⟨rb, ro + (k - 1) * 6 + 4, none⟩ = some (.slice E7 Ed E9) ∧ w'.cell? ⟨rb, ro + (k - 1) * 6 + 5, none⟩ = some (.slice E1 E5 E3)) (by kernel_rfl) 13 ?_
   refine AnyU.abs ?_
   intro B8 hW
   have hb : Below wr.heap.size wr B8 := by rw [hW]; exact bDrew _
   replace hs := bStep hs hb
   replace B1 := B1.mono hb
   replace Blk := Blk.mono hb
   replace B0 := B0.mono hb
   replace hlo := hlo.mono hb
   replace hhi := hhi.mono hb
   replace B4 := B4.mono hb
   replace B5 := B5.mono hb
   replace Cs := Cs.mono hb
   replace Ct := Ct.mono hb
   replace Cg := cellK Cg hb
   replace Ch := cellK Ch hb
   replace Ci := cellK Ci hb
   replace Cj := cellK Cj hb
   replace Ck := cellK Ck hb
   replace Cl := cellK Cl hb
   clear hb hW
   have hH := (show B8.cell? ⟨rb, ro + k * 6 + 3, none⟩ = some (.bool Ea) ∧ B8.cell? ⟨rb, ro + k * 6 + 4, none⟩ = some (.slice E6 Ec E8) ∧ B8.cell? ⟨rb, ro + k * 6 + 5, none⟩ = some (.slice E0 E4 E2) ∧ B8.cell? ⟨rb, ro + (k - 1) * 6 + 3, none⟩ = some (.bool Eb) ∧ B8.cell? ⟨rb, ro + (k - 1) * 6 + 4, none⟩ = some (.slice E7 Ed E9) ∧ B8.cell? ⟨rb, ro + (k - 1) * 6 + 5, none⟩ = some (.slice E1 E5 E3) from ⟨Cg, Ch, Ci, Cj, Ck, Cl⟩)
   refine U_tk 0 27 ?_ ?_ hH ?_
   rotate_left
   ·(intro w Bu; (try dsimp only at Bu); go_simp; try with_reducible rfl)
   simp only [LY]
   refine U_tk 1 28 ?_ ?_ hH ?_
   rotate_left
   ·(intro w Bu; (try dsimp only at Bu); go_simp; try with_reducible rfl)
   simp only [LY]
   refine U_tk 2 29 ?_ ?_ hH ?_
   rotate_left
   ·(intro w Bu; (try dsimp only at Bu); go_simp; try with_reducible rfl)
   simp only [LY]
   refine U_tk 3 30 ?_ ?_ hH ?_
   rotate_left
   ·(intro w Bu; (try dsimp only at Bu); go_simp; try with_reducible rfl)
   simp only [LY]
   refine U_tk 4 31 ?_ ?_ hH ?_
   rotate_left
   ·(intro w Bu; (try dsimp only at Bu); go_simp; try with_reducible rfl)
   simp only [LY]
   refine U_tk 5 32 ?_ ?_ hH ?_
   rotate_left
   ·(intro w Bu; (try dsimp only at Bu); go_simp; try with_reducible rfl)
   simp only [LY]
   refine U_tk 6 33 ?_ ?_ hH ?_
   rotate_left
   ·(intro w Bu; (try dsimp only at Bu); go_simp; try with_reducible rfl)
   simp only [LY]
   refine U_tk 7 34 ?_ ?_ hH ?_
   rotate_left
   ·(intro w Bu; (try dsimp only at Bu); go_simp; try with_reducible rfl)
   simp only [LY]
   try simp only [Bool.not_true, Bool.not_false]
   refine U_tk 8 35 ?_ ?_ hH ?_
   rotate_left
   ·(intro w Bu; (try dsimp only at Bu); go_simp; try with_reducible rfl)
   simp only [LY]
   refine U_tk 9 36 ?_ ?_ hH ?_
   rotate_left
   ·(intro w Bu; (try dsimp only at Bu); go_simp; try with_reducible rfl)
   simp only [LY]
   refine U_tk 10 37 ?_ ?_ hH ?_
   rotate_left
   ·(intro w Bu; (try dsimp only at Bu); go_simp; try with_reducible rfl)
   simp only [LY]
   clear hH
   refine U_one (i := 11) (by kernel_rfl) rfl (fun K hK => ?_)
   go_simp
   (with_reducible refine (rCmp Cs Ct (SzQ.fit ((HZ.out k (by omega)).2)) (SzQ.fit ((HZ.out (k - 1) (by omega)).2))).mono ?_)
   rintro e Bv ⟨rfl, hb⟩
   replace hs := bStep hs hb
   replace B1 := B1.mono hb
   replace Blk := Blk.mono hb
   replace B0 := B0.mono hb
   replace hlo := hlo.mono hb
   replace hhi := hhi.mono hb
   replace B4 := B4.mono hb
   replace B5 := B5.mono hb
   replace Cs := Cs.mono hb
   replace Ct := Ct.mono hb
   replace Cg := cellK Cg hb
   replace Ch := cellK Ch hb
   replace Ci := cellK Ci hb
   replace Cj := cellK Cj hb
   replace Ck := cellK Ck hb
   replace Cl := cellK Cl hb
   clear hb
   rw [← Da.out]
   try go_wp2_with fail
   refine hK.out _ _ ⟨Cg, Ch, Ci, Cj, Ck, Cl⟩ (fun hH => ?_)
   clear hK K
   try simp only [LY]
   refine U_tk 12 39 ?_ ?_ hH ?_
   rotate_left
   ·(intro w Bu; (try dsimp only at Bu); go_simp; try with_reducible rfl)
   simp only [LY]
   try simp only [Bool.not_true, Bool.not_false]
   clear hH
   refine U_endN (by kernel_rfl) ?_
   clear Cg Ch Ci Cj Ck Cl
   by_cases q8 : vaQ T k < vaQ T (k - 1)
   ·have q8_ : Dz < 0 := by have h := sq_lt (vaQ T k) (vaQ T (k - 1)); rw [← Da.out] at h; exact h.2 q8
    have q8H := Lib.hid q8
    clear q8
    have q8d : decide (Dz < 0) = true := decide_eq_true q8_
    have Ca := (porQ_fall Cy.out (risB_bad (by omega) (by omega) q8H.out)).symm.trans Dw.out
    obtain ⟨C6, C8⟩ := Prod.mk.inj Ca
    obtain ⟨C7, C9⟩ := Prod.mk.inj C8
    replace C6 := Lib.hid C6
    replace C7 := Lib.hid C7
    replace C9 := Lib.hid C9
    clear Ca C8
    have Bz := B0.a0
    have C0 := B0.a1
    have C1 := B0.a2
    have C3 := B0.a3
    have C4 := B0.a4
    have C5 := B0.a5
    have Cb := B0.lt
    have Bo := Blk.a0
    have Bp := Blk.a1
    have Bq := Blk.a2
    have Br := Blk.a3
    have Bs := Blk.a4
    have Bt := Blk.a5
    have fk := Blk.free
    have Lk := Blk.lt
    go_wp2
    clear Bz C0 C1 C3 C4 C5 Bo Bp Bq Br Bs Bt fk Cb Lk le4 le6
    refine bodyPost.abs ?_
    intro B3 hW
    have hG : Gr [w.heap.size + 1] Bv B3 := by rw [hW]; exact (Gr.refl _ _).set.set.set.set.set.set
    have Cz := hs.size
    have lk := Blk.lt
    have B6 : Below w.heap.size Bv B3 := hG.below1 hs.size (by first | omega | assumption)
    have hk : KeepD Bv B3 := hG.keep ⟨⟨_, Blk.ty, by decide⟩, True.intro⟩
    have By : Bx B3 (w.heap.size + 1) 87 #[.bool Bm, .slice Bg Bk Bi, .slice Ba Be Bc, .bool Bn, .slice Bh Bl Bj, .slice Bb Bf Bd] := by rw [hW]; exact Blk.set6
    replace hs := hs.trans B6
    replace B1 := hG.bx B1 (notMem1 (by omega))
    replace B0 := hG.bx B0 (notMem1 (by omega))
    replace Blk := By
    clear By
    replace hlo := hlo.keep hk
    replace hhi := hhi.keep hk
    replace B4 := B4.keep hk
    replace B5 := B5.keep hk
    replace Cs := Cs.keep hk
    replace Ct := Ct.keep hk
    clear hW hG hk B6 Cz lk
    have Bo := Blk.a0
    have Bp := Blk.a1
    have Bq := Blk.a2
    have Br := Blk.a3
    have Bs := Blk.a4
    have Bt := Blk.a5
    exact bodyPost_ret (v := .tuple #[.agg #[.bool Bm, .slice Bg Bk Bi, .slice Ba Be Bc, .bool Bn, .slice Bh Bl Bj, .slice Bb Bf Bd], .int .i64 7]) (by simp [results, Tryz.results33, go_sem, Bo, Bp, Bq, Br, Bs, Bt]) rfl ⟨_, _, rfl, RV2.mk (B4.of_eq C6.out) (B5.of_eq C7.out), congrArg (Value.int .i64) C9.out, hs⟩
   ·have q8_ : ¬ (Dz < 0) := by have h := sq_lt (vaQ T k) (vaQ T (k - 1)); rw [← Da.out] at h; exact fun h1 => q8 (h.1 h1)
    have q8H := Lib.hid q8
    clear q8
    have q8d : decide (Dz < 0) = false := decide_eq_false q8_
    go_wp2
    go_roundw
    case rel => exact ⟨k + 1, by omega, by omega, by go_num, hs, B1, Blk, B0, hlo, hhi, B4, B5, risB_step HE.out q8H.out⟩
    all_goals first | (simp [intOf]; done) | (simp [intOf]; omega)
  ·have q3d : ((k : Int) < (T.length : Int)) = False := eq_false (by omega)
   have HRT := Lib.hid (show risB T T.length = true from (show k = T.length by omega) ▸ HE.out)
   have D0 := B1.a0
   have D1 := B1.a1
   have D2 := B1.a2
   have D3 := B1.a3
   have D4 := B1.a4
   have D5 := B1.a5
   have Di := B1.lt
   go_wp2_with fail
   clear D0 D1 D2 D3 D4 D5 Di
   with_reducible refine (r7_Value_ok _ T _ lo vl cl _ (HL.out.mono (C2.kept RC.kept) hs) hT1 HZ.out hlo slo Cy.out HAS.out Dl.out).mono ?_
   rintro e B8 ⟨_, _, rfl, h4, rfl, hb⟩
   obtain ⟨Dt, Dn, Dq, Do, Dj, Dm, Dk, rfl⟩ := h4.shape
   replace hs := bStep hs hb
   replace B1 := B1.mono hb
   replace Blk := Blk.mono hb
   replace B0 := B0.mono hb
   replace hlo := hlo.mono hb
   replace hhi := hhi.mono hb
   replace B4 := B4.mono hb
   replace B5 := B5.mono hb
   clear hb
   have D0 := B1.a0
   have D1 := B1.a1
   have D2 := B1.a2
   have D3 := B1.a3
   have D4 := B1.a4
   have D5 := B1.a5
   have Di := B1.lt
   go_wp2_with fail
   clear D0 D1 D2 D3 D4 D5 Di
   refine Calls.abs ?_
   intro Bv hW
   have hG : Gr [] B8 Bv := by rw [hW]; exact (Gr.refl _ _).alloc
   have B6 : Below w.heap.size B8 Bv := hG.below0 hs.size
   have hk : KeepD B8 Bv := hG.keep True.intro
   have sz_w27 : w.heap.size ≤ B8.heap.size := hs.size
   have Ep := B1.lt
   have nk_w27 := Blk.lt
   have Eq := B0.lt
   have B9 : Bx Bv (B8.heap.size) 38 #[.bool Dt, .slice Dn Dq Do, .slice Dj Dm Dk] := by rw [hW]; exact (Bx.new0 _ _ _)
   replace hs := hs.trans B6
   replace B1 := hG.bx B1 notMem0
   replace Blk := hG.bx Blk notMem0
   replace B0 := hG.bx B0 notMem0
   replace hlo := hlo.keep hk
   replace hhi := hhi.keep hk
   replace B4 := B4.keep hk
   replace B5 := B5.keep hk
   replace h4 := h4.keep hk
   clear hW hG hk B6
   have hz_w27 := B9.lt
   with_reducible refine (r7_Value_ok _ T _ hi vh ch _ (HL.out.mono (C2.kept RC.kept) hs) hT1 HZ.out hhi shi Cy.out HAS.out Dx.out).mono ?_
   rintro e B3 ⟨_, _, rfl, h5, rfl, hb⟩
   obtain ⟨Df, Dc, De, Dd, D8, Db, D9, rfl⟩ := h5.shape
   replace hs := bStep hs hb
   replace B1 := B1.mono hb
   replace Blk := Blk.mono hb
   replace B0 := B0.mono hb
   replace B9 := B9.mono hb
   replace hlo := hlo.mono hb
   replace hhi := hhi.mono hb
   replace B4 := B4.mono hb
   replace B5 := B5.mono hb
   replace h4 := h4.mono hb
   clear hb
   by_cases q6 : cl = 0
   ·have q6b : (cl == 0) = true := beq_iff_eq.2 (by omega)
    have q6n : (cl != 0) = false := bne_eq_false_iff_eq.2 (by omega)
    have Ds := Lib.hid q6
    clear q6
    by_cases q7 : ch = 0
    ·have q7b : (ch == 0) = true := beq_iff_eq.2 (by omega)
     have q7n : (ch != 0) = false := bne_eq_false_iff_eq.2 (by omega)
     have Dy := Lib.hid q7
     clear q7
     go_upto_region 14 with fail
     refine Code.abs ?_
     intro B2 hW
     have hG : Gr [] B3 B2 := by rw [hW]; exact (Gr.refl _ _).alloc
     have B6 : Below w.heap.size B3 B2 := hG.below0 hs.size
     have hk : KeepD B3 B2 := hG.keep True.intro
     have Du : w.heap.size ≤ B3.heap.size := hs.size
     have D6 := B1.lt
     have Dr := Blk.lt
     have D7 := B0.lt
     have Dh := B9.lt
     have Bw : Bx B2 (B3.heap.size) 38 #[.bool Df, .slice Dc De Dd, .slice D8 Db D9] := by rw [hW]; exact (Bx.new0 _ _ _)
     replace hs := hs.trans B6
     replace B1 := hG.bx B1 notMem0
     replace Blk := hG.bx Blk notMem0
     replace B0 := hG.bx B0 notMem0
     replace B9 := hG.bx B9 notMem0
     replace hlo := hlo.keep hk
     replace hhi := hhi.keep hk
     replace B4 := B4.keep hk
     replace B5 := B5.keep hk
     replace h4 := h4.keep hk
     replace h5 := h5.keep hk
     clear hW hG hk B6
     have Dp := Bw.lt
     have Ca := (porQ_ok Cy.out HRT.out Dl.out Ds.out Dx.out Dy.out).symm.trans Dw.out
     obtain ⟨C6, C8⟩ := Prod.mk.inj Ca
     obtain ⟨C7, C9⟩ := Prod.mk.inj C8
     replace C6 := Lib.hid C6
     replace C7 := Lib.hid C7
     replace C9 := Lib.hid C9
     clear Ca C8
     have Eh := B9.a0
     have Ei := B9.a1
     have Ej := B9.a2
     have Llo := B9.lt
     have Ee := Bw.a0
     have Ef := Bw.a1
     have Eg := Bw.a2
     have Lhi := Bw.lt
     have Bo := Blk.a0
     have Bp := Blk.a1
     have Bq := Blk.a2
     have Br := Blk.a3
     have Bs := Blk.a4
     have Bt := Blk.a5
     have fk := Blk.free
     have Lk := Blk.lt
     go_wp2
     clear Eh Ei Ej Ee Ef Eg Bo Bp Bq Br Bs Bt fk Llo Lhi Lk
     refine bodyPost.abs ?_
     intro B7 hW
     have hG : Gr [w.heap.size + 1] B2 B7 := by rw [hW]; exact (Gr.refl _ _).set.set.set.set.set.set
     have Cz := hs.size
     have lk := Blk.lt
     have B6 : Below w.heap.size B2 B7 := hG.below1 hs.size (by first | omega | assumption)
     have hk : KeepD B2 B7 := hG.keep ⟨⟨_, Blk.ty, by decide⟩, True.intro⟩
     have By : Bx B7 (w.heap.size + 1) 87 #[.bool Dt, .slice Dn Dq Do, .slice Dj Dm Dk, .bool Df, .slice Dc De Dd, .slice D8 Db D9] := by rw [hW]; exact Blk.set6
     replace hs := hs.trans B6
     replace B1 := hG.bx B1 (notMem1 (by omega))
     replace B0 := hG.bx B0 (notMem1 (by omega))
     replace B9 := hG.bx B9 (notMem1 (by omega))
     replace Bw := hG.bx Bw (notMem1 (by omega))
     replace Blk := By
     clear By
     replace hlo := hlo.keep hk
     replace hhi := hhi.keep hk
     replace B4 := B4.keep hk
     replace B5 := B5.keep hk
     replace h4 := h4.keep hk
     replace h5 := h5.keep hk
     clear hW hG hk B6 Cz lk
     have Bo := Blk.a0
     have Bp := Blk.a1
     have Bq := Blk.a2
     have Br := Blk.a3
     have Bs := Blk.a4
     have Bt := Blk.a5
     exact bodyPost_ret (v := .tuple #[.agg #[.bool Dt, .slice Dn Dq Do, .slice Dj Dm Dk, .bool Df, .slice Dc De Dd, .slice D8 Db D9], .int .i64 0]) (by simp [results, Tryz.results33, go_sem, Bo, Bp, Bq, Br, Bs, Bt]) rfl ⟨_, _, rfl, RV2.mk (h4.of_eq C6.out) (h5.of_eq C7.out), congrArg (Value.int .i64) C9.out, hs⟩
    ·have q7b : (ch == 0) = false := beq_eq_false_iff_ne.2 (by omega)
     have q7n : (ch != 0) = true := bne_iff_ne.2 (by omega)
     have Dy := Lib.hid q7
     clear q7
     go_upto_region 13 with fail
     refine Code.abs ?_
     intro B2 hW
     have hG : Gr [] B3 B2 := by rw [hW]; exact (Gr.refl _ _).alloc
     have B6 : Below w.heap.size B3 B2 := hG.below0 hs.size
     have hk : KeepD B3 B2 := hG.keep True.intro
     have Du : w.heap.size ≤ B3.heap.size := hs.size
     have D6 := B1.lt
     have Dr := Blk.lt
     have D7 := B0.lt
     have Dh := B9.lt
     have Bw : Bx B2 (B3.heap.size) 38 #[.bool Df, .slice Dc De Dd, .slice D8 Db D9] := by rw [hW]; exact (Bx.new0 _ _ _)
     replace hs := hs.trans B6
     replace B1 := hG.bx B1 notMem0
     replace Blk := hG.bx Blk notMem0
     replace B0 := hG.bx B0 notMem0
     replace B9 := hG.bx B9 notMem0
     replace hlo := hlo.keep hk
     replace hhi := hhi.keep hk
     replace B4 := B4.keep hk
     replace B5 := B5.keep hk
     replace h4 := h4.keep hk
     replace h5 := h5.keep hk
     clear hW hG hk B6
     have Dp := Bw.lt
     have Ca := (porQ_hi Cy.out HRT.out Dl.out Ds.out Dx.out Dy.out).symm.trans Dw.out
     have HC5 := Lib.hid (valQ_five Dx.out Dy.out)
     rw [HC5.out] at Ca
     obtain ⟨C6, C8⟩ := Prod.mk.inj Ca
     obtain ⟨C7, C9⟩ := Prod.mk.inj C8
     replace C6 := Lib.hid C6
     replace C7 := Lib.hid C7
     replace C9 := Lib.hid C9
     clear Ca C8
     have Bz := B0.a0
     have C0 := B0.a1
     have C1 := B0.a2
     have C3 := B0.a3
     have C4 := B0.a4
     have C5 := B0.a5
     have Cb := B0.lt
     have Bo := Blk.a0
     have Bp := Blk.a1
     have Bq := Blk.a2
     have Br := Blk.a3
     have Bs := Blk.a4
     have Bt := Blk.a5
     have fk := Blk.free
     have Lk := Blk.lt
     go_wp2
     clear Bz C0 C1 C3 C4 C5 Bo Bp Bq Br Bs Bt fk Cb Lk
     refine bodyPost.abs ?_
     intro B7 hW
     have hG : Gr [w.heap.size + 1] B2 B7 := by rw [hW]; exact (Gr.refl _ _).set.set.set.set.set.set
     have Cz := hs.size
     have lk := Blk.lt
     have B6 : Below w.heap.size B2 B7 := hG.below1 hs.size (by first | omega | assumption)
     have hk : KeepD B2 B7 := hG.keep ⟨⟨_, Blk.ty, by decide⟩, True.intro⟩
     have By : Bx B7 (w.heap.size + 1) 87 #[.bool Bm, .slice Bg Bk Bi, .slice Ba Be Bc, .bool Bn, .slice Bh Bl Bj, .slice Bb Bf Bd] := by rw [hW]; exact Blk.set6
     replace hs := hs.trans B6
     replace B1 := hG.bx B1 (notMem1 (by omega))
     replace B0 := hG.bx B0 (notMem1 (by omega))
     replace B9 := hG.bx B9 (notMem1 (by omega))
     replace Bw := hG.bx Bw (notMem1 (by omega))
     replace Blk := By
     clear By
     replace hlo := hlo.keep hk
     replace hhi := hhi.keep hk
     replace B4 := B4.keep hk
     replace B5 := B5.keep hk
     replace h4 := h4.keep hk
     replace h5 := h5.keep hk
     clear hW hG hk B6 Cz lk
     have Bo := Blk.a0
     have Bp := Blk.a1
     have Bq := Blk.a2
     have Br := Blk.a3
     have Bs := Blk.a4
     have Bt := Blk.a5
     exact bodyPost_ret (v := .tuple #[.agg #[.bool Bm, .slice Bg Bk Bi, .slice Ba Be Bc, .bool Bn, .slice Bh Bl Bj, .slice Bb Bf Bd], .int .i64 5]) (by simp [results, Tryz.results33, go_sem, Bo, Bp, Bq, Br, Bs, Bt]) rfl ⟨_, _, rfl, RV2.mk (B4.of_eq C6.out) (B5.of_eq C7.out), congrArg (Value.int .i64) C9.out, hs⟩
   ·have q6b : (cl == 0) = false := beq_eq_false_iff_ne.2 (by omega)
    have q6n : (cl != 0) = true := bne_iff_ne.2 (by omega)
    have Ds := Lib.hid q6
    clear q6
    go_upto_region 13 with fail
    refine Code.abs ?_
    intro B2 hW
    have hG : Gr [] B3 B2 := by rw [hW]; exact (Gr.refl _ _).alloc
    have B6 : Below w.heap.size B3 B2 := hG.below0 hs.size
    have hk : KeepD B3 B2 := hG.keep True.intro
    have Du : w.heap.size ≤ B3.heap.size := hs.size
    have D6 := B1.lt
    have Dr := Blk.lt
    have D7 := B0.lt
    have Dh := B9.lt
    have Bw : Bx B2 (B3.heap.size) 38 #[.bool Df, .slice Dc De Dd, .slice D8 Db D9] := by rw [hW]; exact (Bx.new0 _ _ _)
    replace hs := hs.trans B6
    replace B1 := hG.bx B1 notMem0
    replace Blk := hG.bx Blk notMem0
    replace B0 := hG.bx B0 notMem0
    replace B9 := hG.bx B9 notMem0
    replace hlo := hlo.keep hk
    replace hhi := hhi.keep hk
    replace B4 := B4.keep hk
    replace B5 := B5.keep hk
    replace h4 := h4.keep hk
    replace h5 := h5.keep hk
    clear hW hG hk B6
    have Dp := Bw.lt
    have Ca := (porQ_lo Cy.out HRT.out Dl.out Ds.out).symm.trans Dw.out
    have HC5 := Lib.hid (valQ_five Dl.out Ds.out)
    rw [HC5.out] at Ca
    obtain ⟨C6, C8⟩ := Prod.mk.inj Ca
    obtain ⟨C7, C9⟩ := Prod.mk.inj C8
    replace C6 := Lib.hid C6
    replace C7 := Lib.hid C7
    replace C9 := Lib.hid C9
    clear Ca C8
    have Bz := B0.a0
    have C0 := B0.a1
    have C1 := B0.a2
    have C3 := B0.a3
    have C4 := B0.a4
    have C5 := B0.a5
    have Cb := B0.lt
    have Bo := Blk.a0
    have Bp := Blk.a1
    have Bq := Blk.a2
    have Br := Blk.a3
    have Bs := Blk.a4
    have Bt := Blk.a5
    have fk := Blk.free
    have Lk := Blk.lt
    go_wp2
    clear Bz C0 C1 C3 C4 C5 Bo Bp Bq Br Bs Bt fk Cb Lk
    refine bodyPost.abs ?_
    intro B7 hW
    have hG : Gr [w.heap.size + 1] B2 B7 := by rw [hW]; exact (Gr.refl _ _).set.set.set.set.set.set
    have Cz := hs.size
    have lk := Blk.lt
    have B6 : Below w.heap.size B2 B7 := hG.below1 hs.size (by first | omega | assumption)
    have hk : KeepD B2 B7 := hG.keep ⟨⟨_, Blk.ty, by decide⟩, True.intro⟩
    have By : Bx B7 (w.heap.size + 1) 87 #[.bool Bm, .slice Bg Bk Bi, .slice Ba Be Bc, .bool Bn, .slice Bh Bl Bj, .slice Bb Bf Bd] := by rw [hW]; exact Blk.set6
    replace hs := hs.trans B6
    replace B1 := hG.bx B1 (notMem1 (by omega))
    replace B0 := hG.bx B0 (notMem1 (by omega))
    replace B9 := hG.bx B9 (notMem1 (by omega))
    replace Bw := hG.bx Bw (notMem1 (by omega))
    replace Blk := By
    clear By
    replace hlo := hlo.keep hk
    replace hhi := hhi.keep hk
    replace B4 := B4.keep hk
    replace B5 := B5.keep hk
    replace h4 := h4.keep hk
    replace h5 := h5.keep hk
    clear hW hG hk B6 Cz lk
    have Bo := Blk.a0
    have Bp := Blk.a1
    have Bq := Blk.a2
    have Br := Blk.a3
    have Bs := Blk.a4
    have Bt := Blk.a5
    exact bodyPost_ret (v := .tuple #[.agg #[.bool Bm, .slice Bg Bk Bi, .slice Ba Be Bc, .bool Bn, .slice Bh Bl Bj, .slice Bb Bf Bd], .int .i64 5]) (by simp [results, Tryz.results33, go_sem, Bo, Bp, Bq, Br, Bs, Bt]) rfl ⟨_, _, rfl, RV2.mk (B4.of_eq C6.out) (B5.of_eq C7.out), congrArg (Value.int .i64) C9.out, hs⟩
theorem r7_Porosity_bad (v : Value) (T : List Stp) (vr : Value) (lo hi : Rat) (c : Int) (w : World) (hl : Rows 6 155 (C2 RC) w v T) (hz : TabSz T) (hr : RV2 w vr lo hi) (hte : tabE T = c) (hc : ¬ c = 0) :
  Calls Tryz.prog 33 #[v, vr] w (Ret2 (fun w v => RV2 w v 0 0) (fun _ v => v = .int .i64 c) w) := by
 obtain ⟨ao, rc, rfl, hc1, hc2, hc3⟩ := hl.slice
 have hs := Below.refl w.heap.size w
 have HL := Lib.hid hl
 clear hl
 obtain ⟨Cx, Cp, Cv, Cr, Cd, Cn, Cf, Cw, Co, Cu, Cq, Cc, Cm, Ce, rfl, hlo, hhi⟩ := hr.shape
 clear hr
 have HZ := Lib.hid hz
 have Cy := Lib.hid hte
 have HN := Lib.hid hc
 clear hz hte hc
 go_enter Tryz.func33, Tryz.ntmps33
 go_wp2_with fail
 refine Calls.abs ?_
 intro w1 hW
 have hG : Gr [] w w1 := by rw [hW]; exact (Gr.refl _ _).alloc.alloc
 have B6 : Below w.heap.size w w1 := hG.below0 hs.size
 have hk : KeepD w w1 := hG.keep True.intro
 have En : w.heap.size ≤ w.heap.size := hs.size
 have B1 : Bx w1 (w.heap.size) 87 #[.bool Cx, .slice Cp Cv Cr, .slice Cd Cn Cf, .bool Cw, .slice Co Cu Cq, .slice Cc Cm Ce] := by rw [hW]; exact ((Bx.new0 _ _ _).alloc _)
 have Blk : Bx w1 (w.heap.size + 1) 87 #[.bool false, .slice none 0 0, .slice none 0 0, .bool false, .slice none 0 0, .slice none 0 0] := by rw [hW]; exact (Bx.new0 _ _ _)
 replace hs := hs.trans B6
 replace hlo := hlo.keep hk
 replace hhi := hhi.keep hk
 clear hW hG hk B6
 have Ek := Blk.lt
 with_reducible refine (r7_zero _).mono ?_
 rintro e w2 ⟨_, rfl, h1, hb⟩
 obtain ⟨sh1, ah1, nh1, ch1, Ah1, Nh1, Ch1, rfl⟩ := h1.shape
 replace hs := bStep hs hb
 replace B1 := B1.mono hb
 replace Blk := Blk.mono hb
 replace hlo := hlo.mono hb
 replace hhi := hhi.mono hb
 clear hb
 go_wp2_with fail
 with_reducible refine (r_Only_ h1).mono ?_
 rintro e w3 ⟨_, rfl, h2, hb⟩
 obtain ⟨Bm, Bg, Bk, Bi, Ba, Be, Bc, Bn, Bh, Bl, Bj, Bb, Bf, Bd, rfl, B4, B5⟩ := h2.shape
 clear h1
 replace hs := bStep hs hb
 replace B1 := B1.mono hb
 replace Blk := Blk.mono hb
 replace hlo := hlo.mono hb
 replace hhi := hhi.mono hb
 clear hb
 go_wp2_with fail
 refine Calls.abs ?_
 intro w4 hW
 have hG : Gr [] w3 w4 := by rw [hW]; exact (Gr.refl _ _).alloc
 have B6 : Below w.heap.size w3 w4 := hG.below0 hs.size
 have hk : KeepD w3 w4 := hG.keep True.intro
 have Eo : w.heap.size ≤ w3.heap.size := hs.size
 have Dv := B1.lt
 have Em := Blk.lt
 have B0 : Bx w4 (w3.heap.size) 87 #[.bool Bm, .slice Bg Bk Bi, .slice Ba Be Bc, .bool Bn, .slice Bh Bl Bj, .slice Bb Bf Bd] := by rw [hW]; exact (Bx.new0 _ _ _)
 replace hs := hs.trans B6
 replace B1 := hG.bx B1 notMem0
 replace Blk := hG.bx Blk notMem0
 replace hlo := hlo.keep hk
 replace hhi := hhi.keep hk
 replace B4 := B4.keep hk
 replace B5 := B5.keep hk
 clear hW hG hk B6
 have El := B0.lt
 with_reducible refine (r7_Table _ T _ c (HL.out.mono (C2.kept RC.kept) hs) HZ.out Cy.out).mono ?_
 rintro e w5 ⟨rfl, hb⟩
 replace hs := bStep hs hb
 replace B1 := B1.mono hb
 replace Blk := Blk.mono hb
 replace B0 := B0.mono hb
 replace hlo := hlo.mono hb
 replace hhi := hhi.mono hb
 replace B4 := B4.mono hb
 replace B5 := B5.mono hb
 clear hb
 have q3 : ¬ (c = 0) := HN.out
 have q3b : (c == 0) = false := beq_eq_false_iff_ne.2 (by omega)
 have q3n : (c != 0) = true := bne_iff_ne.2 (by omega)
 have q3H := Lib.hid q3
 clear q3
 have Bz := B0.a0
 have C0 := B0.a1
 have C1 := B0.a2
 have C3 := B0.a3
 have C4 := B0.a4
 have C5 := B0.a5
 have Cb := B0.lt
 have Bo := Blk.a0
 have Bp := Blk.a1
 have Bq := Blk.a2
 have Br := Blk.a3
 have Bs := Blk.a4
 have Bt := Blk.a5
 have fk := Blk.free
 have Lk := Blk.lt
 go_wp2
 clear Bz C0 C1 C3 C4 C5 Bo Bp Bq Br Bs Bt fk Cb Lk
 refine bodyPost.abs ?_
 intro w6 hW
 have hG : Gr [w.heap.size + 1] w5 w6 := by rw [hW]; exact (Gr.refl _ _).set.set.set.set.set.set
 have Cz := hs.size
 have lk := Blk.lt
 have B6 : Below w.heap.size w5 w6 := hG.below1 hs.size (by first | omega | assumption)
 have hk : KeepD w5 w6 := hG.keep ⟨⟨_, Blk.ty, by decide⟩, True.intro⟩
 have By : Bx w6 (w.heap.size + 1) 87 #[.bool Bm, .slice Bg Bk Bi, .slice Ba Be Bc, .bool Bn, .slice Bh Bl Bj, .slice Bb Bf Bd] := by rw [hW]; exact Blk.set6
 replace hs := hs.trans B6
 replace B1 := hG.bx B1 (notMem1 (by omega))
 replace B0 := hG.bx B0 (notMem1 (by omega))
 replace Blk := By
 clear By
 replace hlo := hlo.keep hk
 replace hhi := hhi.keep hk
 replace B4 := B4.keep hk
 replace B5 := B5.keep hk
 clear hW hG hk B6 Cz lk
 have Bo := Blk.a0
 have Bp := Blk.a1
 have Bq := Blk.a2
 have Br := Blk.a3
 have Bs := Blk.a4
 have Bt := Blk.a5
 exact bodyPost_ret (v := .tuple #[.agg #[.bool Bm, .slice Bg Bk Bi, .slice Ba Be Bc, .bool Bn, .slice Bh Bl Bj, .slice Bb Bf Bd], .int .i64 c]) (by simp [results, Tryz.results33, go_sem, Bo, Bp, Bq, Br, Bs, Bt]) rfl ⟨_, _, rfl, RV2.mk B4 B5, rfl, hs⟩
theorem r7_Porosity (v : Value) (T : List Stp) (vr : Value) (lo hi a b : Rat) (c : Int) (w : World) (hl : Rows 6 155 (C2 RC) w v T) (hz : TabSz T) (hr : RV2 w vr lo hi) (slo : SzQ 100 lo) (shi : SzQ 100 hi) (hv : porQ T lo hi = (a, b, c)) :
  Calls Tryz.prog 33 #[v, vr] w (Ret2 (fun w v => RV2 w v a b) (fun _ v => v = .int .i64 c) w) := by
 by_cases h : tabE T = 0
 ·exact r7_Porosity_ok v T vr lo hi a b c w hl (tabE_ok h).1 hz hr slo shi h hv
 ·unfold porQ at hv
  rw [if_neg h] at hv
  cases hv
  exact r7_Porosity_bad v T vr lo hi _ w hl hz hr rfl h
end Go.Proofs.YtkfekkhhfpkfaaaGreat
