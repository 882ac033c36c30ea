/-
  scan's tables: checkSteps, value, Value, Porosity.
-/
import Derived.Test.YtkfekkhhfpkfaaaGreatPkTabQ
import Derived.Test.YtkfekkhhfpkfaaaGreatPkScanQ
import Derived.Test.YtkfekkhhfpkfaaaGreatPkRangeQ
import Derived.Test.YtkfekkhhfpkfaaaGreatPkHeld3Q
set_option linter.unusedSimpArgs false
set_option linter.unusedVariables false
set_option maxRecDepth 100000
set_option maxHeartbeats 16000000
namespace Go.Proofs.YtkfekkhhfpkfaaaGreat
open Go.RowKit Dg
attribute [local go_sem ↓] Go.wp_at_zero Go.wp_at_succ
theorem tabE_ord {T : List Stp} (h1 : 1 ≤ T.length) (h2 : T.length ≤ 12) (h : ascB T T.length = false) : tabE T = 7 := by
 unfold tabE; rw [if_neg (by omega), if_neg (by omega), h]; rfl
theorem tabE_yes {T : List Stp} (h1 : 1 ≤ T.length) (h2 : T.length ≤ 12) (h : ascB T T.length = true) : tabE T = 0 := by
 unfold tabE; rw [if_neg (by omega), if_neg (by omega), h]; rfl
theorem sc_checkSteps_none (v : Value) (T : List Stp) (w : World) (hl : Rows 6 153 (C2 PC) w v T) (h0 : T.length < 1) :
  Calls Tryz.prog 83 #[v] w (RetV w (.int .i64 4)) := by
 obtain ⟨ao, rc, rfl, hc1, hc2, hc3⟩ := hl.slice
 have hs := Below.refl w.heap.size w
 have HL := Lib.hid hl
 clear hl
 go_enter Tryz.func83, Tryz.ntmps83
 have q1 : T.length < 1 := by omega
 have Dq : ((T.length : Int) < 1) = True := eq_true (by omega)
 go_wp2
 go_ret
 exact ⟨rfl, hs⟩
theorem sc_checkSteps_many (v : Value) (T : List Stp) (w : World) (hl : Rows 6 153 (C2 PC) w v T) (h0 : 12 < T.length) :
  Calls Tryz.prog 83 #[v] w (RetV w (.int .i64 4)) := by
 obtain ⟨ao, rc, rfl, hc1, hc2, hc3⟩ := hl.slice
 have hs := Below.refl w.heap.size w
 have HL := Lib.hid hl
 clear hl
 go_enter Tryz.func83, Tryz.ntmps83
 have q1 : ¬ (T.length < 1) := by omega
 have Dq : ((T.length : Int) < 1) = False := eq_false (by omega)
 have q2 : 12 < T.length := by omega
 have q2d : ((12 : Int) < (T.length : Int)) = True := eq_true (by omega)
 go_wp2
 go_ret
 exact ⟨rfl, hs⟩
theorem sc_checkSteps_main (v : Value) (T : List Stp) (c : Int) (w : World) (hl : Rows 6 153 (C2 PC) w v T) (h1 : 1 ≤ T.length) (C7 : T.length ≤ 12) (hz : TabSz T) (hc : tabE T = c) :
  Calls Tryz.prog 83 #[v] w (RetV w (.int .i64 c)) := by
 obtain ⟨rb, ro, rc, rfl, hc1, hc2, -⟩ := hl.open_ (by omega)
 have hs := Below.refl w.heap.size w
 have HL := Lib.hid hl
 clear hl
 have HZ := Lib.hid hz
 have HCC := Lib.hid hc
 clear hz hc
 go_enter Tryz.func83, Tryz.ntmps83
 have q1 : ¬ (T.length < 1) := by omega
 have Dq : ((T.length : Int) < 1) = False := eq_false (by omega)
 have q2 : ¬ (12 < T.length) := by omega
 have q2d : ((12 : Int) < (T.length : Int)) = False := eq_false (by omega)
 go_wp2
 go_loopw [3] (fun s3 wq => ∃ k : Nat, 1 ≤ k ∧ k ≤ T.length ∧ s3 = .int .i64 k ∧ Below w.heap.size w wq ∧ (ascB T k = true)) (fun s3 _ => T.length - (intOf s3).toNat)
 case atStart => exact ⟨1, Nat.le_refl _, by omega, rfl, hs, ascB_one T⟩
 case round =>
  clear hs
  obtain ⟨k, k_ge, k_le, rfl, hs, HE⟩ := hrel
  replace HE := Lib.hid HE
  by_cases q3 : k < T.length
  ·have q3d : ((k : Int) < (T.length : Int)) = True := eq_true (by omega)
   go_upto_region 6 with fail
   obtain ⟨ge4a, ae4a, ne4a, ce4a, Ae4a, Ne4a, De4a, _, _, _, _, _, _, _, Ca, Cb, Cc, -, -, -, Cv, -, le4⟩ := rowSP_at (HL.out.mono (C2.kept PC.kept) hs) (show k < T.length by omega)
   have SW5a := IntWalk.i64_in ((k : Int) - 1) (by omega)
   have SW5b : (0 : Int) ≤ (k : Int) - 1 := by omega
   have SW5c : ((k : Int) - 1).toNat = (k - 1) := by omega
   have SW5d : (k : Int) - 1 < (T.length : Int) := by omega
   have SW5e : (1 : Int) ≤ (k : Int) := by omega
   have SW5f : (k : Int) < (T.length : Int) + 1 := by omega
   obtain ⟨ge6a, ae6a, ne6a, ce6a, Ae6a, Ne6a, De6a, _, _, _, _, _, _, _, Cd, Ce, Cf, -, -, -, Cw, -, le6⟩ := rowSP_at (HL.out.mono (C2.kept PC.kept) hs) (show (k - 1) < T.length by omega)
   obtain ⟨Ds, Cn⟩ : ∃ s : Int, s = sgQ ((taQ T k) - (taQ T (k - 1))) := ⟨_, rfl⟩
   replace Cn := Lib.hid Cn
   have hb := bDrew wr
   replace hs := bStep hs hb
   replace Cv := Cv.mono hb
   replace Cw := Cw.mono hb
   replace Ca := cellK Ca hb
   replace Cb := cellK Cb hb
   replace Cc := cellK Cc hb
   replace Cd := cellK Cd hb
   replace Ce := cellK Ce hb
   replace Cf := cellK Cf hb
   clear hb
   go_region_held3 (fun w' => w'.cell? ⟨rb, ro + k * 6, none⟩ = some (.bool ge4a) ∧ w'.cell? ⟨rb, ro + k * 6 + 1, none⟩ = some (.slice ae4a ne4a ce4a) ∧ w'.cell? ⟨rb, ro + k * 6 + 2, none⟩ = some (.slice Ae4a Ne4a De4a) ∧ w'.cell? ⟨rb, ro + (k - 1) * 6, none⟩ = some (.bool ge6a) ∧ w'.cell? ⟨rb, ro + (k - 1) * 6 + 1, none⟩ = some (.slice ae6a ne6a ce6a) ∧ w'.cell? ⟨rb, ro + (k - 1) * 6 + 2, none⟩ = some (.slice Ae6a Ne6a De6a))
    (first | exact ⟨Ca, Cb, Cc, Cd, Ce, Cf⟩ | exact ⟨cellA Ca _, cellA Cb _, cellA Cc _, cellA Cd _, cellA Ce _, cellA Cf _⟩ | go_keep)
    (first
     | (go_at_call 18; (with_reducible refine (pCmp Cv Cw (SzQ.fit ((HZ.out k (by omega)).1)) (SzQ.fit ((HZ.out (k - 1) (by omega)).1))).mono ?_); rintro e w21 ⟨rfl, hb⟩; replace hs := bStep hs hb; replace Cv := Cv.mono hb; replace Cw := Cw.mono hb; replace Ca := cellK Ca hb; replace Cb := cellK Cb hb; replace Cc := cellK Cc hb; replace Cd := cellK Cd hb; replace Ce := cellK Ce hb; replace Cf := cellK Cf hb; clear hb; rw [← Cn.out]))
   clear Ca Cb Cc Cd Ce Cf
   by_cases q8 : taQ T k ≤ taQ T (k - 1)
   ·have q8_ : Ds ≤ 0 := by have h := sq_le (taQ T k) (taQ T (k - 1)); rw [← Cn.out] at h; exact h.2 q8
    have q8H := Lib.hid q8
    clear q8
    have q8d : decide (Ds ≤ 0) = true := decide_eq_true q8_
    go_wp2
    clear le4 le6
    go_ret
    exact ⟨by rw [← HCC.out, tabE_ord (by omega) (by omega) (ascB_bad (by omega) (by omega) q8H.out)]; rfl, hs⟩
   ·have q8_ : ¬ (Ds ≤ 0) := by have h := sq_le (taQ T k) (taQ T (k - 1)); rw [← Cn.out] at h; exact fun h1 => q8 (h.1 h1)
    have q8H := Lib.hid q8
    clear q8
    have q8d : decide (Ds ≤ 0) = false := decide_eq_false q8_
    go_wp2
    go_roundw
    case rel => exact ⟨k + 1, by omega, by omega, by go_num, hs, ascB_step HE.out q8H.out⟩
    all_goals first | (simp [intOf]; done) | (simp [intOf]; omega)
  ·have q3d : ((k : Int) < (T.length : Int)) = False := eq_false (by omega)
   obtain rfl : k = T.length := by omega
   go_wp2
   go_ret
   exact ⟨by rw [← HCC.out, tabE_yes (by omega) (by omega) HE.out]; rfl, hs⟩
theorem sc_checkSteps (v : Value) (T : List Stp) (w : World) (c : Int) (hl : Rows 6 153 (C2 PC) w v T) (hz : TabSz T) (hc : tabE T = c) : Calls Tryz.prog 83 #[v] w (RetV w (.int .i64 c)) := by
 by_cases h1 : T.length < 1
 ·unfold tabE at hc; rw [if_pos h1] at hc; subst hc; exact sc_checkSteps_none v T w hl h1
 ·by_cases h2 : 12 < T.length
  ·unfold tabE at hc; rw [if_neg h1, if_pos h2] at hc; subst hc; exact sc_checkSteps_many v T w hl h2
  ·exact sc_checkSteps_main v T c w hl (by omega) (by omega) hz hc
theorem all_lt {T : List Stp} {x : Rat} {k : Nat} (h : ∀ j, j < k → taQ T j < x) (h1 : ¬ x = taQ T k) (h2 : ¬ x < taQ T k) : ∀ j, j < k + 1 → taQ T j < x := fun j hj => by
 by_cases e : j = k
 ·subst e; grind
 ·exact h j (by omega)
theorem ne_between {T : List Stp} {x : Rat} {k : Nat} (h : taQ T (k - 1) < x) (h1 : x < taQ T k) : taQ T k - taQ T (k - 1) ≠ 0 := by grind
theorem sc_value (v : Value) (T : List Stp) (vx : Value) (x q : Rat) (c : Int) (w : World) (hl : Rows 6 153 (C2 PC) w v T) (h1 : 1 ≤ T.length) (hz : TabSz T) (hx : PV w vx x) (sx : SzQ 100 x) (hv : valQ T x = (q, c)) :
  Calls Tryz.prog 84 #[v, vx] w (Ret2 (fun w v => PV w v q) (fun _ v => v = .int .i64 c) w) := by
 obtain ⟨rb, ro, rc, rfl, hc1, hc2, -⟩ := hl.open_ (by omega)
 have hs := Below.refl w.heap.size w
 have HL := Lib.hid hl
 clear hl
 obtain ⟨D0, Cr, Cz, Ct, Ck, Cp, Cl, rfl⟩ := hx.shape
 have HZ := Lib.hid hz
 have Cg := Lib.hid hv
 clear hz hv
 go_enter Tryz.func84, Tryz.ntmps84
 go_wp2
 refine Code.abs ?_
 intro w1 hW
 have hG : Gr [] w w1 := by rw [hW]; exact (Gr.refl _ _).alloc.alloc
 have Bp : Below w.heap.size w w1 := hG.below0 hs.size
 have hk : KeepD w w1 := hG.keep True.intro
 have sz_w1 : w.heap.size ≤ w.heap.size := hs.size
 have B0 : Bx w1 (w.heap.size) 32 #[.bool D0, .slice Cr Cz Ct, .slice Ck Cp Cl] := by rw [hW]; exact ((Bx.new0 _ _ _).alloc _)
 have Blk : Bx w1 (w.heap.size + 1) 32 #[.bool false, .slice none 0 0, .slice none 0 0] := by rw [hW]; exact (Bx.new0 _ _ _)
 replace hs := hs.trans Bp
 replace hx := hx.keep hk
 clear hW hG hk Bp
 have hz_w1 := Blk.lt
 go_loopw [12] (fun s12 wq => ∃ k : Nat, k ≤ T.length ∧ s12 = .int .i64 k ∧ Below w.heap.size w wq ∧ Bx wq (w.heap.size) 32 #[.bool D0, .slice Cr Cz Ct, .slice Ck Cp Cl] ∧ Bx wq (w.heap.size + 1) 32 #[.bool false, .slice none 0 0, .slice none 0 0] ∧ PV wq (.agg #[.bool D0, .slice Cr Cz Ct, .slice Ck Cp Cl]) (x) ∧ (∀ j, j < k → taQ T j < x)) (fun s12 _ => T.length - (intOf s12).toNat)
 case atStart => exact ⟨0, Nat.zero_le _, rfl, hs, B0, Blk, hx, fun j hj => absurd hj (Nat.not_lt_zero j)⟩
 case round =>
  clear B0 Blk hx hs
  obtain ⟨k, k_le, rfl, hs, B0, Blk, hx, HE⟩ := hrel
  replace HE := Lib.hid HE
  by_cases q1 : k < T.length
  ·have Dq : ((k : Int) < (T.length : Int)) = True := eq_true (by omega)
   obtain ⟨Cu, Cq, Cy, Cs, Cj, Co, Cm, C6, C4, C8, C5, C0, C3, C1, Dt, Du, Dv, Dw, Dx, Dy, B6, B7, le2⟩ := rowSP_at (HL.out.mono (C2.kept PC.kept) hs) (show k < T.length by omega)
   have B2 := B0.a0
   have B3 := B0.a1
   have B4 := B0.a2
   have Lat := B0.lt
   go_wp2_with fail
   clear B2 B3 B4 Lat le2 Dt Du Dv Dw Dx Dy
   refine Calls.abs ?_
   intro Bw hW
   have hG : Gr [] wr Bw := by rw [hW]; exact (Gr.refl _ _).alloc
   have Bp : Below w.heap.size wr Bw := hG.below0 hs.size
   have hk : KeepD wr Bw := hG.keep True.intro
   have sz_w22 : w.heap.size ≤ wr.heap.size := hs.size
   have E5 := B0.lt
   have nk_w22 := Blk.lt
   have B5 : Bx Bw (wr.heap.size) 153 #[.bool Cu, .slice Cq Cy Cs, .slice Cj Co Cm, .bool C6, .slice C4 C8 C5, .slice C0 C3 C1] := by rw [hW]; exact (Bx.new0 _ _ _)
   replace hs := hs.trans Bp
   replace B0 := hG.bx B0 notMem0
   replace Blk := hG.bx Blk notMem0
   replace hx := hx.keep hk
   replace B6 := B6.keep hk
   replace B7 := B7.keep hk
   clear hW hG hk Bp
   have hz_w22 := B5.lt
   with_reducible refine (pCmp hx B6 (SzQ.fit sx) (SzQ.fit ((HZ.out k (by omega)).1))).mono ?_
   rintro e B1 ⟨rfl, hb⟩
   replace hs := bStep hs hb
   replace B0 := B0.mono hb
   replace Blk := Blk.mono hb
   replace B5 := B5.mono hb
   replace hx := hx.mono hb
   replace B6 := B6.mono hb
   replace B7 := B7.mono hb
   clear hb
   obtain ⟨Bv, By⟩ : ∃ s : Int, s = sgQ (x - (taQ T k)) := ⟨_, rfl⟩
   rw [← By]
   replace By := Lib.hid By
   by_cases q4 : x = taQ T k
   ·have D2 : Bv = 0 := by have h := sq_eq x (taQ T k); rw [← By.out] at h; exact h.2 q4
    have Dr := Lib.hid q4
    clear q4
    have q4b : (Bv == 0) = true := by rw [D2]; rfl
    have q4n : (Bv != 0) = false := by rw [D2]; rfl
    clear D2
    have B8 := B5.a0
    have B9 := B5.a1
    have Ba := B5.a2
    have Bb := B5.a3
    have Bc := B5.a4
    have Bd := B5.a5
    have Ls := B5.lt
    have Bq := Blk.a0
    have Br := Blk.a1
    have Bs := Blk.a2
    have fk := Blk.free
    have Lk := Blk.lt
    go_wp2
    clear B8 B9 Ba Bb Bc Bd Bq Br Bs fk Ls Lk
    refine bodyPost.abs ?_
    intro w24 hW
    have hG : Gr [w.heap.size + 1] B1 w24 := by rw [hW]; exact (Gr.refl _ _).set.set.set
    have Cx := hs.size
    have lk := Blk.lt
    have Bp : Below w.heap.size B1 w24 := hG.below1 hs.size (by first | omega | assumption)
    have hk : KeepD B1 w24 := hG.keep ⟨⟨_, Blk.ty, by decide⟩, True.intro⟩
    have Bt : Bx w24 (w.heap.size + 1) 32 #[.bool C6, .slice C4 C8 C5, .slice C0 C3 C1] := by rw [hW]; exact Blk.set3
    replace hs := hs.trans Bp
    replace B0 := hG.bx B0 (notMem1 (by omega))
    replace B5 := hG.bx B5 (notMem1 (by omega))
    replace Blk := Bt
    clear Bt
    replace hx := hx.keep hk
    replace B6 := B6.keep hk
    replace B7 := B7.keep hk
    clear hW hG hk Bp Cx lk
    have Bq := Blk.a0
    have Br := Blk.a1
    have Bs := Blk.a2
    exact bodyPost_ret (v := .tuple #[.agg #[.bool C6, .slice C4 C8 C5, .slice C0 C3 C1], .int .i64 0]) (by simp [results, Tryz.results84, go_sem, Bq, Br, Bs]) rfl ⟨_, _, rfl, B7.of_eq (Prod.mk.inj ((valQ_eq (by omega) HE.out Dr.out).symm.trans Cg.out)).1, congrArg (Value.int .i64) (Prod.mk.inj ((valQ_eq (by omega) HE.out Dr.out).symm.trans Cg.out)).2, hs⟩
   ·have D2 : ¬ (Bv = 0) := by have h := sq_eq x (taQ T k); rw [← By.out] at h; exact fun h1 => q4 (h.1 h1)
    have Dr := Lib.hid q4
    clear q4
    have q4b : (Bv == 0) = false := by simpa using D2
    have q4n : (Bv != 0) = true := by simpa using D2
    by_cases q5 : x < taQ T k
    ·have q5_ : Bv < 0 := by have h := sq_lt x (taQ T k); rw [← By.out] at h; exact h.2 q5
     have C9 := Lib.hid q5
     clear q5
     have q5d : decide (Bv < 0) = true := decide_eq_true q5_
     by_cases q6 : k = 0
     ·have q6b : ((k : Int) == 0) = true := beq_iff_eq.2 (by omega)
      have q6n : ((k : Int) != 0) = false := bne_eq_false_iff_eq.2 (by omega)
      obtain rfl : k = 0 := by omega
      have Bq := Blk.a0
      have Br := Blk.a1
      have Bs := Blk.a2
      have fk := Blk.free
      have Lk := Blk.lt
      go_wp2
      clear Bq Br Bs fk Lk
      refine bodyPost.abs ?_
      intro w24 hW
      have hG : Gr [w.heap.size + 1] B1 w24 := by rw [hW]; exact (Gr.refl _ _).set.set.set
      have Cx := hs.size
      have lk := Blk.lt
      have Bp : Below w.heap.size B1 w24 := hG.below1 hs.size (by first | omega | assumption)
      have hk : KeepD B1 w24 := hG.keep ⟨⟨_, Blk.ty, by decide⟩, True.intro⟩
      have Bt : Bx w24 (w.heap.size + 1) 32 #[.bool false, .slice none 0 0, .slice none 0 0] := by rw [hW]; exact Blk.set3
      replace hs := hs.trans Bp
      replace B0 := hG.bx B0 (notMem1 (by omega))
      replace B5 := hG.bx B5 (notMem1 (by omega))
      replace Blk := Bt
      clear Bt
      replace hx := hx.keep hk
      replace B6 := B6.keep hk
      replace B7 := B7.keep hk
      clear hW hG hk Bp Cx lk
      have Bq := Blk.a0
      have Br := Blk.a1
      have Bs := Blk.a2
      exact bodyPost_ret (v := .tuple #[.agg #[.bool false, .slice none 0 0, .slice none 0 0], .int .i64 5]) (by simp [results, Tryz.results84, go_sem, Bq, Br, Bs]) rfl ⟨_, _, rfl, (PV.zero _).of_eq (Prod.mk.inj ((valQ_first (by omega) C9.out).symm.trans Cg.out)).1, congrArg (Value.int .i64) (Prod.mk.inj ((valQ_first (by omega) C9.out).symm.trans Cg.out)).2, hs⟩
     ·have q6b : ((k : Int) == 0) = false := beq_eq_false_iff_ne.2 (by omega)
      have q6n : ((k : Int) != 0) = true := bne_iff_ne.2 (by omega)
      have q7 : x < taQ T k := C9.out
      have q7_ : Bv < 0 := by have h := sq_lt x (taQ T k); rw [← By.out] at h; exact h.2 q7
      have q7H := Lib.hid q7
      clear q7
      have q7d : decide (Bv < 0) = true := decide_eq_true q7_
      have SW8a := IntWalk.i64_in ((k : Int) - 1) (by omega)
      have SW8b : (0 : Int) ≤ (k : Int) - 1 := by omega
      have SW8c : ((k : Int) - 1).toNat = (k - 1) := by omega
      have SW8d : (k : Int) - 1 < (T.length : Int) := by omega
      have SW8e : (1 : Int) ≤ (k : Int) := by omega
      have SW8f : (k : Int) < (T.length : Int) + 1 := by omega
      obtain ⟨Dj, Dc, Dl, Df, D3, D9, D7, Dk, Dd, Dm, Dh, D4, Da, D8, Dz, E0, E1, E2, E3, E4, Bl, Bm, le9⟩ := rowSP_at (HL.out.mono (C2.kept PC.kept) hs) (show (k - 1) < T.length by omega)
      go_upto_region 11 with fail
      clear le9 Dz E0 E1 E2 E3 E4
      refine Code.abs ?_
      intro w24 hW
      have hG : Gr [] B1 w24 := by rw [hW]; exact (Gr.refl _ _).alloc
      have Bp : Below w.heap.size B1 w24 := hG.below0 hs.size
      have hk : KeepD B1 w24 := hG.keep True.intro
      have sz_w24 : w.heap.size ≤ B1.heap.size := hs.size
      have E6 := B0.lt
      have nk_w24 := Blk.lt
      have ns_w24 := B5.lt
      have Bo : Bx w24 (B1.heap.size) 153 #[.bool Dj, .slice Dc Dl Df, .slice D3 D9 D7, .bool Dk, .slice Dd Dm Dh, .slice D4 Da D8] := by rw [hW]; exact (Bx.new0 _ _ _)
      replace hs := hs.trans Bp
      replace B0 := hG.bx B0 notMem0
      replace Blk := hG.bx Blk notMem0
      replace B5 := hG.bx B5 notMem0
      replace hx := hx.keep hk
      replace B6 := B6.keep hk
      replace B7 := B7.keep hk
      replace Bl := Bl.keep hk
      replace Bm := Bm.keep hk
      clear hW hG hk Bp
      have hz_w24 := Bo.lt
      refine U_region (S := fun w' => w'.cell? ⟨B1.heap.size, 0, none⟩ = some (.bool Dj) ∧ w'.cell? ⟨B1.heap.size, 1, none⟩ = some (.slice Dc Dl Df) ∧ w'.cell? ⟨B1.heap.size, 2, none⟩ = some (.slice D3 D9 D7) ∧ w'.cell? ⟨B1.heap.size, 3, none⟩ = some (.bool Dk) ∧ w'.cell? ⟨B1.heap.size, 4, none⟩ = some (.slice Dd Dm Dh) ∧ w'.cell? ⟨B1.heap.size, 5, none⟩ = some (.slice D4 Da D8) ∧ w'.cell? ⟨wr.heap.size, 0, none⟩ = some (.bool Cu) ∧ w'.cell? ⟨wr.heap.size, 1, none⟩ = some (.slice Cq Cy Cs) ∧ w'.cell? ⟨wr.heap.size, 2, none⟩ = some (.slice Cj Co Cm) ∧ w'.cell? ⟨wr.heap.size, 3, none⟩ = some (.bool C6) ∧ w'.cell? ⟨wr.heap.size, 4, none⟩ = some (.slice C4 C8 C5) ∧ w'.cell? ⟨wr.heap.size, 5, none⟩ = some (.slice C0 C3 C1) ∧ w'.cell? ⟨w.heap.size, 0, none⟩ = some (.bool D0) ∧ w'.cell? ⟨w.heap.size, 1, none⟩ = some (.slice Cr Cz Ct) ∧ w'.cell? ⟨w.heap.size, 2, none⟩ = some (.slice Ck Cp Cl)) (by kernel_rfl) 20 ?_
      refine AnyU.abs ?_
      intro Bk hW
      have hb : Below w24.heap.size w24 Bk := by rw [hW]; exact bDrew _
      replace hs := bStep hs hb
      replace B0 := B0.mono hb
      replace Blk := Blk.mono hb
      replace B5 := B5.mono hb
      replace Bo := Bo.mono hb
      replace hx := hx.mono hb
      replace B6 := B6.mono hb
      replace B7 := B7.mono hb
      replace Bl := Bl.mono hb
      replace Bm := Bm.mono hb
      clear hb hW
      have Be := Bo.a0
      have Bf := Bo.a1
      have Bg := Bo.a2
      have Bh := Bo.a3
      have Bi := Bo.a4
      have Bj := Bo.a5
      have B8 := B5.a0
      have B9 := B5.a1
      have Ba := B5.a2
      have Bb := B5.a3
      have Bc := B5.a4
      have Bd := B5.a5
      have B2 := B0.a0
      have B3 := B0.a1
      have B4 := B0.a2
      have hH := (show Bk.cell? ⟨B1.heap.size, 0, none⟩ = some (.bool Dj) ∧ Bk.cell? ⟨B1.heap.size, 1, none⟩ = some (.slice Dc Dl Df) ∧ Bk.cell? ⟨B1.heap.size, 2, none⟩ = some (.slice D3 D9 D7) ∧ Bk.cell? ⟨B1.heap.size, 3, none⟩ = some (.bool Dk) ∧ Bk.cell? ⟨B1.heap.size, 4, none⟩ = some (.slice Dd Dm Dh) ∧ Bk.cell? ⟨B1.heap.size, 5, none⟩ = some (.slice D4 Da D8) ∧ Bk.cell? ⟨wr.heap.size, 0, none⟩ = some (.bool Cu) ∧ Bk.cell? ⟨wr.heap.size, 1, none⟩ = some (.slice Cq Cy Cs) ∧ Bk.cell? ⟨wr.heap.size, 2, none⟩ = some (.slice Cj Co Cm) ∧ Bk.cell? ⟨wr.heap.size, 3, none⟩ = some (.bool C6) ∧ Bk.cell? ⟨wr.heap.size, 4, none⟩ = some (.slice C4 C8 C5) ∧ Bk.cell? ⟨wr.heap.size, 5, none⟩ = some (.slice C0 C3 C1) ∧ Bk.cell? ⟨w.heap.size, 0, none⟩ = some (.bool D0) ∧ Bk.cell? ⟨w.heap.size, 1, none⟩ = some (.slice Cr Cz Ct) ∧ Bk.cell? ⟨w.heap.size, 2, none⟩ = some (.slice Ck Cp Cl) from ⟨Be, Bf, Bg, Bh, Bi, Bj, B8, B9, Ba, Bb, Bc, Bd, B2, B3, B4⟩)
      refine U_tt 0 ?_ ?_ hH ?_
      rotate_left
      ·(intro w Bn; (try dsimp only at Bn); go_simp; try with_reducible rfl)
      try simp only [LY]
      refine U_tt 1 ?_ ?_ hH ?_
      rotate_left
      ·(intro w Bn; (try dsimp only at Bn); go_simp; try with_reducible rfl)
      try simp only [LY]
      refine U_tt 2 ?_ ?_ hH ?_
      rotate_left
      ·(intro w Bn; (try dsimp only at Bn); go_simp; try with_reducible rfl)
      try simp only [LY]
      refine U_tt 3 ?_ ?_ hH ?_
      rotate_left
      ·(intro w Bn; (try dsimp only at Bn); go_simp; try with_reducible rfl)
      try simp only [LY]
      refine U_tt 4 ?_ ?_ hH ?_
      rotate_left
      ·(intro w Bn; (try dsimp only at Bn); go_simp; try with_reducible rfl)
      try simp only [LY]
      refine U_tt 5 ?_ ?_ hH ?_
      rotate_left
      ·(intro w Bn; (try dsimp only at Bn); go_simp; try with_reducible rfl)
      try simp only [LY]
      refine U_tt 7 ?_ ?_ hH ?_
      rotate_left
      ·(intro w Bn; (try dsimp only at Bn); go_simp; try with_reducible rfl)
      try simp only [LY]
      refine U_tt 8 ?_ ?_ hH ?_
      rotate_left
      ·(intro w Bn; (try dsimp only at Bn); go_simp; try with_reducible rfl)
      try simp only [LY]
      refine U_tt 9 ?_ ?_ hH ?_
      rotate_left
      ·(intro w Bn; (try dsimp only at Bn); go_simp; try with_reducible rfl)
      try simp only [LY]
      refine U_tt 12 ?_ ?_ hH ?_
      rotate_left
      ·(intro w Bn; (try dsimp only at Bn); go_simp; try with_reducible rfl)
      try simp only [LY]
      refine U_tt 13 ?_ ?_ hH ?_
      rotate_left
      ·(intro w Bn; (try dsimp only at Bn); go_simp; try with_reducible rfl)
      try simp only [LY]
      refine U_tt 14 ?_ ?_ hH ?_
      rotate_left
      ·(intro w Bn; (try dsimp only at Bn); go_simp; try with_reducible rfl)
      try simp only [LY]
      refine U_tt 15 ?_ ?_ hH ?_
      rotate_left
      ·(intro w Bn; (try dsimp only at Bn); go_simp; try with_reducible rfl)
      try simp only [LY]
      clear hH
      refine U_one (i := 6) (by kernel_rfl) rfl (fun K hK => ?_)
      go_simp
      (with_reducible refine (pSub B7 Bm (SzQ.fit ((HZ.out k (by omega)).2)) (SzQ.fit ((HZ.out (k - 1) (by omega)).2))).mono ?_)
      rintro e w26 ⟨_, rfl, Bu, hb⟩
      obtain ⟨sh10, ah10, nh10, ch10, Ah10, Nh10, Ch10, rfl⟩ := Bu.shape
      replace hs := bStep hs hb
      replace B0 := B0.mono hb
      replace Blk := Blk.mono hb
      replace B5 := B5.mono hb
      replace Bo := Bo.mono hb
      replace hx := hx.mono hb
      replace B6 := B6.mono hb
      replace B7 := B7.mono hb
      replace Bl := Bl.mono hb
      replace Bm := Bm.mono hb
      replace Be := cellK Be hb
      replace Bf := cellK Bf hb
      replace Bg := cellK Bg hb
      replace Bh := cellK Bh hb
      replace Bi := cellK Bi hb
      replace Bj := cellK Bj hb
      replace B8 := cellK B8 hb
      replace B9 := cellK B9 hb
      replace Ba := cellK Ba hb
      replace Bb := cellK Bb hb
      replace Bc := cellK Bc hb
      replace Bd := cellK Bd hb
      replace B2 := cellK B2 hb
      replace B3 := cellK B3 hb
      replace B4 := cellK B4 hb
      clear hb
      try go_wp2_with fail
      refine hK.out _ _ ⟨Be, Bf, Bg, Bh, Bi, Bj, B8, B9, Ba, Bb, Bc, Bd, B2, B3, B4⟩ (fun hH => ?_)
      clear hK K
      try simp only [LY]
      clear hH
      refine U_one (i := 10) (by kernel_rfl) rfl (fun K hK => ?_)
      go_simp
      (with_reducible refine (pSub hx Bl (SzQ.fit sx) (SzQ.fit ((HZ.out (k - 1) (by omega)).1))).mono ?_)
      rintro e w27 ⟨_, rfl, Bz, hb⟩
      obtain ⟨sh11, ah11, nh11, ch11, Ah11, Nh11, Ch11, rfl⟩ := Bz.shape
      replace hs := bStep hs hb
      replace B0 := B0.mono hb
      replace Blk := Blk.mono hb
      replace B5 := B5.mono hb
      replace Bo := Bo.mono hb
      replace hx := hx.mono hb
      replace B6 := B6.mono hb
      replace B7 := B7.mono hb
      replace Bl := Bl.mono hb
      replace Bm := Bm.mono hb
      replace Bu := Bu.mono hb
      replace Be := cellK Be hb
      replace Bf := cellK Bf hb
      replace Bg := cellK Bg hb
      replace Bh := cellK Bh hb
      replace Bi := cellK Bi hb
      replace Bj := cellK Bj hb
      replace B8 := cellK B8 hb
      replace B9 := cellK B9 hb
      replace Ba := cellK Ba hb
      replace Bb := cellK Bb hb
      replace Bc := cellK Bc hb
      replace Bd := cellK Bd hb
      replace B2 := cellK B2 hb
      replace B3 := cellK B3 hb
      replace B4 := cellK B4 hb
      clear hb
      try go_wp2_with fail
      refine hK.out _ _ ⟨Be, Bf, Bg, Bh, Bi, Bj, B8, B9, Ba, Bb, Bc, Bd, B2, B3, B4⟩ (fun hH => ?_)
      clear hK K
      try simp only [LY]
      clear hH
      refine U_one (i := 11) (by kernel_rfl) rfl (fun K hK => ?_)
      go_simp
      (with_reducible refine (pMul Bu Bz (SzQ.fit (SzQ.sub ((HZ.out k (by omega)).2) ((HZ.out (k - 1) (by omega)).2))) (SzQ.fit (SzQ.sub sx ((HZ.out (k - 1) (by omega)).1)))).mono ?_)
      rintro e w28 ⟨_, rfl, C7, hb⟩
      obtain ⟨sh12, ah12, nh12, ch12, Ah12, Nh12, Ch12, rfl⟩ := C7.shape
      replace hs := bStep hs hb
      replace B0 := B0.mono hb
      replace Blk := Blk.mono hb
      replace B5 := B5.mono hb
      replace Bo := Bo.mono hb
      replace hx := hx.mono hb
      replace B6 := B6.mono hb
      replace B7 := B7.mono hb
      replace Bl := Bl.mono hb
      replace Bm := Bm.mono hb
      replace Bu := Bu.mono hb
      replace Bz := Bz.mono hb
      replace Be := cellK Be hb
      replace Bf := cellK Bf hb
      replace Bg := cellK Bg hb
      replace Bh := cellK Bh hb
      replace Bi := cellK Bi hb
      replace Bj := cellK Bj hb
      replace B8 := cellK B8 hb
      replace B9 := cellK B9 hb
      replace Ba := cellK Ba hb
      replace Bb := cellK Bb hb
      replace Bc := cellK Bc hb
      replace Bd := cellK Bd hb
      replace B2 := cellK B2 hb
      replace B3 := cellK B3 hb
      replace B4 := cellK B4 hb
      clear hb
      try go_wp2_with fail
      refine hK.out _ _ ⟨Be, Bf, Bg, Bh, Bi, Bj, B8, B9, Ba, Bb, Bc, Bd, B2, B3, B4⟩ (fun hH => ?_)
      clear hK K
      try simp only [LY]
      clear hH
      refine U_one (i := 16) (by kernel_rfl) rfl (fun K hK => ?_)
      go_simp
      (with_reducible refine (pSub B6 Bl (SzQ.fit ((HZ.out k (by omega)).1)) (SzQ.fit ((HZ.out (k - 1) (by omega)).1))).mono ?_)
      rintro e w29 ⟨_, rfl, Ch, hb⟩
      obtain ⟨sh13, ah13, nh13, ch13, Ah13, Nh13, Ch13, rfl⟩ := Ch.shape
      replace hs := bStep hs hb
      replace B0 := B0.mono hb
      replace Blk := Blk.mono hb
      replace B5 := B5.mono hb
      replace Bo := Bo.mono hb
      replace hx := hx.mono hb
      replace B6 := B6.mono hb
      replace B7 := B7.mono hb
      replace Bl := Bl.mono hb
      replace Bm := Bm.mono hb
      replace Bu := Bu.mono hb
      replace Bz := Bz.mono hb
      replace C7 := C7.mono hb
      replace Be := cellK Be hb
      replace Bf := cellK Bf hb
      replace Bg := cellK Bg hb
      replace Bh := cellK Bh hb
      replace Bi := cellK Bi hb
      replace Bj := cellK Bj hb
      replace B8 := cellK B8 hb
      replace B9 := cellK B9 hb
      replace Ba := cellK Ba hb
      replace Bb := cellK Bb hb
      replace Bc := cellK Bc hb
      replace Bd := cellK Bd hb
      replace B2 := cellK B2 hb
      replace B3 := cellK B3 hb
      replace B4 := cellK B4 hb
      clear hb
      try go_wp2_with fail
      refine hK.out _ _ ⟨Be, Bf, Bg, Bh, Bi, Bj, B8, B9, Ba, Bb, Bc, Bd, B2, B3, B4⟩ (fun hH => ?_)
      clear hK K
      try simp only [LY]
      clear hH
      refine U_one (i := 17) (by kernel_rfl) rfl (fun K hK => ?_)
      go_simp
      (with_reducible refine (sc_over _ _ _ _ _ C7 Ch (SzQ.fit (SzQ.mul (SzQ.sub ((HZ.out k (by omega)).2) ((HZ.out (k - 1) (by omega)).2)) (SzQ.sub sx ((HZ.out (k - 1) (by omega)).1)))) (SzQ.fit (SzQ.sub ((HZ.out k (by omega)).1) ((HZ.out (k - 1) (by omega)).1))) (ne_between (HE.out (k - 1) (by omega)) C9.out)).mono ?_)
      rintro e w30 ⟨_, rfl, D1, hb⟩
      obtain ⟨sh14, ah14, nh14, ch14, Ah14, Nh14, Ch14, rfl⟩ := D1.shape
      replace hs := bStep hs hb
      replace B0 := B0.mono hb
      replace Blk := Blk.mono hb
      replace B5 := B5.mono hb
      replace Bo := Bo.mono hb
      replace hx := hx.mono hb
      replace B6 := B6.mono hb
      replace B7 := B7.mono hb
      replace Bl := Bl.mono hb
      replace Bm := Bm.mono hb
      replace Bu := Bu.mono hb
      replace Bz := Bz.mono hb
      replace C7 := C7.mono hb
      replace Ch := Ch.mono hb
      replace Be := cellK Be hb
      replace Bf := cellK Bf hb
      replace Bg := cellK Bg hb
      replace Bh := cellK Bh hb
      replace Bi := cellK Bi hb
      replace Bj := cellK Bj hb
      replace B8 := cellK B8 hb
      replace B9 := cellK B9 hb
      replace Ba := cellK Ba hb
      replace Bb := cellK Bb hb
      replace Bc := cellK Bc hb
      replace Bd := cellK Bd hb
      replace B2 := cellK B2 hb
      replace B3 := cellK B3 hb
      replace B4 := cellK B4 hb
      clear hb
      try go_wp2_with fail
      refine hK.out _ _ ⟨Be, Bf, Bg, Bh, Bi, Bj, B8, B9, Ba, Bb, Bc, Bd, B2, B3, B4⟩ (fun hH => ?_)
      clear hK K
      try simp only [LY]
      clear hH
      refine U_one (i := 18) (by kernel_rfl) rfl (fun K hK => ?_)
      go_simp
      (with_reducible refine (pAdd Bm D1 (SzQ.fit ((HZ.out (k - 1) (by omega)).2)) (SzQ.fit (SzQ.div (SzQ.mul (SzQ.sub ((HZ.out k (by omega)).2) ((HZ.out (k - 1) (by omega)).2)) (SzQ.sub sx ((HZ.out (k - 1) (by omega)).1))) (SzQ.sub ((HZ.out k (by omega)).1) ((HZ.out (k - 1) (by omega)).1)) (ne_between (HE.out (k - 1) (by omega)) C9.out)))).mono ?_)
      rintro e Ci ⟨_, rfl, Dp, hb⟩
      obtain ⟨Do, De, Dn, Di, D5, Db, D6, rfl⟩ := Dp.shape
      replace hs := bStep hs hb
      replace B0 := B0.mono hb
      replace Blk := Blk.mono hb
      replace B5 := B5.mono hb
      replace Bo := Bo.mono hb
      replace hx := hx.mono hb
      replace B6 := B6.mono hb
      replace B7 := B7.mono hb
      replace Bl := Bl.mono hb
      replace Bm := Bm.mono hb
      replace Bu := Bu.mono hb
      replace Bz := Bz.mono hb
      replace C7 := C7.mono hb
      replace Ch := Ch.mono hb
      replace D1 := D1.mono hb
      replace Be := cellK Be hb
      replace Bf := cellK Bf hb
      replace Bg := cellK Bg hb
      replace Bh := cellK Bh hb
      replace Bi := cellK Bi hb
      replace Bj := cellK Bj hb
      replace B8 := cellK B8 hb
      replace B9 := cellK B9 hb
      replace Ba := cellK Ba hb
      replace Bb := cellK Bb hb
      replace Bc := cellK Bc hb
      replace Bd := cellK Bd hb
      replace B2 := cellK B2 hb
      replace B3 := cellK B3 hb
      replace B4 := cellK B4 hb
      clear hb
      try go_wp2_with fail
      refine hK.out _ _ ⟨Be, Bf, Bg, Bh, Bi, Bj, B8, B9, Ba, Bb, Bc, Bd, B2, B3, B4⟩ (fun hH => ?_)
      clear hK K
      try simp only [LY]
      clear hH
      have Bq := Blk.a0
      have Br := Blk.a1
      have Bs := Blk.a2
      have fk := Blk.free
      have Lk := Blk.lt
      refine U_one (i := 19) (by kernel_rfl) rfl (fun K hK => ?_)
      go_simp
      generalize hW_ : (((Ci.setCell ⟨w.heap.size + 1, 0, none⟩ (.bool Do)).setCell ⟨w.heap.size + 1, 1, none⟩ (.slice De Dn Di)).setCell ⟨w.heap.size + 1, 2, none⟩ (.slice D5 Db D6)) = w32
      have hW := hW_.symm
      clear hW_
      have hG : Gr [w.heap.size + 1] Ci w32 := by rw [hW]; exact (Gr.refl _ _).set.set.set
      have Cx := hs.size
      have lk := Blk.lt
      have Bp : Below w.heap.size Ci w32 := hG.below1 hs.size (by first | omega | assumption)
      have hk : KeepD Ci w32 := hG.keep ⟨⟨_, Blk.ty, by decide⟩, True.intro⟩
      have Bt : Bx w32 (w.heap.size + 1) 32 #[.bool Do, .slice De Dn Di, .slice D5 Db D6] := by rw [hW]; exact Blk.set3
      replace hs := hs.trans Bp
      replace B0 := hG.bx B0 (notMem1 (by omega))
      replace B5 := hG.bx B5 (notMem1 (by omega))
      replace Bo := hG.bx Bo (notMem1 (by omega))
      replace Blk := Bt
      clear Bt
      replace hx := hx.keep hk
      replace B6 := B6.keep hk
      replace B7 := B7.keep hk
      replace Bl := Bl.keep hk
      replace Bm := Bm.keep hk
      replace Bu := Bu.keep hk
      replace Bz := Bz.keep hk
      replace C7 := C7.keep hk
      replace Ch := Ch.keep hk
      replace D1 := D1.keep hk
      replace Dp := Dp.keep hk
      replace Be := hG.cell Be (notMem1 (by dsimp only; omega))
      replace Bf := hG.cell Bf (notMem1 (by dsimp only; omega))
      replace Bg := hG.cell Bg (notMem1 (by dsimp only; omega))
      replace Bh := hG.cell Bh (notMem1 (by dsimp only; omega))
      replace Bi := hG.cell Bi (notMem1 (by dsimp only; omega))
      replace Bj := hG.cell Bj (notMem1 (by dsimp only; omega))
      replace B8 := hG.cell B8 (notMem1 (by dsimp only; omega))
      replace B9 := hG.cell B9 (notMem1 (by dsimp only; omega))
      replace Ba := hG.cell Ba (notMem1 (by dsimp only; omega))
      replace Bb := hG.cell Bb (notMem1 (by dsimp only; omega))
      replace Bc := hG.cell Bc (notMem1 (by dsimp only; omega))
      replace Bd := hG.cell Bd (notMem1 (by dsimp only; omega))
      replace B2 := hG.cell B2 (notMem1 (by dsimp only; omega))
      replace B3 := hG.cell B3 (notMem1 (by dsimp only; omega))
      replace B4 := hG.cell B4 (notMem1 (by dsimp only; omega))
      clear hW hG hk Bp Cx lk
      refine hK.out _ _ ⟨Be, Bf, Bg, Bh, Bi, Bj, B8, B9, Ba, Bb, Bc, Bd, B2, B3, B4⟩ (fun hH => ?_)
      clear hK K
      try simp only [LY]
      clear hH
      refine U_last (by kernel_rfl) rfl (by kernel_rfl) (fun K hK => ?_)
      go_simp
      refine hK.out _ _ ?_
      clear hK K
      intro wl hW
      rw [hW]
      clear hW wl
      try simp only [LY]
      clear Be Bf Bg Bh Bi Bj B8 B9 Ba Bb Bc Bd B2 B3 B4
      go_wp2
      have Bq := Blk.a0
      have Br := Blk.a1
      have Bs := Blk.a2
      exact bodyPost_ret (v := .tuple #[.agg #[.bool Do, .slice De Dn Di, .slice D5 Db D6], .int .i64 0]) (by simp [results, Tryz.results84, go_sem, Bq, Br, Bs]) rfl ⟨_, _, rfl, Dp.of_eq (Prod.mk.inj ((valQ_itp (by omega) HE.out C9.out (by omega)).symm.trans Cg.out)).1, congrArg (Value.int .i64) (Prod.mk.inj ((valQ_itp (by omega) HE.out C9.out (by omega)).symm.trans Cg.out)).2, hs⟩
    ·have q5_ : ¬ (Bv < 0) := by have h := sq_lt x (taQ T k); rw [← By.out] at h; exact fun h1 => q5 (h.1 h1)
     have C9 := Lib.hid q5
     clear q5
     have q5d : decide (Bv < 0) = false := decide_eq_false q5_
     have q6 : ¬ (x < taQ T k) := C9.out
     have q6_ : ¬ (Bv < 0) := by have h := sq_lt x (taQ T k); rw [← By.out] at h; exact fun h1 => q6 (h.1 h1)
     have q6H := Lib.hid q6
     clear q6
     have q6d : decide (Bv < 0) = false := decide_eq_false q6_
     go_wp2
     go_roundw
     case rel => exact ⟨k + 1, by omega, by go_num, hs, B0, Blk, hx, all_lt HE.out Dr.out C9.out⟩
     all_goals first | (simp [intOf]; done) | (simp [intOf]; omega)
  ·have Dq : ((k : Int) < (T.length : Int)) = False := eq_false (by omega)
   obtain rfl : k = T.length := by omega
   have Bq := Blk.a0
   have Br := Blk.a1
   have Bs := Blk.a2
   have fk := Blk.free
   have Lk := Blk.lt
   go_wp2
   clear Bq Br Bs fk Lk
   refine bodyPost.abs ?_
   intro Bw hW
   have hG : Gr [w.heap.size + 1] wr Bw := by rw [hW]; exact (Gr.refl _ _).set.set.set
   have Cx := hs.size
   have lk := Blk.lt
   have Bp : Below w.heap.size wr Bw := hG.below1 hs.size (by first | omega | assumption)
   have hk : KeepD wr Bw := hG.keep ⟨⟨_, Blk.ty, by decide⟩, True.intro⟩
   have Bt : Bx Bw (w.heap.size + 1) 32 #[.bool false, .slice none 0 0, .slice none 0 0] := by rw [hW]; exact Blk.set3
   replace hs := hs.trans Bp
   replace B0 := hG.bx B0 (notMem1 (by omega))
   replace Blk := Bt
   clear Bt
   replace hx := hx.keep hk
   clear hW hG hk Bp Cx lk
   have Bq := Blk.a0
   have Br := Blk.a1
   have Bs := Blk.a2
   exact bodyPost_ret (v := .tuple #[.agg #[.bool false, .slice none 0 0, .slice none 0 0], .int .i64 5]) (by simp [results, Tryz.results84, go_sem, Bq, Br, Bs]) rfl ⟨_, _, rfl, (PV.zero _).of_eq (Prod.mk.inj ((valQ_last HE.out).symm.trans Cg.out)).1, congrArg (Value.int .i64) (Prod.mk.inj ((valQ_last HE.out).symm.trans Cg.out)).2, hs⟩
end Go.Proofs.YtkfekkhhfpkfaaaGreat
