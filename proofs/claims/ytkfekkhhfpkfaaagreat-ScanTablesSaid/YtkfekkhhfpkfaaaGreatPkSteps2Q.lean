/-
  Law 07: the closure 'step' of ScanBetween: a number of a range, by a part of 255.
-/
import Derived.Test.YtkfekkhhfpkfaaaGreatPkRangeQ
import Derived.Test.YtkfekkhhfpkfaaaGreatPkTabQ
import Derived.Test.YtkfekkhhfpkfaaaGreatPkHeldQ
import Derived.Test.YtkfekkhhfpkfaaaGreatStepsQ
set_option linter.unusedSimpArgs false
set_option linter.unusedVariables false
set_option maxRecDepth 100000
set_option maxHeartbeats 16000000
namespace Go.Proofs.YtkfekkhhfpkfaaaGreat
open Go.RowKit Dg
attribute [local go_sem ↓] Go.wp_at_zero Go.wp_at_succ
end Go.Proofs.YtkfekkhhfpkfaaaGreat
namespace Go.Proofs.YtkfekkhhfpkfaaaGreat
open Go.RowKit Dg
attribute [local go_sem ↓] Go.wp_at_zero Go.wp_at_succ
def fullV (T : List Stp) (x : Rat) : Rat × Int := if tabE T = 0 then valQ T x else (0, tabE T)
theorem sc_Value_ok (v : Value) (T : List Stp) (vx : Value) (x q : Rat) (c : Int) (w : World) (hl : Rows 6 153 (C2 PC) w v T) (hz : TabSz T) (hx : PV w vx x) (sx : SzQ 100 x) (h1 : 1 ≤ T.length) (hte : tabE T = 0) (hv : valQ T x = (q, c)) :
  Calls Tryz.prog 25 #[v, vx] w (Ret2 (fun w v => PV w v q) (fun _ v => v = .int .i64 c) w) := by
 obtain ⟨rb, ro, rc, rfl, hc1, hc2, -⟩ := hl.open_ (by omega)
 have hs := Below.refl w.heap.size w
 have HL := Lib.hid hl
 clear hl
 obtain ⟨Do, Dk, Dm, Dl, Dd, Dj, De, rfl⟩ := hx.shape
 have HZ := Lib.hid hz
 have Bl := Lib.hid hte
 have HVQ := Lib.hid hv
 clear hz hv hte
 go_enter Tryz.func25, Tryz.ntmps25
 go_wp2_with fail
 refine Calls.abs ?_
 intro w1 hW
 have hG : Gr [] w w1 := by rw [hW]; exact (Gr.refl _ _).alloc.alloc
 have B1 : Below w.heap.size w w1 := hG.below0 hs.size
 have hk : KeepD w w1 := hG.keep True.intro
 have Cv : w.heap.size ≤ w.heap.size := hs.size
 have Be : Bx w1 (w.heap.size) 32 #[.bool Do, .slice Dk Dm Dl, .slice Dd Dj De] := by rw [hW]; exact ((Bx.new0 _ _ _).alloc _)
 have Blk : Bx w1 (w.heap.size + 1) 32 #[.bool false, .slice none 0 0, .slice none 0 0] := by rw [hW]; exact (Bx.new0 _ _ _)
 replace hs := hs.trans B1
 replace hx := hx.keep hk
 clear hW hG hk B1
 have Cu := Blk.lt
 with_reducible refine (sc_checkSteps _ T _ _ (HL.out.mono (C2.kept PC.kept) hs) HZ.out Bl.out).mono ?_
 rintro e w2 ⟨rfl, hb⟩
 replace hs := bStep hs hb
 replace Be := Be.mono hb
 replace Blk := Blk.mono hb
 replace hx := hx.mono hb
 clear hb
 have Dw := Be.a0
 have Dx := Be.a1
 have Dy := Be.a2
 have Lat := Be.lt
 go_wp2_with fail
 clear Dw Dx Dy Lat
 with_reducible refine (sc_value _ T _ x q _ _ (HL.out.mono (C2.kept PC.kept) hs) h1 HZ.out hx sx HVQ.out).mono ?_
 rintro e w3 ⟨_, _, rfl, h1, rfl, hb⟩
 obtain ⟨sh1, ah1, nh1, ch1, Ah1, Nh1, Ch1, rfl⟩ := h1.shape
 replace hs := bStep hs hb
 replace Be := Be.mono hb
 replace Blk := Blk.mono hb
 replace hx := hx.mono hb
 clear hb
 have B2 := Blk.a0
 have B3 := Blk.a1
 have B4 := Blk.a2
 have fk := Blk.free
 have Lk := Blk.lt
 go_wp2
 clear B2 B3 B4 fk Lk
 refine bodyPost.abs ?_
 intro w4 hW
 have hG : Gr [w.heap.size + 1] w3 w4 := by rw [hW]; exact (Gr.refl _ _).set.set.set
 have Bk := hs.size
 have lk := Blk.lt
 have B1 : Below w.heap.size w3 w4 := hG.below1 hs.size (by first | omega | assumption)
 have hk : KeepD w3 w4 := hG.keep ⟨⟨_, Blk.ty, by decide⟩, True.intro⟩
 have B7 : Bx w4 (w.heap.size + 1) 32 #[.bool sh1, .slice ah1 nh1 ch1, .slice Ah1 Nh1 Ch1] := by rw [hW]; exact Blk.set3
 replace hs := hs.trans B1
 replace Be := hG.bx Be (notMem1 (by omega))
 replace Blk := B7
 clear B7
 replace hx := hx.keep hk
 replace h1 := h1.keep hk
 clear hW hG hk B1 Bk lk
 have B2 := Blk.a0
 have B3 := Blk.a1
 have B4 := Blk.a2
 exact bodyPost_ret (v := .tuple #[.agg #[.bool sh1, .slice ah1 nh1 ch1, .slice Ah1 Nh1 Ch1], .int .i64 c]) (by simp [results, Tryz.results25, go_sem, B2, B3, B4]) rfl ⟨_, _, rfl, h1, rfl, hs⟩
theorem sc_Value_bad (v : Value) (T : List Stp) (vx : Value) (x : Rat) (c : Int) (w : World) (hl : Rows 6 153 (C2 PC) w v T) (hz : TabSz T) (hx : PV w vx x) (sx : SzQ 100 x) (hte : tabE T = c) (hc : ¬ c = 0) :
  Calls Tryz.prog 25 #[v, vx] w (Ret2 (fun w v => PV w v 0) (fun _ v => v = .int .i64 c) w) := by
 obtain ⟨ao, rc, rfl, hc1, hc2, hc3⟩ := hl.slice
 have hs := Below.refl w.heap.size w
 have HL := Lib.hid hl
 clear hl
 obtain ⟨Do, Dk, Dm, Dl, Dd, Dj, De, rfl⟩ := hx.shape
 have HZ := Lib.hid hz
 have Bl := Lib.hid hte
 have HN := Lib.hid hc
 clear hz hte hc
 go_enter Tryz.func25, Tryz.ntmps25
 go_wp2_with fail
 refine Calls.abs ?_
 intro w1 hW
 have hG : Gr [] w w1 := by rw [hW]; exact (Gr.refl _ _).alloc.alloc
 have B1 : Below w.heap.size w w1 := hG.below0 hs.size
 have hk : KeepD w w1 := hG.keep True.intro
 have Cv : w.heap.size ≤ w.heap.size := hs.size
 have Be : Bx w1 (w.heap.size) 32 #[.bool Do, .slice Dk Dm Dl, .slice Dd Dj De] := by rw [hW]; exact ((Bx.new0 _ _ _).alloc _)
 have Blk : Bx w1 (w.heap.size + 1) 32 #[.bool false, .slice none 0 0, .slice none 0 0] := by rw [hW]; exact (Bx.new0 _ _ _)
 replace hs := hs.trans B1
 replace hx := hx.keep hk
 clear hW hG hk B1
 have Cu := Blk.lt
 with_reducible refine (sc_checkSteps _ T _ c (HL.out.mono (C2.kept PC.kept) hs) HZ.out Bl.out).mono ?_
 rintro e w2 ⟨rfl, hb⟩
 replace hs := bStep hs hb
 replace Be := Be.mono hb
 replace Blk := Blk.mono hb
 replace hx := hx.mono hb
 clear hb
 have q1 : ¬ (c = 0) := HN.out
 have q1b : (c == 0) = false := by simp; omega
 have q1n : (c != 0) = true := by simp; omega
 have B2 := Blk.a0
 have B3 := Blk.a1
 have B4 := Blk.a2
 have fk := Blk.free
 have Lk := Blk.lt
 go_wp2
 clear B2 B3 B4 fk Lk
 refine bodyPost.abs ?_
 intro w3 hW
 have hG : Gr [w.heap.size + 1] w2 w3 := by rw [hW]; exact (Gr.refl _ _).set.set.set
 have Bk := hs.size
 have lk := Blk.lt
 have B1 : Below w.heap.size w2 w3 := hG.below1 hs.size (by first | omega | assumption)
 have hk : KeepD w2 w3 := hG.keep ⟨⟨_, Blk.ty, by decide⟩, True.intro⟩
 have B7 : Bx w3 (w.heap.size + 1) 32 #[.bool false, .slice none 0 0, .slice none 0 0] := by rw [hW]; exact Blk.set3
 replace hs := hs.trans B1
 replace Be := hG.bx Be (notMem1 (by omega))
 replace Blk := B7
 clear B7
 replace hx := hx.keep hk
 clear hW hG hk B1 Bk lk
 have B2 := Blk.a0
 have B3 := Blk.a1
 have B4 := Blk.a2
 exact bodyPost_ret (v := .tuple #[.agg #[.bool false, .slice none 0 0, .slice none 0 0], .int .i64 c]) (by simp [results, Tryz.results25, go_sem, B2, B3, B4]) rfl ⟨_, _, rfl, (PV.zero _), rfl, hs⟩
theorem sc_Value (v : Value) (T : List Stp) (vx : Value) (x q : Rat) (c : Int) (w : World) (hl : Rows 6 153 (C2 PC) w v T) (hz : TabSz T) (hx : PV w vx x) (sx : SzQ 100 x) (hv : fullV T x = (q, c)) :
  Calls Tryz.prog 25 #[v, vx] w (Ret2 (fun w v => PV w v q) (fun _ v => v = .int .i64 c) w) := by
 unfold fullV at hv
 by_cases h : tabE T = 0
 ·rw [if_pos h] at hv
  exact sc_Value_ok v T vx x q c w hl hz hx sx (tabE_ok h).1 h hv
 ·rw [if_neg h] at hv
  cases hv
  exact sc_Value_bad v T vx x _ w hl hz hx sx rfl h
def porQ (T : List Stp) (lo hi : Rat) : Rat × Rat × Int :=
 if tabE T = 0 then (if risB T T.length = false then (0, 0, 7) else if (valQ T lo).2 = 0 then (if (valQ T hi).2 = 0 then ((valQ T lo).1, (valQ T hi).1, 0) else (0, 0, 5)) else (0, 0, 5)) else (0, 0, tabE T)
theorem porQ_fall {T : List Stp} {lo hi : Rat} (h : tabE T = 0) (h1 : risB T T.length = false) : porQ T lo hi = (0, 0, 7) := by unfold porQ; rw [if_pos h, if_pos h1]
theorem porQ_lo {T : List Stp} {lo hi q : Rat} {c : Int} (h : tabE T = 0) (h1 : risB T T.length = true) (h2 : valQ T lo = (q, c)) (h3 : ¬ c = 0) : porQ T lo hi = (0, 0, c) := by
 have h4 : (0, 5) = (q, c) := by
  rcases valQ_err T lo with e | e
  ·rw [h2] at e; exact absurd e h3
  ·rw [← e, h2]
 cases h4
 unfold porQ; rw [if_pos h, if_neg (by rw [h1]; simp), h2, if_neg h3]
theorem porQ_hi {T : List Stp} {lo hi q r : Rat} {c d : Int} (h : tabE T = 0) (h1 : risB T T.length = true) (h2 : valQ T lo = (q, c)) (h3 : c = 0) (h4 : valQ T hi = (r, d)) (h5 : ¬ d = 0) : porQ T lo hi = (0, 0, d) := by
 have h6 : (0, 5) = (r, d) := by
  rcases valQ_err T hi with e | e
  ·rw [h4] at e; exact absurd e h5
  ·rw [← e, h4]
 cases h6
 unfold porQ; rw [if_pos h, if_neg (by rw [h1]; simp), h2, if_pos h3, h4, if_neg h5]
theorem porQ_ok {T : List Stp} {lo hi q r : Rat} {c d : Int} (h : tabE T = 0) (h1 : risB T T.length = true) (h2 : valQ T lo = (q, c)) (h3 : c = 0) (h4 : valQ T hi = (r, d)) (h5 : d = 0) : porQ T lo hi = (q, r, 0) := by
 unfold porQ; rw [if_pos h, if_neg (by rw [h1]; simp), h2, if_pos h3, h4, if_pos h5]
theorem por_le {T : List Stp} {lo hi q r : Rat} {c d : Int} (h : tabE T = 0) (h1 : risB T T.length = true) (h2 : valQ T lo = (q, c)) (h3 : c = 0) (h4 : valQ T hi = (r, d)) (h5 : d = 0) (hle : lo ≤ hi) : q ≤ r := by
 have := valQ_mono (ascB_asc _ (tabE_ok h).2.2) (risB_ris _ h1) (by rw [h2]; exact h3) (by rw [h4]; exact h5) hle
 rwa [h2, h4] at this
theorem sc_Porosity_ok (v : Value) (T : List Stp) (vr : Value) (lo hi a b : Rat) (c : Int) (w : World) (hl : Rows 6 153 (C2 PC) w v T) (hz : TabSz T) (hr : PV2 w vr lo hi) (slo : SzQ 100 lo) (shi : SzQ 100 hi) (hle : lo ≤ hi) (hte : tabE T = 0) (hv : porQ T lo hi = (a, b, c)) (h1 : 1 ≤ T.length) :
  Calls Tryz.prog 32 #[v, vr] w (Ret2 (fun w v => PV2 w v a b) (fun _ v => v = .int .i64 c) w) := by
 obtain ⟨rb, ro, rc, rfl, hc1, hc2, -⟩ := hl.open_ (by omega)
 have hs := Below.refl w.heap.size w
 have HL := Lib.hid hl
 clear hl
 obtain ⟨Cj, Cb, Ch, Cd, Br, C9, Bt, Ci, Ca, Cg, Cc, Bq, C8, Bs, rfl, hlo, hhi⟩ := hr.shape
 clear hr
 have HZ := Lib.hid hz
 have Bl := Lib.hid hte
 obtain ⟨vl, cl, hvl⟩ : ∃ q c, valQ T lo = (q, c) := ⟨_, _, rfl⟩
 obtain ⟨vh, ch, hvh⟩ : ∃ q c, valQ T hi = (q, c) := ⟨_, _, rfl⟩
 have svl : SzQ 400 vl := by have := valQ_sz hz slo; rwa [hvl] at this
 have svh : SzQ 400 vh := by have := valQ_sz hz shi; rwa [hvh] at this
 have Cw := Lib.hid hvl
 have Di := Lib.hid hvh
 have HLE := Lib.hid hle
 have Df := Lib.hid hv
 clear hz hv hte hvl hvh hle
 go_enter Tryz.func32, Tryz.ntmps32
 go_wp2_with fail
 refine Calls.abs ?_
 intro w1 hW
 have hG : Gr [] w w1 := by rw [hW]; exact (Gr.refl _ _).alloc.alloc
 have B1 : Below w.heap.size w w1 := hG.below0 hs.size
 have hk : KeepD w w1 := hG.keep True.intro
 have Cv : w.heap.size ≤ w.heap.size := hs.size
 have B0 : Bx w1 (w.heap.size) 85 #[.bool Cj, .slice Cb Ch Cd, .slice Br C9 Bt, .bool Ci, .slice Ca Cg Cc, .slice Bq C8 Bs] := by rw [hW]; exact ((Bx.new0 _ _ _).alloc _)
 have Blk : Bx w1 (w.heap.size + 1) 85 #[.bool false, .slice none 0 0, .slice none 0 0, .bool false, .slice none 0 0, .slice none 0 0] := by rw [hW]; exact (Bx.new0 _ _ _)
 replace hs := hs.trans B1
 replace hlo := hlo.keep hk
 replace hhi := hhi.keep hk
 clear hW hG hk B1
 have Cu := Blk.lt
 with_reducible refine (sc_checkSteps _ T _ _ (HL.out.mono (C2.kept PC.kept) hs) HZ.out Bl.out).mono ?_
 rintro e w2 ⟨rfl, hb⟩
 replace hs := bStep hs hb
 replace B0 := B0.mono hb
 replace Blk := Blk.mono hb
 replace hlo := hlo.mono hb
 replace hhi := hhi.mono hb
 clear hb
 go_wp2
 go_loopw [7] (fun s7 wq => ∃ k : Nat, 1 ≤ k ∧ k ≤ T.length ∧ s7 = .int .i64 k ∧ Below w.heap.size w wq ∧ Bx wq (w.heap.size) 85 #[.bool Cj, .slice Cb Ch Cd, .slice Br C9 Bt, .bool Ci, .slice Ca Cg Cc, .slice Bq C8 Bs] ∧ Bx wq (w.heap.size + 1) 85 #[.bool false, .slice none 0 0, .slice none 0 0, .bool false, .slice none 0 0, .slice none 0 0] ∧ PV wq (.agg #[.bool Cj, .slice Cb Ch Cd, .slice Br C9 Bt]) (lo) ∧ PV wq (.agg #[.bool Ci, .slice Ca Cg Cc, .slice Bq C8 Bs]) (hi) ∧ (risB T k = true)) (fun s7 _ => T.length - (intOf s7).toNat)
 case atStart => exact ⟨1, Nat.le_refl _, by omega, rfl, hs, B0, Blk, hlo, hhi, risB_one T⟩
 case round =>
  clear B0 Blk hlo hhi hs
  obtain ⟨k, k_ge, k_le, rfl, hs, B0, Blk, hlo, hhi, HE⟩ := hrel
  replace HE := Lib.hid HE
  by_cases q1 : k < T.length
  ·have q1d : ((k : Int) < (T.length : Int)) = True := eq_true (by omega)
   go_upto_region 7 with fail
   obtain ⟨ge2a, ae2a, ne2a, ce2a, Ae2a, Ne2a, De2a, ge2b, ae2b, ne2b, ce2b, Ae2b, Ne2b, De2b, Bu, Bv, Bw, By, Bz, C0, Cq, Ce, le2⟩ := rowSP_at (HL.out.mono (C2.kept PC.kept) hs) (show k < T.length by omega)
   have SW3a := IntWalk.i64_in ((k : Int) - 1) (by omega)
   have SW3b : (0 : Int) ≤ (k : Int) - 1 := by omega
   have SW3c : ((k : Int) - 1).toNat = (k - 1) := by omega
   have SW3d : (k : Int) - 1 < (T.length : Int) := by omega
   have SW3e : (1 : Int) ≤ (k : Int) := by omega
   have SW3f : (k : Int) < (T.length : Int) + 1 := by omega
   obtain ⟨ge4a, ae4a, ne4a, ce4a, Ae4a, Ne4a, De4a, ge4b, ae4b, ne4b, ce4b, Ae4b, Ne4b, De4b, C1, C3, C4, C5, C6, C7, Cr, Cf, le4⟩ := rowSP_at (HL.out.mono (C2.kept PC.kept) hs) (show (k - 1) < T.length by omega)
   obtain ⟨Dn, Cs⟩ : ∃ s : Int, s = sgQ ((vaQ T k) - (vaQ T (k - 1))) := ⟨_, rfl⟩
   replace Cs := Lib.hid Cs
   have hb := bDrew wr
   replace hs := bStep hs hb
   replace B0 := B0.mono hb
   replace Blk := Blk.mono hb
   replace hlo := hlo.mono hb
   replace hhi := hhi.mono hb
   replace Cq := Cq.mono hb
   replace Ce := Ce.mono hb
   replace Cr := Cr.mono hb
   replace Cf := Cf.mono hb
   replace Bu := cellK Bu hb
   replace Bv := cellK Bv hb
   replace Bw := cellK Bw hb
   replace By := cellK By hb
   replace Bz := cellK Bz hb
   replace C0 := cellK C0 hb
   replace C1 := cellK C1 hb
   replace C3 := cellK C3 hb
   replace C4 := cellK C4 hb
   replace C5 := cellK C5 hb
   replace C6 := cellK C6 hb
   replace C7 := cellK C7 hb
   clear hb
   go_region_held3 (fun w' => w'.cell? ⟨rb, ro + k * 6, none⟩ = some (.bool ge2a) ∧ w'.cell? ⟨rb, ro + k * 6 + 1, none⟩ = some (.slice ae2a ne2a ce2a) ∧ w'.cell? ⟨rb, ro + k * 6 + 2, none⟩ = some (.slice Ae2a Ne2a De2a) ∧ w'.cell? ⟨rb, ro + k * 6 + 3, none⟩ = some (.bool ge2b) ∧ w'.cell? ⟨rb, ro + k * 6 + 4, none⟩ = some (.slice ae2b ne2b ce2b) ∧ w'.cell? ⟨rb, ro + k * 6 + 5, none⟩ = some (.slice Ae2b Ne2b De2b) ∧ w'.cell? ⟨rb, ro + (k - 1) * 6, none⟩ = some (.bool ge4a) ∧ w'.cell? ⟨rb, ro + (k - 1) * 6 + 1, none⟩ = some (.slice ae4a ne4a ce4a) ∧ w'.cell? ⟨rb, ro + (k - 1) * 6 + 2, none⟩ = some (.slice Ae4a Ne4a De4a) ∧ w'.cell? ⟨rb, ro + (k - 1) * 6 + 3, none⟩ = some (.bool ge4b) ∧ w'.cell? ⟨rb, ro + (k - 1) * 6 + 4, none⟩ = some (.slice ae4b ne4b ce4b) ∧ w'.cell? ⟨rb, ro + (k - 1) * 6 + 5, none⟩ = some (.slice Ae4b Ne4b De4b))
    (first | exact ⟨Bu, Bv, Bw, By, Bz, C0, C1, C3, C4, C5, C6, C7⟩ | exact ⟨cellA Bu _, cellA Bv _, cellA Bw _, cellA By _, cellA Bz _, cellA C0 _, cellA C1 _, cellA C3 _, cellA C4 _, cellA C5 _, cellA C6 _, cellA C7 _⟩ | go_keep)
    (first
     | (go_at_call 18; (with_reducible refine (pCmp Ce Cf (SzQ.fit ((HZ.out k (by omega)).2)) (SzQ.fit ((HZ.out (k - 1) (by omega)).2))).mono ?_); rintro e Bn ⟨rfl, hb⟩; replace hs := bStep hs hb; replace B0 := B0.mono hb; replace Blk := Blk.mono hb; replace hlo := hlo.mono hb; replace hhi := hhi.mono hb; replace Cq := Cq.mono hb; replace Ce := Ce.mono hb; replace Cr := Cr.mono hb; replace Cf := Cf.mono hb; replace Bu := cellK Bu hb; replace Bv := cellK Bv hb; replace Bw := cellK Bw hb; replace By := cellK By hb; replace Bz := cellK Bz hb; replace C0 := cellK C0 hb; replace C1 := cellK C1 hb; replace C3 := cellK C3 hb; replace C4 := cellK C4 hb; replace C5 := cellK C5 hb; replace C6 := cellK C6 hb; replace C7 := cellK C7 hb; clear hb; rw [← Cs.out]))
   clear Bu Bv Bw By Bz C0 C1 C3 C4 C5 C6 C7
   by_cases q6 : vaQ T k < vaQ T (k - 1)
   ·have q6_ : Dn < 0 := by have h := sq_lt (vaQ T k) (vaQ T (k - 1)); rw [← Cs.out] at h; exact h.2 q6
    have q6H := Lib.hid q6
    clear q6
    have q6d : decide (Dn < 0) = true := decide_eq_true q6_
    have Bm := (porQ_fall Bl.out (risB_bad (by omega) (by omega) q6H.out)).symm.trans Df.out
    obtain ⟨Bg, Bi⟩ := Prod.mk.inj Bm
    obtain ⟨Bh, Bj⟩ := Prod.mk.inj Bi
    replace Bg := Lib.hid Bg
    replace Bh := Lib.hid Bh
    replace Bj := Lib.hid Bj
    clear Bm Bi
    have B2 := Blk.a0
    have B3 := Blk.a1
    have B4 := Blk.a2
    have B8 := Blk.a3
    have B9 := Blk.a4
    have Ba := Blk.a5
    have fk := Blk.free
    have Lk := Blk.lt
    go_wp2
    clear B2 B3 B4 B8 B9 Ba fk Lk le2 le4
    refine bodyPost.abs ?_
    intro w24 hW
    have hG : Gr [w.heap.size + 1] Bn w24 := by rw [hW]; exact (Gr.refl _ _).set.set.set.set.set.set
    have Bk := hs.size
    have lk := Blk.lt
    have B1 : Below w.heap.size Bn w24 := hG.below1 hs.size (by first | omega | assumption)
    have hk : KeepD Bn w24 := hG.keep ⟨⟨_, Blk.ty, by decide⟩, True.intro⟩
    have B7 : Bx w24 (w.heap.size + 1) 85 #[.bool false, .slice none 0 0, .slice none 0 0, .bool false, .slice none 0 0, .slice none 0 0] := by rw [hW]; exact Blk.set6
    replace hs := hs.trans B1
    replace B0 := hG.bx B0 (notMem1 (by omega))
    replace Blk := B7
    clear B7
    replace hlo := hlo.keep hk
    replace hhi := hhi.keep hk
    replace Cq := Cq.keep hk
    replace Ce := Ce.keep hk
    replace Cr := Cr.keep hk
    replace Cf := Cf.keep hk
    clear hW hG hk B1 Bk lk
    have B2 := Blk.a0
    have B3 := Blk.a1
    have B4 := Blk.a2
    have B8 := Blk.a3
    have B9 := Blk.a4
    have Ba := Blk.a5
    exact bodyPost_ret (v := .tuple #[.agg #[.bool false, .slice none 0 0, .slice none 0 0, .bool false, .slice none 0 0, .slice none 0 0], .int .i64 7]) (by simp [results, Tryz.results32, go_sem, B2, B3, B4, B8, B9, Ba]) rfl ⟨_, _, rfl, PV2.mk ((PV.zero _).of_eq Bg.out) ((PV.zero _).of_eq Bh.out), congrArg (Value.int .i64) Bj.out, hs⟩
   ·have q6_ : ¬ (Dn < 0) := by have h := sq_lt (vaQ T k) (vaQ T (k - 1)); rw [← Cs.out] at h; exact fun h1 => q6 (h.1 h1)
    have q6H := Lib.hid q6
    clear q6
    have q6d : decide (Dn < 0) = false := decide_eq_false q6_
    go_wp2
    go_roundw
    case rel => exact ⟨k + 1, by omega, by omega, by go_num, hs, B0, Blk, hlo, hhi, risB_step HE.out q6H.out⟩
    all_goals first | (simp [intOf]; done) | (simp [intOf]; omega)
  ·have q1d : ((k : Int) < (T.length : Int)) = False := eq_false (by omega)
   have Dh := Lib.hid (show risB T T.length = true from (show k = T.length by omega) ▸ HE.out)
   have Ck := B0.a0
   have Cl := B0.a1
   have Cm := B0.a2
   have Cn := B0.a3
   have Co := B0.a4
   have Cp := B0.a5
   have Ct := B0.lt
   go_wp2_with fail
   clear Ck Cl Cm Cn Co Cp Ct
   with_reducible refine (p_Lo _ _ _ _ (PV2.mk hlo hhi)).mono ?_
   rintro e Bn ⟨_, rfl, h2, hb⟩
   obtain ⟨sh2, ah2, nh2, ch2, Ah2, Nh2, Ch2, rfl⟩ := h2.shape
   replace hs := bStep hs hb
   replace B0 := B0.mono hb
   replace Blk := Blk.mono hb
   replace hlo := hlo.mono hb
   replace hhi := hhi.mono hb
   clear hb
   go_wp2_with fail
   with_reducible refine (sc_value _ T _ lo vl cl _ (HL.out.mono (C2.kept PC.kept) hs) h1 HZ.out h2 slo Cw.out).mono ?_
   rintro e w24 ⟨_, _, rfl, h3, rfl, hb⟩
   obtain ⟨sh3, ah3, nh3, ch3, Ah3, Nh3, Ch3, rfl⟩ := h3.shape
   replace hs := bStep hs hb
   replace B0 := B0.mono hb
   replace Blk := Blk.mono hb
   replace hlo := hlo.mono hb
   replace hhi := hhi.mono hb
   replace h2 := h2.mono hb
   clear hb
   by_cases q4 : cl = 0
   ·have q4b : (cl == 0) = true := by simp; omega
    have q4n : (cl != 0) = false := by simp; omega
    have Ck := B0.a0
    have Cl := B0.a1
    have Cm := B0.a2
    have Cn := B0.a3
    have Co := B0.a4
    have Cp := B0.a5
    have Ct := B0.lt
    go_wp2_with fail
    clear Ck Cl Cm Cn Co Cp Ct
    refine Calls.abs ?_
    intro Bc hW
    have hG : Gr [] w24 Bc := by rw [hW]; exact (Gr.refl _ _).alloc
    have B1 : Below w.heap.size w24 Bc := hG.below0 hs.size
    have hk : KeepD w24 Bc := hG.keep True.intro
    have Du : w.heap.size ≤ w24.heap.size := hs.size
    have Cx := B0.lt
    have Ds := Blk.lt
    have B5 : Bx Bc (w24.heap.size) 32 #[.bool sh3, .slice ah3 nh3 ch3, .slice Ah3 Nh3 Ch3] := by rw [hW]; exact (Bx.new0 _ _ _)
    replace hs := hs.trans B1
    replace B0 := hG.bx B0 notMem0
    replace Blk := hG.bx Blk notMem0
    replace hlo := hlo.keep hk
    replace hhi := hhi.keep hk
    replace h2 := h2.keep hk
    replace h3 := h3.keep hk
    clear hW hG hk B1
    have Dq := B5.lt
    with_reducible refine (p_Hi _ _ _ _ (PV2.mk hlo hhi)).mono ?_
    rintro e Bo ⟨_, rfl, h5, hb⟩
    obtain ⟨sh5, ah5, nh5, ch5, Ah5, Nh5, Ch5, rfl⟩ := h5.shape
    replace hs := bStep hs hb
    replace B0 := B0.mono hb
    replace Blk := Blk.mono hb
    replace B5 := B5.mono hb
    replace hlo := hlo.mono hb
    replace hhi := hhi.mono hb
    replace h2 := h2.mono hb
    replace h3 := h3.mono hb
    clear hb
    go_wp2_with fail
    with_reducible refine (sc_value _ T _ hi vh ch _ (HL.out.mono (C2.kept PC.kept) hs) h1 HZ.out h5 shi Di.out).mono ?_
    rintro e Bb ⟨_, _, rfl, h6, rfl, hb⟩
    obtain ⟨sh6, ah6, nh6, ch6, Ah6, Nh6, Ch6, rfl⟩ := h6.shape
    replace hs := bStep hs hb
    replace B0 := B0.mono hb
    replace Blk := Blk.mono hb
    replace B5 := B5.mono hb
    replace hlo := hlo.mono hb
    replace hhi := hhi.mono hb
    replace h2 := h2.mono hb
    replace h3 := h3.mono hb
    replace h5 := h5.mono hb
    clear hb
    by_cases q7 : ch = 0
    ·have q7b : (ch == 0) = true := by simp; omega
     have q7n : (ch != 0) = false := by simp; omega
     go_upto_region 15 with fail
     refine Code.abs ?_
     intro B6 hW
     have hG : Gr [] Bb B6 := by rw [hW]; exact (Gr.refl _ _).alloc
     have B1 : Below w.heap.size Bb B6 := hG.below0 hs.size
     have hk : KeepD Bb B6 := hG.keep True.intro
     have Dv : w.heap.size ≤ Bb.heap.size := hs.size
     have Cy := B0.lt
     have Dt := Blk.lt
     have Dp := B5.lt
     have Bf : Bx B6 (Bb.heap.size) 32 #[.bool sh6, .slice ah6 nh6 ch6, .slice Ah6 Nh6 Ch6] := by rw [hW]; exact (Bx.new0 _ _ _)
     replace hs := hs.trans B1
     replace B0 := hG.bx B0 notMem0
     replace Blk := hG.bx Blk notMem0
     replace B5 := hG.bx B5 notMem0
     replace hlo := hlo.keep hk
     replace hhi := hhi.keep hk
     replace h2 := h2.keep hk
     replace h3 := h3.keep hk
     replace h5 := h5.keep hk
     replace h6 := h6.keep hk
     clear hW hG hk B1
     have Dr := Bf.lt
     have E2 := B5.a0
     have E3 := B5.a1
     have E4 := B5.a2
     have Llo := B5.lt
     have Dz := Bf.a0
     have E0 := Bf.a1
     have E1 := Bf.a2
     have Lhi := Bf.lt
     go_wp2_with fail
     clear E2 E3 E4 Dz E0 E1 Llo Lhi
     with_reducible refine (p_Make_le _ _ _ _ _ h3 (SzQ.mid svl) h6 (SzQ.mid svh) (por_le Bl.out Dh.out Cw.out q4 Di.out q7 HLE.out)).mono ?_
     rintro e Bd ⟨_, _, rfl, h8, rfl, hb⟩
     obtain ⟨Db, D5, D9, D7, Cz, D3, D1, Dc, D6, Da, D8, D0, D4, D2, rfl, h8a, h8b⟩ := h8.shape
     replace hs := bStep hs hb
     replace B0 := B0.mono hb
     replace Blk := Blk.mono hb
     replace B5 := B5.mono hb
     replace Bf := Bf.mono hb
     replace hlo := hlo.mono hb
     replace hhi := hhi.mono hb
     replace h2 := h2.mono hb
     replace h3 := h3.mono hb
     replace h5 := h5.mono hb
     replace h6 := h6.mono hb
     clear hb
     have Bm := (porQ_ok Bl.out Dh.out Cw.out q4 Di.out q7).symm.trans Df.out
     obtain ⟨Bg, Bi⟩ := Prod.mk.inj Bm
     obtain ⟨Bh, Bj⟩ := Prod.mk.inj Bi
     replace Bg := Lib.hid Bg
     replace Bh := Lib.hid Bh
     replace Bj := Lib.hid Bj
     clear Bm Bi
     have B2 := Blk.a0
     have B3 := Blk.a1
     have B4 := Blk.a2
     have B8 := Blk.a3
     have B9 := Blk.a4
     have Ba := Blk.a5
     have fk := Blk.free
     have Lk := Blk.lt
     go_wp2
     clear B2 B3 B4 B8 B9 Ba fk Lk
     refine bodyPost.abs ?_
     intro Bp hW
     have hG : Gr [w.heap.size + 1] Bd Bp := by rw [hW]; exact (Gr.refl _ _).set.set.set.set.set.set
     have Bk := hs.size
     have lk := Blk.lt
     have B1 : Below w.heap.size Bd Bp := hG.below1 hs.size (by first | omega | assumption)
     have hk : KeepD Bd Bp := hG.keep ⟨⟨_, Blk.ty, by decide⟩, True.intro⟩
     have B7 : Bx Bp (w.heap.size + 1) 85 #[.bool Db, .slice D5 D9 D7, .slice Cz D3 D1, .bool Dc, .slice D6 Da D8, .slice D0 D4 D2] := by rw [hW]; exact Blk.set6
     replace hs := hs.trans B1
     replace B0 := hG.bx B0 (notMem1 (by omega))
     replace B5 := hG.bx B5 (notMem1 (by omega))
     replace Bf := hG.bx Bf (notMem1 (by omega))
     replace Blk := B7
     clear B7
     replace hlo := hlo.keep hk
     replace hhi := hhi.keep hk
     replace h2 := h2.keep hk
     replace h3 := h3.keep hk
     replace h5 := h5.keep hk
     replace h6 := h6.keep hk
     replace h8a := h8a.keep hk
     replace h8b := h8b.keep hk
     clear hW hG hk B1 Bk lk
     have B2 := Blk.a0
     have B3 := Blk.a1
     have B4 := Blk.a2
     have B8 := Blk.a3
     have B9 := Blk.a4
     have Ba := Blk.a5
     exact bodyPost_ret (v := .tuple #[.agg #[.bool Db, .slice D5 D9 D7, .slice Cz D3 D1, .bool Dc, .slice D6 Da D8, .slice D0 D4 D2], .int .i64 0]) (by simp [results, Tryz.results32, go_sem, B2, B3, B4, B8, B9, Ba]) rfl ⟨_, _, rfl, PV2.mk (h8a.of_eq Bg.out) (h8b.of_eq Bh.out), congrArg (Value.int .i64) Bj.out, hs⟩
    ·have q7b : (ch == 0) = false := by simp; omega
     have q7n : (ch != 0) = true := by simp; omega
     go_upto_region 14 with fail
     refine Code.abs ?_
     intro B6 hW
     have hG : Gr [] Bb B6 := by rw [hW]; exact (Gr.refl _ _).alloc
     have B1 : Below w.heap.size Bb B6 := hG.below0 hs.size
     have hk : KeepD Bb B6 := hG.keep True.intro
     have Dv : w.heap.size ≤ Bb.heap.size := hs.size
     have Cy := B0.lt
     have Dt := Blk.lt
     have Dp := B5.lt
     have Bf : Bx B6 (Bb.heap.size) 32 #[.bool sh6, .slice ah6 nh6 ch6, .slice Ah6 Nh6 Ch6] := by rw [hW]; exact (Bx.new0 _ _ _)
     replace hs := hs.trans B1
     replace B0 := hG.bx B0 notMem0
     replace Blk := hG.bx Blk notMem0
     replace B5 := hG.bx B5 notMem0
     replace hlo := hlo.keep hk
     replace hhi := hhi.keep hk
     replace h2 := h2.keep hk
     replace h3 := h3.keep hk
     replace h5 := h5.keep hk
     replace h6 := h6.keep hk
     clear hW hG hk B1
     have Dr := Bf.lt
     have Bm := (porQ_hi Bl.out Dh.out Cw.out q4 Di.out q7).symm.trans Df.out
     obtain ⟨Bg, Bi⟩ := Prod.mk.inj Bm
     obtain ⟨Bh, Bj⟩ := Prod.mk.inj Bi
     replace Bg := Lib.hid Bg
     replace Bh := Lib.hid Bh
     replace Bj := Lib.hid Bj
     clear Bm Bi
     have B2 := Blk.a0
     have B3 := Blk.a1
     have B4 := Blk.a2
     have B8 := Blk.a3
     have B9 := Blk.a4
     have Ba := Blk.a5
     have fk := Blk.free
     have Lk := Blk.lt
     go_wp2
     clear B2 B3 B4 B8 B9 Ba fk Lk
     refine bodyPost.abs ?_
     intro Bd hW
     have hG : Gr [w.heap.size + 1] B6 Bd := by rw [hW]; exact (Gr.refl _ _).set.set.set.set.set.set
     have Bk := hs.size
     have lk := Blk.lt
     have B1 : Below w.heap.size B6 Bd := hG.below1 hs.size (by first | omega | assumption)
     have hk : KeepD B6 Bd := hG.keep ⟨⟨_, Blk.ty, by decide⟩, True.intro⟩
     have B7 : Bx Bd (w.heap.size + 1) 85 #[.bool false, .slice none 0 0, .slice none 0 0, .bool false, .slice none 0 0, .slice none 0 0] := by rw [hW]; exact Blk.set6
     replace hs := hs.trans B1
     replace B0 := hG.bx B0 (notMem1 (by omega))
     replace B5 := hG.bx B5 (notMem1 (by omega))
     replace Bf := hG.bx Bf (notMem1 (by omega))
     replace Blk := B7
     clear B7
     replace hlo := hlo.keep hk
     replace hhi := hhi.keep hk
     replace h2 := h2.keep hk
     replace h3 := h3.keep hk
     replace h5 := h5.keep hk
     replace h6 := h6.keep hk
     clear hW hG hk B1 Bk lk
     have B2 := Blk.a0
     have B3 := Blk.a1
     have B4 := Blk.a2
     have B8 := Blk.a3
     have B9 := Blk.a4
     have Ba := Blk.a5
     exact bodyPost_ret (v := .tuple #[.agg #[.bool false, .slice none 0 0, .slice none 0 0, .bool false, .slice none 0 0, .slice none 0 0], .int .i64 ch]) (by simp [results, Tryz.results32, go_sem, B2, B3, B4, B8, B9, Ba]) rfl ⟨_, _, rfl, PV2.mk ((PV.zero _).of_eq Bg.out) ((PV.zero _).of_eq Bh.out), congrArg (Value.int .i64) Bj.out, hs⟩
   ·have q4b : (cl == 0) = false := by simp; omega
    have q4n : (cl != 0) = true := by simp; omega
    go_upto_region 11 with fail
    refine Code.abs ?_
    intro Bc hW
    have hG : Gr [] w24 Bc := by rw [hW]; exact (Gr.refl _ _).alloc
    have B1 : Below w.heap.size w24 Bc := hG.below0 hs.size
    have hk : KeepD w24 Bc := hG.keep True.intro
    have Du : w.heap.size ≤ w24.heap.size := hs.size
    have Cx := B0.lt
    have Ds := Blk.lt
    have B5 : Bx Bc (w24.heap.size) 32 #[.bool sh3, .slice ah3 nh3 ch3, .slice Ah3 Nh3 Ch3] := by rw [hW]; exact (Bx.new0 _ _ _)
    replace hs := hs.trans B1
    replace B0 := hG.bx B0 notMem0
    replace Blk := hG.bx Blk notMem0
    replace hlo := hlo.keep hk
    replace hhi := hhi.keep hk
    replace h2 := h2.keep hk
    replace h3 := h3.keep hk
    clear hW hG hk B1
    have Dq := B5.lt
    have Bm := (porQ_lo Bl.out Dh.out Cw.out q4).symm.trans Df.out
    obtain ⟨Bg, Bi⟩ := Prod.mk.inj Bm
    obtain ⟨Bh, Bj⟩ := Prod.mk.inj Bi
    replace Bg := Lib.hid Bg
    replace Bh := Lib.hid Bh
    replace Bj := Lib.hid Bj
    clear Bm Bi
    have B2 := Blk.a0
    have B3 := Blk.a1
    have B4 := Blk.a2
    have B8 := Blk.a3
    have B9 := Blk.a4
    have Ba := Blk.a5
    have fk := Blk.free
    have Lk := Blk.lt
    go_wp2
    clear B2 B3 B4 B8 B9 Ba fk Lk
    refine bodyPost.abs ?_
    intro Bo hW
    have hG : Gr [w.heap.size + 1] Bc Bo := by rw [hW]; exact (Gr.refl _ _).set.set.set.set.set.set
    have Bk := hs.size
    have lk := Blk.lt
    have B1 : Below w.heap.size Bc Bo := hG.below1 hs.size (by first | omega | assumption)
    have hk : KeepD Bc Bo := hG.keep ⟨⟨_, Blk.ty, by decide⟩, True.intro⟩
    have B7 : Bx Bo (w.heap.size + 1) 85 #[.bool false, .slice none 0 0, .slice none 0 0, .bool false, .slice none 0 0, .slice none 0 0] := by rw [hW]; exact Blk.set6
    replace hs := hs.trans B1
    replace B0 := hG.bx B0 (notMem1 (by omega))
    replace B5 := hG.bx B5 (notMem1 (by omega))
    replace Blk := B7
    clear B7
    replace hlo := hlo.keep hk
    replace hhi := hhi.keep hk
    replace h2 := h2.keep hk
    replace h3 := h3.keep hk
    clear hW hG hk B1 Bk lk
    have B2 := Blk.a0
    have B3 := Blk.a1
    have B4 := Blk.a2
    have B8 := Blk.a3
    have B9 := Blk.a4
    have Ba := Blk.a5
    exact bodyPost_ret (v := .tuple #[.agg #[.bool false, .slice none 0 0, .slice none 0 0, .bool false, .slice none 0 0, .slice none 0 0], .int .i64 cl]) (by simp [results, Tryz.results32, go_sem, B2, B3, B4, B8, B9, Ba]) rfl ⟨_, _, rfl, PV2.mk ((PV.zero _).of_eq Bg.out) ((PV.zero _).of_eq Bh.out), congrArg (Value.int .i64) Bj.out, hs⟩
theorem sc_Porosity_bad (v : Value) (T : List Stp) (vr : Value) (lo hi : Rat) (c : Int) (w : World) (hl : Rows 6 153 (C2 PC) w v T) (hz : TabSz T) (hr : PV2 w vr lo hi) (hte : tabE T = c) (hc : ¬ c = 0) :
  Calls Tryz.prog 32 #[v, vr] w (Ret2 (fun w v => PV2 w v 0 0) (fun _ v => v = .int .i64 c) w) := by
 obtain ⟨ao, rc, rfl, hc1, hc2, hc3⟩ := hl.slice
 have hs := Below.refl w.heap.size w
 have HL := Lib.hid hl
 clear hl
 obtain ⟨Cj, Cb, Ch, Cd, Br, C9, Bt, Ci, Ca, Cg, Cc, Bq, C8, Bs, rfl, hlo, hhi⟩ := hr.shape
 clear hr
 have HZ := Lib.hid hz
 have Bl := Lib.hid hte
 have HN := Lib.hid hc
 clear hz hte hc
 go_enter Tryz.func32, Tryz.ntmps32
 go_wp2_with fail
 refine Calls.abs ?_
 intro w1 hW
 have hG : Gr [] w w1 := by rw [hW]; exact (Gr.refl _ _).alloc.alloc
 have B1 : Below w.heap.size w w1 := hG.below0 hs.size
 have hk : KeepD w w1 := hG.keep True.intro
 have Cv : w.heap.size ≤ w.heap.size := hs.size
 have B0 : Bx w1 (w.heap.size) 85 #[.bool Cj, .slice Cb Ch Cd, .slice Br C9 Bt, .bool Ci, .slice Ca Cg Cc, .slice Bq C8 Bs] := by rw [hW]; exact ((Bx.new0 _ _ _).alloc _)
 have Blk : Bx w1 (w.heap.size + 1) 85 #[.bool false, .slice none 0 0, .slice none 0 0, .bool false, .slice none 0 0, .slice none 0 0] := by rw [hW]; exact (Bx.new0 _ _ _)
 replace hs := hs.trans B1
 replace hlo := hlo.keep hk
 replace hhi := hhi.keep hk
 clear hW hG hk B1
 have Cu := Blk.lt
 with_reducible refine (sc_checkSteps _ T _ c (HL.out.mono (C2.kept PC.kept) hs) HZ.out Bl.out).mono ?_
 rintro e w2 ⟨rfl, hb⟩
 replace hs := bStep hs hb
 replace B0 := B0.mono hb
 replace Blk := Blk.mono hb
 replace hlo := hlo.mono hb
 replace hhi := hhi.mono hb
 clear hb
 have q1 : ¬ (c = 0) := HN.out
 have q1b : (c == 0) = false := by simp; omega
 have q1n : (c != 0) = true := by simp; omega
 have B2 := Blk.a0
 have B3 := Blk.a1
 have B4 := Blk.a2
 have B8 := Blk.a3
 have B9 := Blk.a4
 have Ba := Blk.a5
 have fk := Blk.free
 have Lk := Blk.lt
 go_wp2
 clear B2 B3 B4 B8 B9 Ba fk Lk
 refine bodyPost.abs ?_
 intro w3 hW
 have hG : Gr [w.heap.size + 1] w2 w3 := by rw [hW]; exact (Gr.refl _ _).set.set.set.set.set.set
 have Bk := hs.size
 have lk := Blk.lt
 have B1 : Below w.heap.size w2 w3 := hG.below1 hs.size (by first | omega | assumption)
 have hk : KeepD w2 w3 := hG.keep ⟨⟨_, Blk.ty, by decide⟩, True.intro⟩
 have B7 : Bx w3 (w.heap.size + 1) 85 #[.bool false, .slice none 0 0, .slice none 0 0, .bool false, .slice none 0 0, .slice none 0 0] := by rw [hW]; exact Blk.set6
 replace hs := hs.trans B1
 replace B0 := hG.bx B0 (notMem1 (by omega))
 replace Blk := B7
 clear B7
 replace hlo := hlo.keep hk
 replace hhi := hhi.keep hk
 clear hW hG hk B1 Bk lk
 have B2 := Blk.a0
 have B3 := Blk.a1
 have B4 := Blk.a2
 have B8 := Blk.a3
 have B9 := Blk.a4
 have Ba := Blk.a5
 exact bodyPost_ret (v := .tuple #[.agg #[.bool false, .slice none 0 0, .slice none 0 0, .bool false, .slice none 0 0, .slice none 0 0], .int .i64 c]) (by simp [results, Tryz.results32, go_sem, B2, B3, B4, B8, B9, Ba]) rfl ⟨_, _, rfl, PV2.mk (PV.zero _) (PV.zero _), rfl, hs⟩
theorem sc_Porosity (v : Value) (T : List Stp) (vr : Value) (lo hi a b : Rat) (c : Int) (w : World) (hl : Rows 6 153 (C2 PC) w v T) (hz : TabSz T) (hr : PV2 w vr lo hi) (slo : SzQ 100 lo) (shi : SzQ 100 hi) (hle : lo ≤ hi) (hv : porQ T lo hi = (a, b, c)) :
  Calls Tryz.prog 32 #[v, vr] w (Ret2 (fun w v => PV2 w v a b) (fun _ v => v = .int .i64 c) w) := by
 by_cases h : tabE T = 0
 ·exact sc_Porosity_ok v T vr lo hi a b c w hl hz hr slo shi hle h hv (tabE_ok h).1
 ·unfold porQ at hv
  rw [if_neg h] at hv
  cases hv
  exact sc_Porosity_bad v T vr lo hi _ w hl hz hr rfl h
end Go.Proofs.YtkfekkhhfpkfaaaGreat
