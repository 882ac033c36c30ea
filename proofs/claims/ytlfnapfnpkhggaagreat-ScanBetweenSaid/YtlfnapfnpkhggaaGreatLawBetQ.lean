/-
  Law 07: ScanBetween, the main way, over awake.
-/
import Derived.Test.YtlfnapfnpkhggaaGreatLawBet0Q
import Derived.Test.YtlfnapfnpkhggaaGreatPkHeld3Q
set_option linter.unusedSimpArgs false
set_option linter.unusedVariables false
namespace Go.Proofs.YtlfnapfnpkhggaaGreat
open Go.RowKit Dg
attribute [local go_sem ↓] Go.wp_at_zero Go.wp_at_succ

theorem full_len {T : List Stp} {x q : Rat} {c : Int} (h : fullV T x = (q, c)) (hc : c = 0) : 1 ≤ T.length := by
  unfold fullV at h
  by_cases e : tabE T = 0
  · exact (tabE_ok e).1
  · rw [if_neg e] at h; cases h; exact absurd hc e
theorem p_Hull3 {w : World} {v v' : Value} {x y n m : Rat} (h : PV2 w v x x) (h' : PV2 w v' y y) (sx : Mid x) (sy : Mid y) (en : mnQ x y = n) (em : mxQ x y = m) : Calls Tryz.prog 47 #[v, v'] w (Ret1 (fun w v => PV2 w v n m) w) := by
  subst en em
  exact p_Hull2 h h' sx sy

set_option maxRecDepth 100000 in
set_option maxHeartbeats 16000000 in
theorem l7_ScanBetween_ok (hAw : ∀ w : World, Calls Tryz.prog 12 #[] w (RetV w (.bool true))) (v : Value) (l : List DP) (n1 d1 n3 d3 n4 d4 b0 b1 n5 d5 n6 d6 : Int) (w : World) (hl : RowsI 4 QC w v l) (hok : ∀ x ∈ l, DOk x.1 ∧ DOk x.2) (o1 : DOk (n1, d1)) (o3 : DOk (n3, d3)) (o4 : DOk (n4, d4)) (o5 : DOk (n5, d5)) (o6 : DOk (n6, d6)) (p0 : 0 ≤ b0 ∧ b0 ≤ 255) (p1 : 0 ≤ b1 ∧ b1 ≤ 255)
    (a0 : briefQ l = true) (a1 : [(n1, d1)].all shortF = true) (a3 : [(n3, d3), (n4, d4)].all shortF = true) (a5 : [(n5, d5), (n6, d6)].all shortF = true) (h20 : l.length ≤ 20)
    (T : List Stp) (hT : T = l.map stpF) (xq : Rat) (hxq : fracQ n1 d1 = xq) (lo3 hi3 lo5 hi5 : Rat) (hlo3 : spLo n3 d3 n4 d4 = lo3) (hhi3 : spHi n3 d3 n4 d4 = hi3) (hlo5 : spLo n5 d5 n6 d6 = lo5) (hhi5 : spHi n5 d5 n6 d6 = hi5)
    (f0 f1 : Rat) (hf0 : (b0 : Rat) / ((255 : Int) : Rat) = f0) (hf1 : (b1 : Rat) / ((255 : Int) : Rat) = f1) (nl nh : Rat) (hnl : mnQ (lo3 + (hi3 - lo3) * f0) (lo3 + (hi3 - lo3) * f1) = nl) (hnh : mxQ (lo3 + (hi3 - lo3) * f0) (lo3 + (hi3 - lo3) * f1) = nh)
    (vq : Rat) (vc : Int) (hvq : fullV T xq = (vq, vc)) (pa pb qa qb : Rat) (pc qc : Int) (hpp : porQ T lo3 hi3 = (pa, pb, pc)) (hqq : porQ T nl nh = (qa, qb, qc))
    (da db ea eb : Rat) (dc ec : Int) (hdd : depQ lo3 hi3 lo5 hi5 = (da, db, dc)) (hee : depQ nl nh lo5 hi5 = (ea, eb, ec)) :
    Calls Tryz.prog 8 #[v, .agg #[.int .i64 n1, .int .i64 d1], .agg #[.int .i64 n3, .int .i64 d3, .int .i64 n4, .int .i64 d4], .agg #[.int .u8 b0, .int .u8 b1], .agg #[.int .i64 n5, .int .i64 d5, .int .i64 n6, .int .i64 d6]] w (RetV w (.bool true)) := by
  obtain ⟨ao, cap, rfl, hc1, hc2, hc3⟩ := hl.slice
  have hs := Below.refl w.heap.size w
  have hb : l.all shortP = true := by unfold briefQ at a0; simp only [Bool.and_eq_true] at a0; exact a0.1
  have hz : TabSz T := by rw [hT]; exact stpF_sz hb hok
  have sxq : SzQ 1 xq := hxq ▸ short_sz (x := (n1, d1)) (by simpa using a1) o1
  have slo3 : SzQ 1 lo3 := hlo3 ▸ (sp_sz a3 o3 o4).1
  have shi3 : SzQ 1 hi3 := hhi3 ▸ (sp_sz a3 o3 o4).2
  have slo5 : SzQ 1 lo5 := hlo5 ▸ (sp_sz a5 o5 o6).1
  have shi5 : SzQ 1 hi5 := hhi5 ▸ (sp_sz a5 o5 o6).2
  have hle3 : lo3 ≤ hi3 := hlo3 ▸ hhi3 ▸ sp_le n3 d3 n4 d4
  have hle5 : lo5 ≤ hi5 := hlo5 ▸ hhi5 ▸ sp_le n5 d5 n6 d6
  have sf0 : SzQ 1 f0 := part_sz p0.1 p0.2 hf0
  have sf1 : SzQ 1 f1 := part_sz p1.1 p1.2 hf1
  have ss0 : SzQ 6 (lo3 + (hi3 - lo3) * f0) := (SzQ.add slo3 (SzQ.mul (SzQ.sub shi3 slo3) sf0)).mono (by omega)
  have ss1 : SzQ 6 (lo3 + (hi3 - lo3) * f1) := (SzQ.add slo3 (SzQ.mul (SzQ.sub shi3 slo3) sf1)).mono (by omega)
  have snl : SzQ 6 nl := hnl ▸ mnQ_sz ss0 ss1
  have snh : SzQ 6 nh := hnh ▸ mxQ_sz ss0 ss1
  have hnar := narrow_in hle3 (part_bd p0.1 p0.2 hf0) (part_bd p1.1 p1.2 hf1) hnl hnh
  have svq : SzQ 400 vq := fullV_sz hz (sxq.mono (by omega)) hvq
  obtain ⟨spa, spb⟩ := porQ_mid hz (slo3.mono (by omega)) (shi3.mono (by omega)) hpp
  obtain ⟨sqa, sqb⟩ := porQ_mid hz (snl.mono (by omega)) (snh.mono (by omega)) hqq
  obtain ⟨sda, sdb⟩ := depQ_mid (slo3.mono (by omega)) (shi3.mono (by omega)) (slo5.mono (by omega)) (shi5.mono (by omega)) hdd
  obtain ⟨sea, seb⟩ := depQ_mid (snl.mono (by omega)) (snh.mono (by omega)) (slo5.mono (by omega)) (shi5.mono (by omega)) hee
  have hb0l := p0.1
  have hb0h := p0.2
  have hb1l := p1.1
  have hb1h := p1.2
  have HB := Lib.hid a0
  have HA1 := Lib.hid a1
  have HS3 := Lib.hid a3
  have HS5 := Lib.hid a5
  have HTQ := Lib.hid hT
  have HXQ := Lib.hid hxq
  have HLO3 := Lib.hid hlo3
  have HHI3 := Lib.hid hhi3
  have HLO5 := Lib.hid hlo5
  have HHI5 := Lib.hid hhi5
  have HF0 := Lib.hid hf0
  have HF1 := Lib.hid hf1
  have HNL := Lib.hid hnl
  have HNH := Lib.hid hnh
  have HVQ := Lib.hid hvq
  have HPP := Lib.hid hpp
  have HQQ := Lib.hid hqq
  have HDD := Lib.hid hdd
  have HEE := Lib.hid hee
  have HZ := Lib.hid hz
  have HLE3 := Lib.hid hle3
  have HLE5 := Lib.hid hle5
  have HNAR := Lib.hid hnar
  have HAW := Lib.hid hAw
  have HL := Lib.hid hl
  have HOK := Lib.hid hok
  have HO1 := Lib.hid o1
  have HO3 := Lib.hid o3
  have HO4 := Lib.hid o4
  have HO5 := Lib.hid o5
  have HO6 := Lib.hid o6
  clear hb p0 p1 a0 a1 a3 a5 hT hxq hlo3 hhi3 hlo5 hhi5 hf0 hf1 hnl hnh hvq hpp hqq hdd hee hz hle3 hle5 hnar hAw hl hok o1 o3 o4 o5 o6
  go_enter Tryz.func8, Tryz.ntmps8
  go_wp2_with fail
  refine Calls.abs ?_
  intro w1 hW
  have hG : Gr [] w w1 := by rw [hW]; exact (Gr.refl _ _).alloc.alloc.alloc.alloc
  have hbw : Below w.heap.size w w1 := hG.below0 hs.size
  have hk : KeepD w w1 := hG.keep True.intro
  have sz_w1 : w.heap.size ≤ w.heap.size := hs.size
  have Blat : Bx w1 (w.heap.size) 82 #[.int .i64 n1, .int .i64 d1] := by rw [hW]; exact ((((Bx.new0 _ _ _).alloc _).alloc _).alloc _)
  have Blloss : Bx w1 (w.heap.size + 1) 83 #[.int .i64 n3, .int .i64 d3, .int .i64 n4, .int .i64 d4] := by rw [hW]; exact (((Bx.new0 _ _ _).alloc _).alloc _)
  have Blpart : Bx w1 (w.heap.size + 1 + 1) 104 #[.int .u8 b0, .int .u8 b1] := by rw [hW]; exact ((Bx.new0 _ _ _).alloc _)
  have Blspeed : Bx w1 (w.heap.size + 1 + 1 + 1) 83 #[.int .i64 n5, .int .i64 d5, .int .i64 n6, .int .i64 d6] := by rw [hW]; exact (Bx.new0 _ _ _)
  replace hs := hs.trans hbw
  clear hW hG hk hbw
  have hz_w1 : w.heap.size + 1 + 1 + 1 < w1.heap.size := Blspeed.lt
  with_reducible refine (l7_brief _ l _ (HL.out.mono QC.kept hs)).mono ?_
  rintro e w2 ⟨rfl, hb⟩
  replace hs := bStep hs hb
  replace Blat := Blat.mono hb
  replace Blloss := Blloss.mono hb
  replace Blpart := Blpart.mono hb
  replace Blspeed := Blspeed.mono hb
  clear hb
  obtain ⟨b1, Hb1⟩ : ∃ b : Bool, b = briefQ l := ⟨_, rfl⟩
  rw [← Hb1]
  replace Hb1 := Lib.hid Hb1
  have q2 : briefQ l = true := HB.out
  obtain rfl : b1 = true := by rw [Hb1.out]; exact q2
  have q2H := Lib.hid q2
  clear q2
  have cat_0 : w2.cell? ⟨w.heap.size, 0, none⟩ = some (.int .i64 n1) := Blat.at 0 rfl
  have cat_1 : w2.cell? ⟨w.heap.size, 1, none⟩ = some (.int .i64 d1) := Blat.at 1 rfl
  have Lat : w.heap.size < w2.heap.size := Blat.lt
  go_wp2_with fail
  clear cat_0 cat_1 Lat
  refine Calls.abs ?_
  intro w3 hW
  have hG : Gr [] w2 w3 := by rw [hW]; exact (Gr.refl _ _).alloc
  have hbw : Below w.heap.size w2 w3 := hG.below0 hs.size
  have hk : KeepD w2 w3 := hG.keep True.intro
  have sz_w3 : w.heap.size ≤ w2.heap.size := hs.size
  have nat_w3 : w.heap.size < w2.heap.size := Blat.lt
  have nloss_w3 : w.heap.size + 1 < w2.heap.size := Blloss.lt
  have npart_w3 : w.heap.size + 1 + 1 < w2.heap.size := Blpart.lt
  have nspeed_w3 : w.heap.size + 1 + 1 + 1 < w2.heap.size := Blspeed.lt
  have Blls : Bx w3 (w2.heap.size) 82 #[.int .i64 n1, .int .i64 d1] := by rw [hW]; exact (Bx.new0 _ _ _)
  replace hs := hs.trans hbw
  replace Blat := hG.bx Blat notMem0
  replace Blloss := hG.bx Blloss notMem0
  replace Blpart := hG.bx Blpart notMem0
  replace Blspeed := hG.bx Blspeed notMem0
  clear hW hG hk hbw
  have hz_w3 : w2.heap.size < w3.heap.size := Blls.lt
  with_reducible refine (l7_short _ [(n1, d1)] _ (rowsF1 Blls)).mono ?_
  rintro e w4 ⟨rfl, hb⟩
  replace hs := bStep hs hb
  replace Blat := Blat.mono hb
  replace Blloss := Blloss.mono hb
  replace Blpart := Blpart.mono hb
  replace Blspeed := Blspeed.mono hb
  replace Blls := Blls.mono hb
  clear hb
  obtain ⟨b3, Hb3⟩ : ∃ b : Bool, b = [(n1, d1)].all shortF := ⟨_, rfl⟩
  rw [← Hb3]
  replace Hb3 := Lib.hid Hb3
  have q4 : [(n1, d1)].all shortF = true := HA1.out
  obtain rfl : b3 = true := by rw [Hb3.out]; exact q4
  have q4H := Lib.hid q4
  clear q4
  go_wp2_with fail
  with_reducible refine (l7_short _ [(n3, d3), (n4, d4)] _ (rowsF2 Blloss)).mono ?_
  rintro e w5 ⟨rfl, hb⟩
  replace hs := bStep hs hb
  replace Blat := Blat.mono hb
  replace Blloss := Blloss.mono hb
  replace Blpart := Blpart.mono hb
  replace Blspeed := Blspeed.mono hb
  replace Blls := Blls.mono hb
  clear hb
  obtain ⟨b5, Hb5⟩ : ∃ b : Bool, b = [(n3, d3), (n4, d4)].all shortF := ⟨_, rfl⟩
  rw [← Hb5]
  replace Hb5 := Lib.hid Hb5
  have q6 : [(n3, d3), (n4, d4)].all shortF = true := HS3.out
  obtain rfl : b5 = true := by rw [Hb5.out]; exact q6
  have q6H := Lib.hid q6
  clear q6
  go_wp2_with fail
  with_reducible refine (l7_short _ [(n5, d5), (n6, d6)] _ (rowsF2 Blspeed)).mono ?_
  rintro e w6 ⟨rfl, hb⟩
  replace hs := bStep hs hb
  replace Blat := Blat.mono hb
  replace Blloss := Blloss.mono hb
  replace Blpart := Blpart.mono hb
  replace Blspeed := Blspeed.mono hb
  replace Blls := Blls.mono hb
  clear hb
  obtain ⟨b7, Hb7⟩ : ∃ b : Bool, b = [(n5, d5), (n6, d6)].all shortF := ⟨_, rfl⟩
  rw [← Hb7]
  replace Hb7 := Lib.hid Hb7
  have q8 : [(n5, d5), (n6, d6)].all shortF = true := HS5.out
  obtain rfl : b7 = true := by rw [Hb7.out]; exact q8
  have q8H := Lib.hid q8
  clear q8
  go_wp2_with fail
  with_reducible refine (l7_table _ l _ (HL.out.mono QC.kept hs) h20 HOK.out).mono ?_
  rintro e w7 ⟨_, _, rfl, h9, _, hb⟩
  rw [← HTQ.out] at h9
  obtain ⟨ah9, kh9, rfl, h91, h92, h93⟩ := h9.slice
  replace hs := bStep hs hb
  replace Blat := Blat.mono hb
  replace Blloss := Blloss.mono hb
  replace Blpart := Blpart.mono hb
  replace Blspeed := Blspeed.mono hb
  replace Blls := Blls.mono hb
  clear hb
  have cat_0 : w7.cell? ⟨w.heap.size, 0, none⟩ = some (.int .i64 n1) := Blat.at 0 rfl
  have cat_1 : w7.cell? ⟨w.heap.size, 1, none⟩ = some (.int .i64 d1) := Blat.at 1 rfl
  have Lat : w.heap.size < w7.heap.size := Blat.lt
  go_wp2_with fail
  clear cat_0 cat_1 Lat
  with_reducible refine (l7_of_ _ HO1.out HXQ.out).mono ?_
  rintro e w8 ⟨_, rfl, h10, hb⟩
  obtain ⟨sh10, ah10, nh10, ch10, Ah10, Nh10, Ch10, rfl⟩ := h10.shape
  replace hs := bStep hs hb
  replace Blat := Blat.mono hb
  replace Blloss := Blloss.mono hb
  replace Blpart := Blpart.mono hb
  replace Blspeed := Blspeed.mono hb
  replace Blls := Blls.mono hb
  replace h9 := rowsSB _ _ _ h9 hb
  clear hb
  go_wp2_with fail
  refine Calls.abs ?_
  intro w9 hW
  have hG : Gr [] w8 w9 := by rw [hW]; exact (Gr.refl _ _).alloc
  have hbw : Below w.heap.size w8 w9 := hG.below0 hs.size
  have hk : KeepD w8 w9 := hG.keep True.intro
  have sz_w9 : w.heap.size ≤ w8.heap.size := hs.size
  have nat_w9 : w.heap.size < w8.heap.size := Blat.lt
  have nloss_w9 : w.heap.size + 1 < w8.heap.size := Blloss.lt
  have npart_w9 : w.heap.size + 1 + 1 < w8.heap.size := Blpart.lt
  have nspeed_w9 : w.heap.size + 1 + 1 + 1 < w8.heap.size := Blspeed.lt
  have nls_w9 : w2.heap.size < w8.heap.size := Blls.lt
  have Blx : Bx w9 (w8.heap.size) 40 #[.bool sh10, .slice ah10 nh10 ch10, .slice Ah10 Nh10 Ch10] := by rw [hW]; exact (Bx.new0 _ _ _)
  replace hs := hs.trans hbw
  replace h9 := rowsSB _ _ _ h9 (hG.below0 (Nat.le_refl _))
  replace Blat := hG.bx Blat notMem0
  replace Blloss := hG.bx Blloss notMem0
  replace Blpart := hG.bx Blpart notMem0
  replace Blspeed := hG.bx Blspeed notMem0
  replace Blls := hG.bx Blls notMem0
  replace h10 := h10.keep hk
  clear hW hG hk hbw
  have hz_w9 : w8.heap.size < w9.heap.size := Blx.lt
  with_reducible refine (sc_Value _ T _ _ _ _ _ h9 HZ.out h10 (SzQ.mono sxq (by omega)) HVQ.out).mono ?_
  rintro e w10 ⟨_, _, rfl, h11, rfl, hb⟩
  obtain ⟨sh11, ah11, nh11, ch11, Ah11, Nh11, Ch11, rfl⟩ := h11.shape
  replace hs := bStep hs hb
  replace Blat := Blat.mono hb
  replace Blloss := Blloss.mono hb
  replace Blpart := Blpart.mono hb
  replace Blspeed := Blspeed.mono hb
  replace Blls := Blls.mono hb
  replace Blx := Blx.mono hb
  replace h10 := h10.mono hb
  replace h9 := rowsSB _ _ _ h9 hb
  clear hb
  go_upto_if 63 with (fail)
  refine Code.abs ?_
  intro w11 hW
  have hG : Gr [] w10 w11 := by rw [hW]; exact (Gr.refl _ _).alloc
  have hbw : Below w.heap.size w10 w11 := hG.below0 hs.size
  have hk : KeepD w10 w11 := hG.keep True.intro
  have sz_w11 : w.heap.size ≤ w10.heap.size := hs.size
  have nat_w11 : w.heap.size < w10.heap.size := Blat.lt
  have nloss_w11 : w.heap.size + 1 < w10.heap.size := Blloss.lt
  have npart_w11 : w.heap.size + 1 + 1 < w10.heap.size := Blpart.lt
  have nspeed_w11 : w.heap.size + 1 + 1 + 1 < w10.heap.size := Blspeed.lt
  have nls_w11 : w2.heap.size < w10.heap.size := Blls.lt
  have nx_w11 : w8.heap.size < w10.heap.size := Blx.lt
  have Blv : Bx w11 (w10.heap.size) 40 #[.bool sh11, .slice ah11 nh11 ch11, .slice Ah11 Nh11 Ch11] := by rw [hW]; exact (Bx.new0 _ _ _)
  replace hs := hs.trans hbw
  replace h9 := rowsSB _ _ _ h9 (hG.below0 (Nat.le_refl _))
  replace Blat := hG.bx Blat notMem0
  replace Blloss := hG.bx Blloss notMem0
  replace Blpart := hG.bx Blpart notMem0
  replace Blspeed := hG.bx Blspeed notMem0
  replace Blls := hG.bx Blls notMem0
  replace Blx := hG.bx Blx notMem0
  replace h10 := h10.keep hk
  replace h11 := h11.keep hk
  clear hW hG hk hbw
  have hz_w11 : w10.heap.size < w11.heap.size := Blv.lt
  go_cut [] (fun wz => Below w.heap.size w wz ∧ Bx wz (w.heap.size) 82 #[.int .i64 n1, .int .i64 d1] ∧ Bx wz (w.heap.size + 1) 83 #[.int .i64 n3, .int .i64 d3, .int .i64 n4, .int .i64 d4] ∧ Bx wz (w.heap.size + 1 + 1) 104 #[.int .u8 b0, .int .u8 b1] ∧ Bx wz (w.heap.size + 1 + 1 + 1) 83 #[.int .i64 n5, .int .i64 d5, .int .i64 n6, .int .i64 d6] ∧ Bx wz (w2.heap.size) 82 #[.int .i64 n1, .int .i64 d1] ∧ Bx wz (w8.heap.size) 40 #[.bool sh10, .slice ah10 nh10 ch10, .slice Ah10 Nh10 Ch10] ∧ Bx wz (w10.heap.size) 40 #[.bool sh11, .slice ah11 nh11 ch11, .slice Ah11 Nh11 Ch11] ∧ PV wz (.agg #[.bool sh10, .slice ah10 nh10 ch10, .slice Ah10 Nh10 Ch10]) (xq) ∧ PV wz (.agg #[.bool sh11, .slice ah11 nh11 ch11, .slice Ah11 Nh11 Ch11]) (vq) ∧ Rows 6 113 (C2 PC) wz (.slice ah9 T.length kh9) T)
  case first => as_aux_lemma =>
    by_cases q12 : vc = 0
    · have q12b : (vc == 0) = true := by simp; omega
      have q12n : (vc != 0) = false := by simp; omega
      have q12H := Lib.hid q12
      clear q12
      try simp only [q12b, q12n]
      go_wp2
      go_loopw [16] (fun s16 wq => ∃ k : Nat, 1 ≤ k ∧ k ≤ T.length ∧ s16 = .int .i64 k ∧ Below w.heap.size w wq ∧ Bx wq (w.heap.size) 82 #[.int .i64 n1, .int .i64 d1] ∧ Bx wq (w.heap.size + 1) 83 #[.int .i64 n3, .int .i64 d3, .int .i64 n4, .int .i64 d4] ∧ Bx wq (w.heap.size + 1 + 1) 104 #[.int .u8 b0, .int .u8 b1] ∧ Bx wq (w.heap.size + 1 + 1 + 1) 83 #[.int .i64 n5, .int .i64 d5, .int .i64 n6, .int .i64 d6] ∧ Bx wq (w2.heap.size) 82 #[.int .i64 n1, .int .i64 d1] ∧ Bx wq (w8.heap.size) 40 #[.bool sh10, .slice ah10 nh10 ch10, .slice Ah10 Nh10 Ch10] ∧ Bx wq (w10.heap.size) 40 #[.bool sh11, .slice ah11 nh11 ch11, .slice Ah11 Nh11 Ch11] ∧ PV wq (.agg #[.bool sh10, .slice ah10 nh10 ch10, .slice Ah10 Nh10 Ch10]) (xq) ∧ PV wq (.agg #[.bool sh11, .slice ah11 nh11 ch11, .slice Ah11 Nh11 Ch11]) (vq) ∧ Rows 6 113 (C2 PC) wq (.slice ah9 T.length kh9) T) (fun s16 _ => T.length - (intOf s16).toNat)
      case atStart => exact ⟨1, Nat.le_refl _, full_len HVQ.out q12H.out, rfl, hs, Blat, Blloss, Blpart, Blspeed, Blls, Blx, Blv, h10, h11, h9⟩
      case round =>
        clear Blat Blloss Blpart Blspeed Blls Blx Blv h10 h11 h9 hs
        obtain ⟨k, k_ge, k_le, rfl, hs, Blat, Blloss, Blpart, Blspeed, Blls, Blx, Blv, h10, h11, h9⟩ := hrel
        by_cases q13 : k < T.length
        · have q13d : ((k : Int) < (T.length : Int)) = True := eq_true (by omega)
          go_upto_region 10 with fail
          have SW14a := IntWalk.i64_in ((k : Int) - 1) (by omega)
          have SW14b : (0 : Int) ≤ (k : Int) - 1 := by omega
          have SW14c : ((k : Int) - 1).toNat = (k - 1) := by omega
          have SW14d : (k : Int) - 1 < (T.length : Int) := by omega
          have SW14e : (1 : Int) ≤ (k : Int) := by omega
          have SW14f : (k : Int) < (T.length : Int) + 1 := by omega
          obtain ⟨rb, ro, rc, hv_, -, -, -⟩ := h9.open_ (by omega)
          obtain ⟨rfl, rfl⟩ := sliceE hv_
          obtain ⟨ge15a, ae15a, ne15a, ce15a, Ae15a, Ne15a, De15a, ge15b, ae15b, ne15b, ce15b, Ae15b, Ne15b, De15b, Ee150, Ee151, Ee152, Ee153, Ee154, Ee155, he15a, he15b, le15⟩ := rowSP_at h9 (show (k - 1) < T.length by omega)
          obtain ⟨sg16, Hsg16⟩ : ∃ s : Int, s = sgQ ((taQ T (k - 1)) - xq) := ⟨_, rfl⟩
          replace Hsg16 := Lib.hid Hsg16
          by_cases q17 : taQ T (k - 1) ≤ xq
          · have q17_ : sg16 ≤ 0 := by have h := sq_le (taQ T (k - 1)) xq; rw [← Hsg16.out] at h; exact h.2 q17
            have q17H := Lib.hid q17
            clear q17
            have q17d : decide (sg16 ≤ 0) = true := decide_eq_true q17_
            obtain ⟨ge18a, ae18a, ne18a, ce18a, Ae18a, Ne18a, De18a, ge18b, ae18b, ne18b, ce18b, Ae18b, Ne18b, De18b, Ee180, Ee181, Ee182, Ee183, Ee184, Ee185, he18a, he18b, le18⟩ := rowSP_at h9 (show k < T.length by omega)
            obtain ⟨sg19, Hsg19⟩ : ∃ s : Int, s = sgQ (xq - (taQ T k)) := ⟨_, rfl⟩
            replace Hsg19 := Lib.hid Hsg19
            by_cases q20 : xq ≤ taQ T k
            · have q20_ : sg19 ≤ 0 := by have h := sq_le xq (taQ T k); rw [← Hsg19.out] at h; exact h.2 q20
              have q20H := Lib.hid q20
              clear q20
              have q20d : decide (sg19 ≤ 0) = true := decide_eq_true q20_
              obtain ⟨b24, Hb24⟩ : ∃ b : Bool, b = decide (mnQ (vaQ T (k - 1)) (vaQ T k) ≤ vq ∧ vq ≤ mxQ (vaQ T (k - 1)) (vaQ T k)) := ⟨_, rfl⟩
              replace Hb24 := Lib.hid Hb24
              refine U_region (S := fun w' => w'.cell? ⟨w8.heap.size, 0, none⟩ = some (.bool sh10) ∧ w'.cell? ⟨w8.heap.size, 1, none⟩ = some (.slice ah10 nh10 ch10) ∧ w'.cell? ⟨w8.heap.size, 2, none⟩ = some (.slice Ah10 Nh10 Ch10) ∧ w'.cell? ⟨w10.heap.size, 0, none⟩ = some (.bool sh11) ∧ w'.cell? ⟨w10.heap.size, 1, none⟩ = some (.slice ah11 nh11 ch11) ∧ w'.cell? ⟨w10.heap.size, 2, none⟩ = some (.slice Ah11 Nh11 Ch11) ∧ w'.cell? ⟨rb, ro + (k - 1) * 6, none⟩ = some (.bool ge15a) ∧ w'.cell? ⟨rb, ro + (k - 1) * 6 + 1, none⟩ = some (.slice ae15a ne15a ce15a) ∧ w'.cell? ⟨rb, ro + (k - 1) * 6 + 2, none⟩ = some (.slice Ae15a Ne15a De15a) ∧ w'.cell? ⟨rb, ro + (k - 1) * 6 + 3, none⟩ = some (.bool ge15b) ∧ w'.cell? ⟨rb, ro + (k - 1) * 6 + 4, none⟩ = some (.slice ae15b ne15b ce15b) ∧ w'.cell? ⟨rb, ro + (k - 1) * 6 + 5, none⟩ = some (.slice Ae15b Ne15b De15b) ∧ w'.cell? ⟨rb, ro + k * 6, none⟩ = some (.bool ge18a) ∧ w'.cell? ⟨rb, ro + k * 6 + 1, none⟩ = some (.slice ae18a ne18a ce18a) ∧ w'.cell? ⟨rb, ro + k * 6 + 2, none⟩ = some (.slice Ae18a Ne18a De18a) ∧ w'.cell? ⟨rb, ro + k * 6 + 3, none⟩ = some (.bool ge18b) ∧ w'.cell? ⟨rb, ro + k * 6 + 4, none⟩ = some (.slice ae18b ne18b ce18b) ∧ w'.cell? ⟨rb, ro + k * 6 + 5, none⟩ = some (.slice Ae18b Ne18b De18b)) (by kernel_rfl) 38 ?_
              refine AnyU.abs ?_
              intro w32 hW
              have hb : Below wr.heap.size wr w32 := by rw [hW]; exact bDrew _
              replace hs := bStep hs hb
              replace Blat := Blat.mono hb
              replace Blloss := Blloss.mono hb
              replace Blpart := Blpart.mono hb
              replace Blspeed := Blspeed.mono hb
              replace Blls := Blls.mono hb
              replace Blx := Blx.mono hb
              replace Blv := Blv.mono hb
              replace h10 := h10.mono hb
              replace h11 := h11.mono hb
              replace he15a := he15a.mono hb
              replace he15b := he15b.mono hb
              replace he18a := he18a.mono hb
              replace he18b := he18b.mono hb
              replace h9 := rowsSB _ _ _ h9 hb
              replace Ee150 := cellK Ee150 hb
              replace Ee151 := cellK Ee151 hb
              replace Ee152 := cellK Ee152 hb
              replace Ee153 := cellK Ee153 hb
              replace Ee154 := cellK Ee154 hb
              replace Ee155 := cellK Ee155 hb
              replace Ee180 := cellK Ee180 hb
              replace Ee181 := cellK Ee181 hb
              replace Ee182 := cellK Ee182 hb
              replace Ee183 := cellK Ee183 hb
              replace Ee184 := cellK Ee184 hb
              replace Ee185 := cellK Ee185 hb
              clear hb hW
              have cx_0 : w32.cell? ⟨w8.heap.size, 0, none⟩ = some (.bool sh10) := Blx.at 0 rfl
              have cx_1 : w32.cell? ⟨w8.heap.size, 1, none⟩ = some (.slice ah10 nh10 ch10) := Blx.at 1 rfl
              have cx_2 : w32.cell? ⟨w8.heap.size, 2, none⟩ = some (.slice Ah10 Nh10 Ch10) := Blx.at 2 rfl
              have cv_0 : w32.cell? ⟨w10.heap.size, 0, none⟩ = some (.bool sh11) := Blv.at 0 rfl
              have cv_1 : w32.cell? ⟨w10.heap.size, 1, none⟩ = some (.slice ah11 nh11 ch11) := Blv.at 1 rfl
              have cv_2 : w32.cell? ⟨w10.heap.size, 2, none⟩ = some (.slice Ah11 Nh11 Ch11) := Blv.at 2 rfl
              have hH := (show w32.cell? ⟨w8.heap.size, 0, none⟩ = some (.bool sh10) ∧ w32.cell? ⟨w8.heap.size, 1, none⟩ = some (.slice ah10 nh10 ch10) ∧ w32.cell? ⟨w8.heap.size, 2, none⟩ = some (.slice Ah10 Nh10 Ch10) ∧ w32.cell? ⟨w10.heap.size, 0, none⟩ = some (.bool sh11) ∧ w32.cell? ⟨w10.heap.size, 1, none⟩ = some (.slice ah11 nh11 ch11) ∧ w32.cell? ⟨w10.heap.size, 2, none⟩ = some (.slice Ah11 Nh11 Ch11) ∧ w32.cell? ⟨rb, ro + (k - 1) * 6, none⟩ = some (.bool ge15a) ∧ w32.cell? ⟨rb, ro + (k - 1) * 6 + 1, none⟩ = some (.slice ae15a ne15a ce15a) ∧ w32.cell? ⟨rb, ro + (k - 1) * 6 + 2, none⟩ = some (.slice Ae15a Ne15a De15a) ∧ w32.cell? ⟨rb, ro + (k - 1) * 6 + 3, none⟩ = some (.bool ge15b) ∧ w32.cell? ⟨rb, ro + (k - 1) * 6 + 4, none⟩ = some (.slice ae15b ne15b ce15b) ∧ w32.cell? ⟨rb, ro + (k - 1) * 6 + 5, none⟩ = some (.slice Ae15b Ne15b De15b) ∧ w32.cell? ⟨rb, ro + k * 6, none⟩ = some (.bool ge18a) ∧ w32.cell? ⟨rb, ro + k * 6 + 1, none⟩ = some (.slice ae18a ne18a ce18a) ∧ w32.cell? ⟨rb, ro + k * 6 + 2, none⟩ = some (.slice Ae18a Ne18a De18a) ∧ w32.cell? ⟨rb, ro + k * 6 + 3, none⟩ = some (.bool ge18b) ∧ w32.cell? ⟨rb, ro + k * 6 + 4, none⟩ = some (.slice ae18b ne18b ce18b) ∧ w32.cell? ⟨rb, ro + k * 6 + 5, none⟩ = some (.slice Ae18b Ne18b De18b) from ⟨cx_0, cx_1, cx_2, cv_0, cv_1, cv_2, Ee150, Ee151, Ee152, Ee153, Ee154, Ee155, Ee180, Ee181, Ee182, Ee183, Ee184, Ee185⟩)
              refine U_takeN (i := 0) (d := 70) (v := ?_) rfl rfl rfl (by kernel_rfl) (by kernel_rfl) (by kernel_rfl) (fun _ _ _ h => h) (Or.inl ⟨by rfl, ?_⟩) hH ?_
              rotate_left
              · intro w hSw
                try dsimp only at hSw
                go_simp
                try with_reducible rfl
              simp only [LY]
              refine U_takeN (i := 1) (d := 71) (v := ?_) rfl rfl rfl (by kernel_rfl) (by kernel_rfl) (by kernel_rfl) (fun _ _ _ h => h) (Or.inl ⟨by rfl, ?_⟩) hH ?_
              rotate_left
              · intro w hSw
                try dsimp only at hSw
                go_simp
                try with_reducible rfl
              simp only [LY]
              refine U_takeN (i := 2) (d := 72) (v := ?_) rfl rfl rfl (by kernel_rfl) (by kernel_rfl) (by kernel_rfl) (fun _ _ _ h => h) (Or.inl ⟨by rfl, ?_⟩) hH ?_
              rotate_left
              · intro w hSw
                try dsimp only at hSw
                go_simp
                try with_reducible rfl
              simp only [LY]
              refine U_takeN (i := 3) (d := 73) (v := ?_) rfl rfl rfl (by kernel_rfl) (by kernel_rfl) (by kernel_rfl) (fun _ _ _ h => h) (Or.inl ⟨by rfl, ?_⟩) hH ?_
              rotate_left
              · intro w hSw
                try dsimp only at hSw
                go_simp
                try with_reducible rfl
              simp only [LY]
              refine U_takeN (i := 4) (d := 74) (v := ?_) rfl rfl rfl (by kernel_rfl) (by kernel_rfl) (by kernel_rfl) (fun _ _ _ h => h) (Or.inl ⟨by rfl, ?_⟩) hH ?_
              rotate_left
              · intro w hSw
                try dsimp only at hSw
                go_simp
                try with_reducible rfl
              simp only [LY]
              refine U_takeN (i := 5) (d := 75) (v := ?_) rfl rfl rfl (by kernel_rfl) (by kernel_rfl) (by kernel_rfl) (fun _ _ _ h => h) (Or.inl ⟨by rfl, ?_⟩) hH ?_
              rotate_left
              · intro w hSw
                try dsimp only at hSw
                go_simp
                try with_reducible rfl
              simp only [LY]
              refine U_takeN (i := 6) (d := 76) (v := ?_) rfl rfl rfl (by kernel_rfl) (by kernel_rfl) (by kernel_rfl) (fun _ _ _ h => h) (Or.inl ⟨by rfl, ?_⟩) hH ?_
              rotate_left
              · intro w hSw
                try dsimp only at hSw
                go_simp
                try with_reducible rfl
              simp only [LY]
              clear hH
              refine U_one (i := 7) (by kernel_rfl) rfl (fun K hK => ?_)
              go_simp
              (with_reducible refine (pCmp he15a h10 (SzQ.fit ((HZ.out (k - 1) (by omega)).1)) (SzQ.fit sxq)).mono ?_)
              rintro e w33 ⟨rfl, hb⟩
              replace hs := bStep hs hb
              replace Blat := Blat.mono hb
              replace Blloss := Blloss.mono hb
              replace Blpart := Blpart.mono hb
              replace Blspeed := Blspeed.mono hb
              replace Blls := Blls.mono hb
              replace Blx := Blx.mono hb
              replace Blv := Blv.mono hb
              replace h10 := h10.mono hb
              replace h11 := h11.mono hb
              replace he15a := he15a.mono hb
              replace he15b := he15b.mono hb
              replace he18a := he18a.mono hb
              replace he18b := he18b.mono hb
              replace h9 := rowsSB _ _ _ h9 hb
              replace cx_0 := cellK cx_0 hb
              replace cx_1 := cellK cx_1 hb
              replace cx_2 := cellK cx_2 hb
              replace cv_0 := cellK cv_0 hb
              replace cv_1 := cellK cv_1 hb
              replace cv_2 := cellK cv_2 hb
              replace Ee150 := cellK Ee150 hb
              replace Ee151 := cellK Ee151 hb
              replace Ee152 := cellK Ee152 hb
              replace Ee153 := cellK Ee153 hb
              replace Ee154 := cellK Ee154 hb
              replace Ee155 := cellK Ee155 hb
              replace Ee180 := cellK Ee180 hb
              replace Ee181 := cellK Ee181 hb
              replace Ee182 := cellK Ee182 hb
              replace Ee183 := cellK Ee183 hb
              replace Ee184 := cellK Ee184 hb
              replace Ee185 := cellK Ee185 hb
              clear hb
              rw [← Hsg16.out]
              try go_wp2_with fail
              refine hK.out _ _ ⟨cx_0, cx_1, cx_2, cv_0, cv_1, cv_2, Ee150, Ee151, Ee152, Ee153, Ee154, Ee155, Ee180, Ee181, Ee182, Ee183, Ee184, Ee185⟩ (fun hH => ?_)
              clear hK K
              try simp only [LY]
              refine U_takeN (i := 8) (d := 78) (v := ?_) rfl rfl rfl (by kernel_rfl) (by kernel_rfl) (by kernel_rfl) (fun _ _ _ h => h) (Or.inl ⟨by rfl, ?_⟩) hH ?_
              rotate_left
              · intro w hSw
                try dsimp only at hSw
                go_simp
                try with_reducible rfl
              simp only [LY]
              refine U_takeN (i := 9) (d := 79) (v := ?_) rfl rfl rfl (by kernel_rfl) (by kernel_rfl) (by kernel_rfl) (fun _ _ _ h => h) (Or.inl ⟨by rfl, ?_⟩) hH ?_
              rotate_left
              · intro w hSw
                try dsimp only at hSw
                go_simp
                try with_reducible rfl
              simp only [LY]
              refine U_takeN (i := 10) (d := 80) (v := ?_) rfl rfl rfl (by kernel_rfl) (by kernel_rfl) (by kernel_rfl) (fun _ _ _ h => h) (Or.inl ⟨by rfl, ?_⟩) hH ?_
              rotate_left
              · intro w hSw
                try dsimp only at hSw
                go_simp
                try with_reducible rfl
              simp only [LY]
              refine U_takeN (i := 11) (d := 81) (v := ?_) rfl rfl rfl (by kernel_rfl) (by kernel_rfl) (by kernel_rfl) (fun _ _ _ h => h) (Or.inl ⟨by rfl, ?_⟩) hH ?_
              rotate_left
              · intro w hSw
                try dsimp only at hSw
                go_simp
                try with_reducible rfl
              simp only [LY]
              refine U_takeN (i := 12) (d := 82) (v := ?_) rfl rfl rfl (by kernel_rfl) (by kernel_rfl) (by kernel_rfl) (fun _ _ _ h => h) (Or.inl ⟨by rfl, ?_⟩) hH ?_
              rotate_left
              · intro w hSw
                try dsimp only at hSw
                go_simp
                try with_reducible rfl
              simp only [LY]
              refine U_takeN (i := 13) (d := 83) (v := ?_) rfl rfl rfl (by kernel_rfl) (by kernel_rfl) (by kernel_rfl) (fun _ _ _ h => h) (Or.inl ⟨by rfl, ?_⟩) hH ?_
              rotate_left
              · intro w hSw
                try dsimp only at hSw
                go_simp
                try with_reducible rfl
              simp only [LY]
              refine U_takeN (i := 14) (d := 84) (v := ?_) rfl rfl rfl (by kernel_rfl) (by kernel_rfl) (by kernel_rfl) (fun _ _ _ h => h) (Or.inl ⟨by rfl, ?_⟩) hH ?_
              rotate_left
              · intro w hSw
                try dsimp only at hSw
                go_simp
                try with_reducible rfl
              simp only [LY]
              refine U_takeN (i := 15) (d := 85) (v := ?_) rfl rfl rfl (by kernel_rfl) (by kernel_rfl) (by kernel_rfl) (fun _ _ _ h => h) (Or.inl ⟨by rfl, ?_⟩) hH ?_
              rotate_left
              · intro w hSw
                try dsimp only at hSw
                go_simp
                try with_reducible rfl
              simp only [LY]
              clear hH
              refine U_one (i := 16) (by kernel_rfl) rfl (fun K hK => ?_)
              go_simp
              (with_reducible refine (pCmp h10 he18a (SzQ.fit sxq) (SzQ.fit ((HZ.out k (by omega)).1))).mono ?_)
              rintro e w34 ⟨rfl, hb⟩
              replace hs := bStep hs hb
              replace Blat := Blat.mono hb
              replace Blloss := Blloss.mono hb
              replace Blpart := Blpart.mono hb
              replace Blspeed := Blspeed.mono hb
              replace Blls := Blls.mono hb
              replace Blx := Blx.mono hb
              replace Blv := Blv.mono hb
              replace h10 := h10.mono hb
              replace h11 := h11.mono hb
              replace he15a := he15a.mono hb
              replace he15b := he15b.mono hb
              replace he18a := he18a.mono hb
              replace he18b := he18b.mono hb
              replace h9 := rowsSB _ _ _ h9 hb
              replace cx_0 := cellK cx_0 hb
              replace cx_1 := cellK cx_1 hb
              replace cx_2 := cellK cx_2 hb
              replace cv_0 := cellK cv_0 hb
              replace cv_1 := cellK cv_1 hb
              replace cv_2 := cellK cv_2 hb
              replace Ee150 := cellK Ee150 hb
              replace Ee151 := cellK Ee151 hb
              replace Ee152 := cellK Ee152 hb
              replace Ee153 := cellK Ee153 hb
              replace Ee154 := cellK Ee154 hb
              replace Ee155 := cellK Ee155 hb
              replace Ee180 := cellK Ee180 hb
              replace Ee181 := cellK Ee181 hb
              replace Ee182 := cellK Ee182 hb
              replace Ee183 := cellK Ee183 hb
              replace Ee184 := cellK Ee184 hb
              replace Ee185 := cellK Ee185 hb
              clear hb
              rw [← Hsg19.out]
              try go_wp2_with fail
              refine hK.out _ _ ⟨cx_0, cx_1, cx_2, cv_0, cv_1, cv_2, Ee150, Ee151, Ee152, Ee153, Ee154, Ee155, Ee180, Ee181, Ee182, Ee183, Ee184, Ee185⟩ (fun hH => ?_)
              clear hK K
              try simp only [LY]
              refine U_takeN (i := 17) (d := 87) (v := ?_) rfl rfl rfl (by kernel_rfl) (by kernel_rfl) (by kernel_rfl) (fun _ _ _ h => h) (Or.inl ⟨by rfl, ?_⟩) hH ?_
              rotate_left
              · intro w hSw
                try dsimp only at hSw
                go_simp
                try with_reducible rfl
              simp only [LY]
              refine U_takeN (i := 18) (d := 88) (v := ?_) rfl rfl rfl (by kernel_rfl) (by kernel_rfl) (by kernel_rfl) (fun _ _ _ h => h) (Or.inl ⟨by rfl, ?_⟩) hH ?_
              rotate_left
              · intro w hSw
                try dsimp only at hSw
                go_simp
                try with_reducible rfl
              simp only [LY]
              refine U_takeN (i := 19) (d := 89) (v := ?_) rfl rfl rfl (by kernel_rfl) (by kernel_rfl) (by kernel_rfl) (fun _ _ _ h => h) (Or.inl ⟨by rfl, ?_⟩) hH ?_
              rotate_left
              · intro w hSw
                try dsimp only at hSw
                go_simp
                try with_reducible rfl
              simp only [LY]
              refine U_takeN (i := 20) (d := 90) (v := ?_) rfl rfl rfl (by kernel_rfl) (by kernel_rfl) (by kernel_rfl) (fun _ _ _ h => h) (Or.inl ⟨by rfl, ?_⟩) hH ?_
              rotate_left
              · intro w hSw
                try dsimp only at hSw
                go_simp
                try with_reducible rfl
              simp only [LY]
              refine U_takeN (i := 21) (d := 91) (v := ?_) rfl rfl rfl (by kernel_rfl) (by kernel_rfl) (by kernel_rfl) (fun _ _ _ h => h) (Or.inl ⟨by rfl, ?_⟩) hH ?_
              rotate_left
              · intro w hSw
                try dsimp only at hSw
                go_simp
                try with_reducible rfl
              simp only [LY]
              refine U_takeN (i := 22) (d := 92) (v := ?_) rfl rfl rfl (by kernel_rfl) (by kernel_rfl) (by kernel_rfl) (fun _ _ _ h => h) (Or.inl ⟨by rfl, ?_⟩) hH ?_
              rotate_left
              · intro w hSw
                try dsimp only at hSw
                go_simp
                try with_reducible rfl
              simp only [LY]
              refine U_takeN (i := 23) (d := 93) (v := ?_) rfl rfl rfl (by kernel_rfl) (by kernel_rfl) (by kernel_rfl) (fun _ _ _ h => h) (Or.inl ⟨by rfl, ?_⟩) hH ?_
              rotate_left
              · intro w hSw
                try dsimp only at hSw
                go_simp
                try with_reducible rfl
              simp only [LY]
              refine U_takeN (i := 24) (d := 94) (v := ?_) rfl rfl rfl (by kernel_rfl) (by kernel_rfl) (by kernel_rfl) (fun _ _ _ h => h) (Or.inl ⟨by rfl, ?_⟩) hH ?_
              rotate_left
              · intro w hSw
                try dsimp only at hSw
                go_simp
                try with_reducible rfl
              simp only [LY]
              refine U_takeN (i := 25) (d := 95) (v := ?_) rfl rfl rfl (by kernel_rfl) (by kernel_rfl) (by kernel_rfl) (fun _ _ _ h => h) (Or.inl ⟨by rfl, ?_⟩) hH ?_
              rotate_left
              · intro w hSw
                try dsimp only at hSw
                go_simp
                try with_reducible rfl
              simp only [LY]
              refine U_takeN (i := 27) (d := 97) (v := ?_) rfl rfl rfl (by kernel_rfl) (by kernel_rfl) (by kernel_rfl) (fun _ _ _ h => h) (Or.inl ⟨by rfl, ?_⟩) hH ?_
              rotate_left
              · intro w hSw
                try dsimp only at hSw
                go_simp
                try with_reducible rfl
              simp only [LY]
              refine U_takeN (i := 28) (d := 98) (v := ?_) rfl rfl rfl (by kernel_rfl) (by kernel_rfl) (by kernel_rfl) (fun _ _ _ h => h) (Or.inl ⟨by rfl, ?_⟩) hH ?_
              rotate_left
              · intro w hSw
                try dsimp only at hSw
                go_simp
                try with_reducible rfl
              simp only [LY]
              refine U_takeN (i := 29) (d := 99) (v := ?_) rfl rfl rfl (by kernel_rfl) (by kernel_rfl) (by kernel_rfl) (fun _ _ _ h => h) (Or.inl ⟨by rfl, ?_⟩) hH ?_
              rotate_left
              · intro w hSw
                try dsimp only at hSw
                go_simp
                try with_reducible rfl
              simp only [LY]
              refine U_takeN (i := 30) (d := 100) (v := ?_) rfl rfl rfl (by kernel_rfl) (by kernel_rfl) (by kernel_rfl) (fun _ _ _ h => h) (Or.inl ⟨by rfl, ?_⟩) hH ?_
              rotate_left
              · intro w hSw
                try dsimp only at hSw
                go_simp
                try with_reducible rfl
              simp only [LY]
              refine U_takeN (i := 31) (d := 101) (v := ?_) rfl rfl rfl (by kernel_rfl) (by kernel_rfl) (by kernel_rfl) (fun _ _ _ h => h) (Or.inl ⟨by rfl, ?_⟩) hH ?_
              rotate_left
              · intro w hSw
                try dsimp only at hSw
                go_simp
                try with_reducible rfl
              simp only [LY]
              refine U_takeN (i := 34) (d := 104) (v := ?_) rfl rfl rfl (by kernel_rfl) (by kernel_rfl) (by kernel_rfl) (fun _ _ _ h => h) (Or.inl ⟨by rfl, ?_⟩) hH ?_
              rotate_left
              · intro w hSw
                try dsimp only at hSw
                go_simp
                try with_reducible rfl
              simp only [LY]
              clear hH
              refine U_one (i := 26) (by kernel_rfl) rfl (fun K hK => ?_)
              go_simp
              (with_reducible refine (p_Only _ _ _ he15b).mono ?_)
              rintro e w35 ⟨_, rfl, h21, hb⟩
              obtain ⟨sh21a, ah21a, nh21a, ch21a, Ah21a, Nh21a, Ch21a, sh21b, ah21b, nh21b, ch21b, Ah21b, Nh21b, Ch21b, rfl, h21a, h21b⟩ := h21.shape
              replace hs := bStep hs hb
              replace Blat := Blat.mono hb
              replace Blloss := Blloss.mono hb
              replace Blpart := Blpart.mono hb
              replace Blspeed := Blspeed.mono hb
              replace Blls := Blls.mono hb
              replace Blx := Blx.mono hb
              replace Blv := Blv.mono hb
              replace h10 := h10.mono hb
              replace h11 := h11.mono hb
              replace he15a := he15a.mono hb
              replace he15b := he15b.mono hb
              replace he18a := he18a.mono hb
              replace he18b := he18b.mono hb
              replace h9 := rowsSB _ _ _ h9 hb
              replace cx_0 := cellK cx_0 hb
              replace cx_1 := cellK cx_1 hb
              replace cx_2 := cellK cx_2 hb
              replace cv_0 := cellK cv_0 hb
              replace cv_1 := cellK cv_1 hb
              replace cv_2 := cellK cv_2 hb
              replace Ee150 := cellK Ee150 hb
              replace Ee151 := cellK Ee151 hb
              replace Ee152 := cellK Ee152 hb
              replace Ee153 := cellK Ee153 hb
              replace Ee154 := cellK Ee154 hb
              replace Ee155 := cellK Ee155 hb
              replace Ee180 := cellK Ee180 hb
              replace Ee181 := cellK Ee181 hb
              replace Ee182 := cellK Ee182 hb
              replace Ee183 := cellK Ee183 hb
              replace Ee184 := cellK Ee184 hb
              replace Ee185 := cellK Ee185 hb
              clear hb
              try go_wp2_with fail
              refine hK.out _ _ ⟨cx_0, cx_1, cx_2, cv_0, cv_1, cv_2, Ee150, Ee151, Ee152, Ee153, Ee154, Ee155, Ee180, Ee181, Ee182, Ee183, Ee184, Ee185⟩ (fun hH => ?_)
              clear hK K
              try simp only [LY]
              clear hH
              refine U_one (i := 32) (by kernel_rfl) rfl (fun K hK => ?_)
              go_simp
              (with_reducible refine (p_Only _ _ _ he18b).mono ?_)
              rintro e w36 ⟨_, rfl, h22, hb⟩
              obtain ⟨sh22a, ah22a, nh22a, ch22a, Ah22a, Nh22a, Ch22a, sh22b, ah22b, nh22b, ch22b, Ah22b, Nh22b, Ch22b, rfl, h22a, h22b⟩ := h22.shape
              replace hs := bStep hs hb
              replace Blat := Blat.mono hb
              replace Blloss := Blloss.mono hb
              replace Blpart := Blpart.mono hb
              replace Blspeed := Blspeed.mono hb
              replace Blls := Blls.mono hb
              replace Blx := Blx.mono hb
              replace Blv := Blv.mono hb
              replace h10 := h10.mono hb
              replace h11 := h11.mono hb
              replace he15a := he15a.mono hb
              replace he15b := he15b.mono hb
              replace he18a := he18a.mono hb
              replace he18b := he18b.mono hb
              replace h21a := h21a.mono hb
              replace h21b := h21b.mono hb
              replace h9 := rowsSB _ _ _ h9 hb
              replace cx_0 := cellK cx_0 hb
              replace cx_1 := cellK cx_1 hb
              replace cx_2 := cellK cx_2 hb
              replace cv_0 := cellK cv_0 hb
              replace cv_1 := cellK cv_1 hb
              replace cv_2 := cellK cv_2 hb
              replace Ee150 := cellK Ee150 hb
              replace Ee151 := cellK Ee151 hb
              replace Ee152 := cellK Ee152 hb
              replace Ee153 := cellK Ee153 hb
              replace Ee154 := cellK Ee154 hb
              replace Ee155 := cellK Ee155 hb
              replace Ee180 := cellK Ee180 hb
              replace Ee181 := cellK Ee181 hb
              replace Ee182 := cellK Ee182 hb
              replace Ee183 := cellK Ee183 hb
              replace Ee184 := cellK Ee184 hb
              replace Ee185 := cellK Ee185 hb
              clear hb
              try go_wp2_with fail
              refine hK.out _ _ ⟨cx_0, cx_1, cx_2, cv_0, cv_1, cv_2, Ee150, Ee151, Ee152, Ee153, Ee154, Ee155, Ee180, Ee181, Ee182, Ee183, Ee184, Ee185⟩ (fun hH => ?_)
              clear hK K
              try simp only [LY]
              clear hH
              refine U_one (i := 33) (by kernel_rfl) rfl (fun K hK => ?_)
              go_simp
              (with_reducible refine (p_Hull3 (PV2.mk h21a h21b) (PV2.mk h22a h22b) (SzQ.mid ((HZ.out (k - 1) (by omega)).2)) (SzQ.mid ((HZ.out k (by omega)).2)) rfl rfl).mono ?_)
              rintro e w37 ⟨_, rfl, h23, hb⟩
              obtain ⟨sh23a, ah23a, nh23a, ch23a, Ah23a, Nh23a, Ch23a, sh23b, ah23b, nh23b, ch23b, Ah23b, Nh23b, Ch23b, rfl, h23a, h23b⟩ := h23.shape
              replace hs := bStep hs hb
              replace Blat := Blat.mono hb
              replace Blloss := Blloss.mono hb
              replace Blpart := Blpart.mono hb
              replace Blspeed := Blspeed.mono hb
              replace Blls := Blls.mono hb
              replace Blx := Blx.mono hb
              replace Blv := Blv.mono hb
              replace h10 := h10.mono hb
              replace h11 := h11.mono hb
              replace he15a := he15a.mono hb
              replace he15b := he15b.mono hb
              replace he18a := he18a.mono hb
              replace he18b := he18b.mono hb
              replace h21a := h21a.mono hb
              replace h21b := h21b.mono hb
              replace h22a := h22a.mono hb
              replace h22b := h22b.mono hb
              replace h9 := rowsSB _ _ _ h9 hb
              replace cx_0 := cellK cx_0 hb
              replace cx_1 := cellK cx_1 hb
              replace cx_2 := cellK cx_2 hb
              replace cv_0 := cellK cv_0 hb
              replace cv_1 := cellK cv_1 hb
              replace cv_2 := cellK cv_2 hb
              replace Ee150 := cellK Ee150 hb
              replace Ee151 := cellK Ee151 hb
              replace Ee152 := cellK Ee152 hb
              replace Ee153 := cellK Ee153 hb
              replace Ee154 := cellK Ee154 hb
              replace Ee155 := cellK Ee155 hb
              replace Ee180 := cellK Ee180 hb
              replace Ee181 := cellK Ee181 hb
              replace Ee182 := cellK Ee182 hb
              replace Ee183 := cellK Ee183 hb
              replace Ee184 := cellK Ee184 hb
              replace Ee185 := cellK Ee185 hb
              clear hb
              try go_wp2_with fail
              refine hK.out _ _ ⟨cx_0, cx_1, cx_2, cv_0, cv_1, cv_2, Ee150, Ee151, Ee152, Ee153, Ee154, Ee155, Ee180, Ee181, Ee182, Ee183, Ee184, Ee185⟩ (fun hH => ?_)
              clear hK K
              try simp only [LY]
              clear hH
              refine U_one (i := 35) (by kernel_rfl) rfl (fun K hK => ?_)
              go_simp
              (with_reducible refine (p_Has _ _ _ _ _ _ (PV2.mk h23a h23b) (SzQ.mid (mnQ_sz (SzQ.mid ((HZ.out (k - 1) (by omega)).2)) (SzQ.mid ((HZ.out k (by omega)).2)))) (SzQ.mid (mxQ_sz (SzQ.mid ((HZ.out (k - 1) (by omega)).2)) (SzQ.mid ((HZ.out k (by omega)).2)))) h11 (SzQ.mid svq) rfl).mono ?_)
              rintro e w38 ⟨rfl, hb⟩
              replace hs := bStep hs hb
              replace Blat := Blat.mono hb
              replace Blloss := Blloss.mono hb
              replace Blpart := Blpart.mono hb
              replace Blspeed := Blspeed.mono hb
              replace Blls := Blls.mono hb
              replace Blx := Blx.mono hb
              replace Blv := Blv.mono hb
              replace h10 := h10.mono hb
              replace h11 := h11.mono hb
              replace he15a := he15a.mono hb
              replace he15b := he15b.mono hb
              replace he18a := he18a.mono hb
              replace he18b := he18b.mono hb
              replace h21a := h21a.mono hb
              replace h21b := h21b.mono hb
              replace h22a := h22a.mono hb
              replace h22b := h22b.mono hb
              replace h23a := h23a.mono hb
              replace h23b := h23b.mono hb
              replace h9 := rowsSB _ _ _ h9 hb
              replace cx_0 := cellK cx_0 hb
              replace cx_1 := cellK cx_1 hb
              replace cx_2 := cellK cx_2 hb
              replace cv_0 := cellK cv_0 hb
              replace cv_1 := cellK cv_1 hb
              replace cv_2 := cellK cv_2 hb
              replace Ee150 := cellK Ee150 hb
              replace Ee151 := cellK Ee151 hb
              replace Ee152 := cellK Ee152 hb
              replace Ee153 := cellK Ee153 hb
              replace Ee154 := cellK Ee154 hb
              replace Ee155 := cellK Ee155 hb
              replace Ee180 := cellK Ee180 hb
              replace Ee181 := cellK Ee181 hb
              replace Ee182 := cellK Ee182 hb
              replace Ee183 := cellK Ee183 hb
              replace Ee184 := cellK Ee184 hb
              replace Ee185 := cellK Ee185 hb
              clear hb
              rw [← Hb24.out]
              try go_wp2_with fail
              refine hK.out _ _ ⟨cx_0, cx_1, cx_2, cv_0, cv_1, cv_2, Ee150, Ee151, Ee152, Ee153, Ee154, Ee155, Ee180, Ee181, Ee182, Ee183, Ee184, Ee185⟩ (fun hH => ?_)
              clear hK K
              try simp only [LY]
              refine U_takeN (i := 36) (d := 106) (v := ?_) rfl rfl rfl (by kernel_rfl) (by kernel_rfl) (by kernel_rfl) (fun _ _ _ h => h) (Or.inl ⟨by rfl, ?_⟩) hH ?_
              rotate_left
              · intro w hSw
                try dsimp only at hSw
                go_simp
                try with_reducible rfl
              simp only [LY]
              refine U_takeN (i := 37) (d := 107) (v := ?_) rfl rfl rfl (by kernel_rfl) (by kernel_rfl) (by kernel_rfl) (fun _ _ _ h => h) (Or.inl ⟨by rfl, ?_⟩) hH ?_
              rotate_left
              · intro w hSw
                try dsimp only at hSw
                go_simp
                try with_reducible rfl
              simp only [LY]
              clear hH
              refine U_endN (by kernel_rfl) ?_
              clear cx_0 cx_1 cx_2 cv_0 cv_1 cv_2 Ee150 Ee151 Ee152 Ee153 Ee154 Ee155 Ee180 Ee181 Ee182 Ee183 Ee184 Ee185
              have q25 : mnQ (vaQ T (k - 1)) (vaQ T k) ≤ vq ∧ vq ≤ mxQ (vaQ T (k - 1)) (vaQ T k) := between_has HVQ.out q12H.out k_ge (by omega) q17H.out q20H.out
              obtain rfl : b24 = true := by rw [Hb24.out]; exact decide_eq_true q25
              have q25H := Lib.hid q25
              clear q25
              go_wp2
              go_roundw
              case rel => exact ⟨k + 1, by omega, by omega, by go_num, hs, Blat, Blloss, Blpart, Blspeed, Blls, Blx, Blv, h10, h11, h9⟩
              all_goals first | (simp [intOf]; done) | (simp [intOf]; omega)
            · have q20_ : ¬ (sg19 ≤ 0) := by have h := sq_le xq (taQ T k); rw [← Hsg19.out] at h; exact fun h1 => q20 (h.1 h1)
              have q20H := Lib.hid q20
              clear q20
              have q20d : decide (sg19 ≤ 0) = false := decide_eq_false q20_
              refine U_region (S := fun w' => w'.cell? ⟨w8.heap.size, 0, none⟩ = some (.bool sh10) ∧ w'.cell? ⟨w8.heap.size, 1, none⟩ = some (.slice ah10 nh10 ch10) ∧ w'.cell? ⟨w8.heap.size, 2, none⟩ = some (.slice Ah10 Nh10 Ch10) ∧ w'.cell? ⟨rb, ro + (k - 1) * 6, none⟩ = some (.bool ge15a) ∧ w'.cell? ⟨rb, ro + (k - 1) * 6 + 1, none⟩ = some (.slice ae15a ne15a ce15a) ∧ w'.cell? ⟨rb, ro + (k - 1) * 6 + 2, none⟩ = some (.slice Ae15a Ne15a De15a) ∧ w'.cell? ⟨rb, ro + (k - 1) * 6 + 3, none⟩ = some (.bool ge15b) ∧ w'.cell? ⟨rb, ro + (k - 1) * 6 + 4, none⟩ = some (.slice ae15b ne15b ce15b) ∧ w'.cell? ⟨rb, ro + (k - 1) * 6 + 5, none⟩ = some (.slice Ae15b Ne15b De15b) ∧ w'.cell? ⟨rb, ro + k * 6, none⟩ = some (.bool ge18a) ∧ w'.cell? ⟨rb, ro + k * 6 + 1, none⟩ = some (.slice ae18a ne18a ce18a) ∧ w'.cell? ⟨rb, ro + k * 6 + 2, none⟩ = some (.slice Ae18a Ne18a De18a) ∧ w'.cell? ⟨rb, ro + k * 6 + 3, none⟩ = some (.bool ge18b) ∧ w'.cell? ⟨rb, ro + k * 6 + 4, none⟩ = some (.slice ae18b ne18b ce18b) ∧ w'.cell? ⟨rb, ro + k * 6 + 5, none⟩ = some (.slice Ae18b Ne18b De18b)) (by kernel_rfl) 38 ?_
              refine AnyU.abs ?_
              intro w32 hW
              have hb : Below wr.heap.size wr w32 := by rw [hW]; exact bDrew _
              replace hs := bStep hs hb
              replace Blat := Blat.mono hb
              replace Blloss := Blloss.mono hb
              replace Blpart := Blpart.mono hb
              replace Blspeed := Blspeed.mono hb
              replace Blls := Blls.mono hb
              replace Blx := Blx.mono hb
              replace Blv := Blv.mono hb
              replace h10 := h10.mono hb
              replace h11 := h11.mono hb
              replace he15a := he15a.mono hb
              replace he15b := he15b.mono hb
              replace he18a := he18a.mono hb
              replace he18b := he18b.mono hb
              replace h9 := rowsSB _ _ _ h9 hb
              replace Ee150 := cellK Ee150 hb
              replace Ee151 := cellK Ee151 hb
              replace Ee152 := cellK Ee152 hb
              replace Ee153 := cellK Ee153 hb
              replace Ee154 := cellK Ee154 hb
              replace Ee155 := cellK Ee155 hb
              replace Ee180 := cellK Ee180 hb
              replace Ee181 := cellK Ee181 hb
              replace Ee182 := cellK Ee182 hb
              replace Ee183 := cellK Ee183 hb
              replace Ee184 := cellK Ee184 hb
              replace Ee185 := cellK Ee185 hb
              clear hb hW
              have cx_0 : w32.cell? ⟨w8.heap.size, 0, none⟩ = some (.bool sh10) := Blx.at 0 rfl
              have cx_1 : w32.cell? ⟨w8.heap.size, 1, none⟩ = some (.slice ah10 nh10 ch10) := Blx.at 1 rfl
              have cx_2 : w32.cell? ⟨w8.heap.size, 2, none⟩ = some (.slice Ah10 Nh10 Ch10) := Blx.at 2 rfl
              have hH := (show w32.cell? ⟨w8.heap.size, 0, none⟩ = some (.bool sh10) ∧ w32.cell? ⟨w8.heap.size, 1, none⟩ = some (.slice ah10 nh10 ch10) ∧ w32.cell? ⟨w8.heap.size, 2, none⟩ = some (.slice Ah10 Nh10 Ch10) ∧ w32.cell? ⟨rb, ro + (k - 1) * 6, none⟩ = some (.bool ge15a) ∧ w32.cell? ⟨rb, ro + (k - 1) * 6 + 1, none⟩ = some (.slice ae15a ne15a ce15a) ∧ w32.cell? ⟨rb, ro + (k - 1) * 6 + 2, none⟩ = some (.slice Ae15a Ne15a De15a) ∧ w32.cell? ⟨rb, ro + (k - 1) * 6 + 3, none⟩ = some (.bool ge15b) ∧ w32.cell? ⟨rb, ro + (k - 1) * 6 + 4, none⟩ = some (.slice ae15b ne15b ce15b) ∧ w32.cell? ⟨rb, ro + (k - 1) * 6 + 5, none⟩ = some (.slice Ae15b Ne15b De15b) ∧ w32.cell? ⟨rb, ro + k * 6, none⟩ = some (.bool ge18a) ∧ w32.cell? ⟨rb, ro + k * 6 + 1, none⟩ = some (.slice ae18a ne18a ce18a) ∧ w32.cell? ⟨rb, ro + k * 6 + 2, none⟩ = some (.slice Ae18a Ne18a De18a) ∧ w32.cell? ⟨rb, ro + k * 6 + 3, none⟩ = some (.bool ge18b) ∧ w32.cell? ⟨rb, ro + k * 6 + 4, none⟩ = some (.slice ae18b ne18b ce18b) ∧ w32.cell? ⟨rb, ro + k * 6 + 5, none⟩ = some (.slice Ae18b Ne18b De18b) from ⟨cx_0, cx_1, cx_2, Ee150, Ee151, Ee152, Ee153, Ee154, Ee155, Ee180, Ee181, Ee182, Ee183, Ee184, Ee185⟩)
              refine U_takeN (i := 0) (d := 70) (v := ?_) rfl rfl rfl (by kernel_rfl) (by kernel_rfl) (by kernel_rfl) (fun _ _ _ h => h) (Or.inl ⟨by rfl, ?_⟩) hH ?_
              rotate_left
              · intro w hSw
                try dsimp only at hSw
                go_simp
                try with_reducible rfl
              simp only [LY]
              refine U_takeN (i := 1) (d := 71) (v := ?_) rfl rfl rfl (by kernel_rfl) (by kernel_rfl) (by kernel_rfl) (fun _ _ _ h => h) (Or.inl ⟨by rfl, ?_⟩) hH ?_
              rotate_left
              · intro w hSw
                try dsimp only at hSw
                go_simp
                try with_reducible rfl
              simp only [LY]
              refine U_takeN (i := 2) (d := 72) (v := ?_) rfl rfl rfl (by kernel_rfl) (by kernel_rfl) (by kernel_rfl) (fun _ _ _ h => h) (Or.inl ⟨by rfl, ?_⟩) hH ?_
              rotate_left
              · intro w hSw
                try dsimp only at hSw
                go_simp
                try with_reducible rfl
              simp only [LY]
              refine U_takeN (i := 3) (d := 73) (v := ?_) rfl rfl rfl (by kernel_rfl) (by kernel_rfl) (by kernel_rfl) (fun _ _ _ h => h) (Or.inl ⟨by rfl, ?_⟩) hH ?_
              rotate_left
              · intro w hSw
                try dsimp only at hSw
                go_simp
                try with_reducible rfl
              simp only [LY]
              refine U_takeN (i := 4) (d := 74) (v := ?_) rfl rfl rfl (by kernel_rfl) (by kernel_rfl) (by kernel_rfl) (fun _ _ _ h => h) (Or.inl ⟨by rfl, ?_⟩) hH ?_
              rotate_left
              · intro w hSw
                try dsimp only at hSw
                go_simp
                try with_reducible rfl
              simp only [LY]
              refine U_takeN (i := 5) (d := 75) (v := ?_) rfl rfl rfl (by kernel_rfl) (by kernel_rfl) (by kernel_rfl) (fun _ _ _ h => h) (Or.inl ⟨by rfl, ?_⟩) hH ?_
              rotate_left
              · intro w hSw
                try dsimp only at hSw
                go_simp
                try with_reducible rfl
              simp only [LY]
              refine U_takeN (i := 6) (d := 76) (v := ?_) rfl rfl rfl (by kernel_rfl) (by kernel_rfl) (by kernel_rfl) (fun _ _ _ h => h) (Or.inl ⟨by rfl, ?_⟩) hH ?_
              rotate_left
              · intro w hSw
                try dsimp only at hSw
                go_simp
                try with_reducible rfl
              simp only [LY]
              clear hH
              refine U_one (i := 7) (by kernel_rfl) rfl (fun K hK => ?_)
              go_simp
              (with_reducible refine (pCmp he15a h10 (SzQ.fit ((HZ.out (k - 1) (by omega)).1)) (SzQ.fit sxq)).mono ?_)
              rintro e w33 ⟨rfl, hb⟩
              replace hs := bStep hs hb
              replace Blat := Blat.mono hb
              replace Blloss := Blloss.mono hb
              replace Blpart := Blpart.mono hb
              replace Blspeed := Blspeed.mono hb
              replace Blls := Blls.mono hb
              replace Blx := Blx.mono hb
              replace Blv := Blv.mono hb
              replace h10 := h10.mono hb
              replace h11 := h11.mono hb
              replace he15a := he15a.mono hb
              replace he15b := he15b.mono hb
              replace he18a := he18a.mono hb
              replace he18b := he18b.mono hb
              replace h9 := rowsSB _ _ _ h9 hb
              replace cx_0 := cellK cx_0 hb
              replace cx_1 := cellK cx_1 hb
              replace cx_2 := cellK cx_2 hb
              replace Ee150 := cellK Ee150 hb
              replace Ee151 := cellK Ee151 hb
              replace Ee152 := cellK Ee152 hb
              replace Ee153 := cellK Ee153 hb
              replace Ee154 := cellK Ee154 hb
              replace Ee155 := cellK Ee155 hb
              replace Ee180 := cellK Ee180 hb
              replace Ee181 := cellK Ee181 hb
              replace Ee182 := cellK Ee182 hb
              replace Ee183 := cellK Ee183 hb
              replace Ee184 := cellK Ee184 hb
              replace Ee185 := cellK Ee185 hb
              clear hb
              rw [← Hsg16.out]
              try go_wp2_with fail
              refine hK.out _ _ ⟨cx_0, cx_1, cx_2, Ee150, Ee151, Ee152, Ee153, Ee154, Ee155, Ee180, Ee181, Ee182, Ee183, Ee184, Ee185⟩ (fun hH => ?_)
              clear hK K
              try simp only [LY]
              refine U_takeN (i := 8) (d := 78) (v := ?_) rfl rfl rfl (by kernel_rfl) (by kernel_rfl) (by kernel_rfl) (fun _ _ _ h => h) (Or.inl ⟨by rfl, ?_⟩) hH ?_
              rotate_left
              · intro w hSw
                try dsimp only at hSw
                go_simp
                try with_reducible rfl
              simp only [LY]
              refine U_takeN (i := 9) (d := 79) (v := ?_) rfl rfl rfl (by kernel_rfl) (by kernel_rfl) (by kernel_rfl) (fun _ _ _ h => h) (Or.inl ⟨by rfl, ?_⟩) hH ?_
              rotate_left
              · intro w hSw
                try dsimp only at hSw
                go_simp
                try with_reducible rfl
              simp only [LY]
              refine U_takeN (i := 10) (d := 80) (v := ?_) rfl rfl rfl (by kernel_rfl) (by kernel_rfl) (by kernel_rfl) (fun _ _ _ h => h) (Or.inl ⟨by rfl, ?_⟩) hH ?_
              rotate_left
              · intro w hSw
                try dsimp only at hSw
                go_simp
                try with_reducible rfl
              simp only [LY]
              refine U_takeN (i := 11) (d := 81) (v := ?_) rfl rfl rfl (by kernel_rfl) (by kernel_rfl) (by kernel_rfl) (fun _ _ _ h => h) (Or.inl ⟨by rfl, ?_⟩) hH ?_
              rotate_left
              · intro w hSw
                try dsimp only at hSw
                go_simp
                try with_reducible rfl
              simp only [LY]
              refine U_takeN (i := 12) (d := 82) (v := ?_) rfl rfl rfl (by kernel_rfl) (by kernel_rfl) (by kernel_rfl) (fun _ _ _ h => h) (Or.inl ⟨by rfl, ?_⟩) hH ?_
              rotate_left
              · intro w hSw
                try dsimp only at hSw
                go_simp
                try with_reducible rfl
              simp only [LY]
              refine U_takeN (i := 13) (d := 83) (v := ?_) rfl rfl rfl (by kernel_rfl) (by kernel_rfl) (by kernel_rfl) (fun _ _ _ h => h) (Or.inl ⟨by rfl, ?_⟩) hH ?_
              rotate_left
              · intro w hSw
                try dsimp only at hSw
                go_simp
                try with_reducible rfl
              simp only [LY]
              refine U_takeN (i := 14) (d := 84) (v := ?_) rfl rfl rfl (by kernel_rfl) (by kernel_rfl) (by kernel_rfl) (fun _ _ _ h => h) (Or.inl ⟨by rfl, ?_⟩) hH ?_
              rotate_left
              · intro w hSw
                try dsimp only at hSw
                go_simp
                try with_reducible rfl
              simp only [LY]
              refine U_takeN (i := 15) (d := 85) (v := ?_) rfl rfl rfl (by kernel_rfl) (by kernel_rfl) (by kernel_rfl) (fun _ _ _ h => h) (Or.inl ⟨by rfl, ?_⟩) hH ?_
              rotate_left
              · intro w hSw
                try dsimp only at hSw
                go_simp
                try with_reducible rfl
              simp only [LY]
              clear hH
              refine U_one (i := 16) (by kernel_rfl) rfl (fun K hK => ?_)
              go_simp
              (with_reducible refine (pCmp h10 he18a (SzQ.fit sxq) (SzQ.fit ((HZ.out k (by omega)).1))).mono ?_)
              rintro e w34 ⟨rfl, hb⟩
              replace hs := bStep hs hb
              replace Blat := Blat.mono hb
              replace Blloss := Blloss.mono hb
              replace Blpart := Blpart.mono hb
              replace Blspeed := Blspeed.mono hb
              replace Blls := Blls.mono hb
              replace Blx := Blx.mono hb
              replace Blv := Blv.mono hb
              replace h10 := h10.mono hb
              replace h11 := h11.mono hb
              replace he15a := he15a.mono hb
              replace he15b := he15b.mono hb
              replace he18a := he18a.mono hb
              replace he18b := he18b.mono hb
              replace h9 := rowsSB _ _ _ h9 hb
              replace cx_0 := cellK cx_0 hb
              replace cx_1 := cellK cx_1 hb
              replace cx_2 := cellK cx_2 hb
              replace Ee150 := cellK Ee150 hb
              replace Ee151 := cellK Ee151 hb
              replace Ee152 := cellK Ee152 hb
              replace Ee153 := cellK Ee153 hb
              replace Ee154 := cellK Ee154 hb
              replace Ee155 := cellK Ee155 hb
              replace Ee180 := cellK Ee180 hb
              replace Ee181 := cellK Ee181 hb
              replace Ee182 := cellK Ee182 hb
              replace Ee183 := cellK Ee183 hb
              replace Ee184 := cellK Ee184 hb
              replace Ee185 := cellK Ee185 hb
              clear hb
              rw [← Hsg19.out]
              try go_wp2_with fail
              refine hK.out _ _ ⟨cx_0, cx_1, cx_2, Ee150, Ee151, Ee152, Ee153, Ee154, Ee155, Ee180, Ee181, Ee182, Ee183, Ee184, Ee185⟩ (fun hH => ?_)
              clear hK K
              try simp only [LY]
              refine U_takeN (i := 17) (d := 87) (v := ?_) rfl rfl rfl (by kernel_rfl) (by kernel_rfl) (by kernel_rfl) (fun _ _ _ h => h) (Or.inl ⟨by rfl, ?_⟩) hH ?_
              rotate_left
              · intro w hSw
                try dsimp only at hSw
                go_simp
                try with_reducible rfl
              simp only [LY]
              refine U_takeN (i := 18) (d := 88) (v := ?_) rfl rfl rfl (by kernel_rfl) (by kernel_rfl) (by kernel_rfl) (fun _ _ _ h => h) (Or.inl ⟨by rfl, ?_⟩) hH ?_
              rotate_left
              · intro w hSw
                try dsimp only at hSw
                go_simp
                try with_reducible rfl
              simp only [LY]
              refine U_takeN (i := 19) (d := 89) (v := ?_) rfl rfl rfl (by kernel_rfl) (by kernel_rfl) (by kernel_rfl) (fun _ _ _ h => h) (Or.inl ⟨by rfl, ?_⟩) hH ?_
              rotate_left
              · intro w hSw
                try dsimp only at hSw
                go_simp
                try with_reducible rfl
              simp only [LY]
              refine U_takeN (i := 20) (d := 90) (v := undef) rfl rfl rfl (by kernel_rfl) (by kernel_rfl) (by kernel_rfl) (fun _ _ _ h => h) (Or.inr ⟨by rfl, rfl⟩) hH ?_
              simp only [LY]
              refine U_takeN (i := 21) (d := 91) (v := undef) rfl rfl rfl (by kernel_rfl) (by kernel_rfl) (by kernel_rfl) (fun _ _ _ h => h) (Or.inr ⟨by rfl, rfl⟩) hH ?_
              simp only [LY]
              refine U_takeN (i := 22) (d := 92) (v := undef) rfl rfl rfl (by kernel_rfl) (by kernel_rfl) (by kernel_rfl) (fun _ _ _ h => h) (Or.inr ⟨by rfl, rfl⟩) hH ?_
              simp only [LY]
              refine U_takeN (i := 23) (d := 93) (v := undef) rfl rfl rfl (by kernel_rfl) (by kernel_rfl) (by kernel_rfl) (fun _ _ _ h => h) (Or.inr ⟨by rfl, rfl⟩) hH ?_
              simp only [LY]
              refine U_takeN (i := 24) (d := 94) (v := undef) rfl rfl rfl (by kernel_rfl) (by kernel_rfl) (by kernel_rfl) (fun _ _ _ h => h) (Or.inr ⟨by rfl, rfl⟩) hH ?_
              simp only [LY]
              refine U_takeN (i := 25) (d := 95) (v := undef) rfl rfl rfl (by kernel_rfl) (by kernel_rfl) (by kernel_rfl) (fun _ _ _ h => h) (Or.inr ⟨by rfl, rfl⟩) hH ?_
              simp only [LY]
              refine U_takeN (i := 27) (d := 97) (v := undef) rfl rfl rfl (by kernel_rfl) (by kernel_rfl) (by kernel_rfl) (fun _ _ _ h => h) (Or.inr ⟨by rfl, rfl⟩) hH ?_
              simp only [LY]
              refine U_takeN (i := 28) (d := 98) (v := undef) rfl rfl rfl (by kernel_rfl) (by kernel_rfl) (by kernel_rfl) (fun _ _ _ h => h) (Or.inr ⟨by rfl, rfl⟩) hH ?_
              simp only [LY]
              refine U_takeN (i := 29) (d := 99) (v := undef) rfl rfl rfl (by kernel_rfl) (by kernel_rfl) (by kernel_rfl) (fun _ _ _ h => h) (Or.inr ⟨by rfl, rfl⟩) hH ?_
              simp only [LY]
              refine U_takeN (i := 30) (d := 100) (v := undef) rfl rfl rfl (by kernel_rfl) (by kernel_rfl) (by kernel_rfl) (fun _ _ _ h => h) (Or.inr ⟨by rfl, rfl⟩) hH ?_
              simp only [LY]
              refine U_takeN (i := 31) (d := 101) (v := undef) rfl rfl rfl (by kernel_rfl) (by kernel_rfl) (by kernel_rfl) (fun _ _ _ h => h) (Or.inr ⟨by rfl, rfl⟩) hH ?_
              simp only [LY]
              refine U_takeN (i := 34) (d := 104) (v := undef) rfl rfl rfl (by kernel_rfl) (by kernel_rfl) (by kernel_rfl) (fun _ _ _ h => h) (Or.inr ⟨by rfl, rfl⟩) hH ?_
              simp only [LY]
              clear hH
              refine U_one (i := 26) (by kernel_rfl) rfl (fun K hK => ?_)
              go_simp
              refine hK.out _ _ ⟨cx_0, cx_1, cx_2, Ee150, Ee151, Ee152, Ee153, Ee154, Ee155, Ee180, Ee181, Ee182, Ee183, Ee184, Ee185⟩ (fun hH => ?_)
              clear hK K
              try simp only [LY]
              clear hH
              refine U_one (i := 32) (by kernel_rfl) rfl (fun K hK => ?_)
              go_simp
              refine hK.out _ _ ⟨cx_0, cx_1, cx_2, Ee150, Ee151, Ee152, Ee153, Ee154, Ee155, Ee180, Ee181, Ee182, Ee183, Ee184, Ee185⟩ (fun hH => ?_)
              clear hK K
              try simp only [LY]
              clear hH
              refine U_one (i := 33) (by kernel_rfl) rfl (fun K hK => ?_)
              go_simp
              refine hK.out _ _ ⟨cx_0, cx_1, cx_2, Ee150, Ee151, Ee152, Ee153, Ee154, Ee155, Ee180, Ee181, Ee182, Ee183, Ee184, Ee185⟩ (fun hH => ?_)
              clear hK K
              try simp only [LY]
              clear hH
              refine U_one (i := 35) (by kernel_rfl) rfl (fun K hK => ?_)
              go_simp
              refine hK.out _ _ ⟨cx_0, cx_1, cx_2, Ee150, Ee151, Ee152, Ee153, Ee154, Ee155, Ee180, Ee181, Ee182, Ee183, Ee184, Ee185⟩ (fun hH => ?_)
              clear hK K
              try simp only [LY]
              refine U_takeN (i := 36) (d := 106) (v := undef) rfl rfl rfl (by kernel_rfl) (by kernel_rfl) (by kernel_rfl) (fun _ _ _ h => h) (Or.inr ⟨by rfl, rfl⟩) hH ?_
              simp only [LY]
              refine U_takeN (i := 37) (d := 107) (v := ?_) rfl rfl rfl (by kernel_rfl) (by kernel_rfl) (by kernel_rfl) (fun _ _ _ h => h) (Or.inl ⟨by rfl, ?_⟩) hH ?_
              rotate_left
              · intro w hSw
                try dsimp only at hSw
                go_simp
                try with_reducible rfl
              simp only [LY]
              clear hH
              refine U_endN (by kernel_rfl) ?_
              clear cx_0 cx_1 cx_2 Ee150 Ee151 Ee152 Ee153 Ee154 Ee155 Ee180 Ee181 Ee182 Ee183 Ee184 Ee185
              go_wp2
              go_roundw
              case rel => exact ⟨k + 1, by omega, by omega, by go_num, hs, Blat, Blloss, Blpart, Blspeed, Blls, Blx, Blv, h10, h11, h9⟩
              all_goals first | (simp [intOf]; done) | (simp [intOf]; omega)
          · have q17_ : ¬ (sg16 ≤ 0) := by have h := sq_le (taQ T (k - 1)) xq; rw [← Hsg16.out] at h; exact fun h1 => q17 (h.1 h1)
            have q17H := Lib.hid q17
            clear q17
            have q17d : decide (sg16 ≤ 0) = false := decide_eq_false q17_
            refine U_region (S := fun w' => w'.cell? ⟨w8.heap.size, 0, none⟩ = some (.bool sh10) ∧ w'.cell? ⟨w8.heap.size, 1, none⟩ = some (.slice ah10 nh10 ch10) ∧ w'.cell? ⟨w8.heap.size, 2, none⟩ = some (.slice Ah10 Nh10 Ch10) ∧ w'.cell? ⟨rb, ro + (k - 1) * 6, none⟩ = some (.bool ge15a) ∧ w'.cell? ⟨rb, ro + (k - 1) * 6 + 1, none⟩ = some (.slice ae15a ne15a ce15a) ∧ w'.cell? ⟨rb, ro + (k - 1) * 6 + 2, none⟩ = some (.slice Ae15a Ne15a De15a) ∧ w'.cell? ⟨rb, ro + (k - 1) * 6 + 3, none⟩ = some (.bool ge15b) ∧ w'.cell? ⟨rb, ro + (k - 1) * 6 + 4, none⟩ = some (.slice ae15b ne15b ce15b) ∧ w'.cell? ⟨rb, ro + (k - 1) * 6 + 5, none⟩ = some (.slice Ae15b Ne15b De15b)) (by kernel_rfl) 38 ?_
            refine AnyU.abs ?_
            intro w32 hW
            have hb : Below wr.heap.size wr w32 := by rw [hW]; exact bDrew _
            replace hs := bStep hs hb
            replace Blat := Blat.mono hb
            replace Blloss := Blloss.mono hb
            replace Blpart := Blpart.mono hb
            replace Blspeed := Blspeed.mono hb
            replace Blls := Blls.mono hb
            replace Blx := Blx.mono hb
            replace Blv := Blv.mono hb
            replace h10 := h10.mono hb
            replace h11 := h11.mono hb
            replace he15a := he15a.mono hb
            replace he15b := he15b.mono hb
            replace h9 := rowsSB _ _ _ h9 hb
            replace Ee150 := cellK Ee150 hb
            replace Ee151 := cellK Ee151 hb
            replace Ee152 := cellK Ee152 hb
            replace Ee153 := cellK Ee153 hb
            replace Ee154 := cellK Ee154 hb
            replace Ee155 := cellK Ee155 hb
            clear hb hW
            have cx_0 : w32.cell? ⟨w8.heap.size, 0, none⟩ = some (.bool sh10) := Blx.at 0 rfl
            have cx_1 : w32.cell? ⟨w8.heap.size, 1, none⟩ = some (.slice ah10 nh10 ch10) := Blx.at 1 rfl
            have cx_2 : w32.cell? ⟨w8.heap.size, 2, none⟩ = some (.slice Ah10 Nh10 Ch10) := Blx.at 2 rfl
            have hH := (show w32.cell? ⟨w8.heap.size, 0, none⟩ = some (.bool sh10) ∧ w32.cell? ⟨w8.heap.size, 1, none⟩ = some (.slice ah10 nh10 ch10) ∧ w32.cell? ⟨w8.heap.size, 2, none⟩ = some (.slice Ah10 Nh10 Ch10) ∧ w32.cell? ⟨rb, ro + (k - 1) * 6, none⟩ = some (.bool ge15a) ∧ w32.cell? ⟨rb, ro + (k - 1) * 6 + 1, none⟩ = some (.slice ae15a ne15a ce15a) ∧ w32.cell? ⟨rb, ro + (k - 1) * 6 + 2, none⟩ = some (.slice Ae15a Ne15a De15a) ∧ w32.cell? ⟨rb, ro + (k - 1) * 6 + 3, none⟩ = some (.bool ge15b) ∧ w32.cell? ⟨rb, ro + (k - 1) * 6 + 4, none⟩ = some (.slice ae15b ne15b ce15b) ∧ w32.cell? ⟨rb, ro + (k - 1) * 6 + 5, none⟩ = some (.slice Ae15b Ne15b De15b) from ⟨cx_0, cx_1, cx_2, Ee150, Ee151, Ee152, Ee153, Ee154, Ee155⟩)
            refine U_takeN (i := 0) (d := 70) (v := ?_) rfl rfl rfl (by kernel_rfl) (by kernel_rfl) (by kernel_rfl) (fun _ _ _ h => h) (Or.inl ⟨by rfl, ?_⟩) hH ?_
            rotate_left
            · intro w hSw
              try dsimp only at hSw
              go_simp
              try with_reducible rfl
            simp only [LY]
            refine U_takeN (i := 1) (d := 71) (v := ?_) rfl rfl rfl (by kernel_rfl) (by kernel_rfl) (by kernel_rfl) (fun _ _ _ h => h) (Or.inl ⟨by rfl, ?_⟩) hH ?_
            rotate_left
            · intro w hSw
              try dsimp only at hSw
              go_simp
              try with_reducible rfl
            simp only [LY]
            refine U_takeN (i := 2) (d := 72) (v := ?_) rfl rfl rfl (by kernel_rfl) (by kernel_rfl) (by kernel_rfl) (fun _ _ _ h => h) (Or.inl ⟨by rfl, ?_⟩) hH ?_
            rotate_left
            · intro w hSw
              try dsimp only at hSw
              go_simp
              try with_reducible rfl
            simp only [LY]
            refine U_takeN (i := 3) (d := 73) (v := ?_) rfl rfl rfl (by kernel_rfl) (by kernel_rfl) (by kernel_rfl) (fun _ _ _ h => h) (Or.inl ⟨by rfl, ?_⟩) hH ?_
            rotate_left
            · intro w hSw
              try dsimp only at hSw
              go_simp
              try with_reducible rfl
            simp only [LY]
            refine U_takeN (i := 4) (d := 74) (v := ?_) rfl rfl rfl (by kernel_rfl) (by kernel_rfl) (by kernel_rfl) (fun _ _ _ h => h) (Or.inl ⟨by rfl, ?_⟩) hH ?_
            rotate_left
            · intro w hSw
              try dsimp only at hSw
              go_simp
              try with_reducible rfl
            simp only [LY]
            refine U_takeN (i := 5) (d := 75) (v := ?_) rfl rfl rfl (by kernel_rfl) (by kernel_rfl) (by kernel_rfl) (fun _ _ _ h => h) (Or.inl ⟨by rfl, ?_⟩) hH ?_
            rotate_left
            · intro w hSw
              try dsimp only at hSw
              go_simp
              try with_reducible rfl
            simp only [LY]
            refine U_takeN (i := 6) (d := 76) (v := ?_) rfl rfl rfl (by kernel_rfl) (by kernel_rfl) (by kernel_rfl) (fun _ _ _ h => h) (Or.inl ⟨by rfl, ?_⟩) hH ?_
            rotate_left
            · intro w hSw
              try dsimp only at hSw
              go_simp
              try with_reducible rfl
            simp only [LY]
            clear hH
            refine U_one (i := 7) (by kernel_rfl) rfl (fun K hK => ?_)
            go_simp
            (with_reducible refine (pCmp he15a h10 (SzQ.fit ((HZ.out (k - 1) (by omega)).1)) (SzQ.fit sxq)).mono ?_)
            rintro e w33 ⟨rfl, hb⟩
            replace hs := bStep hs hb
            replace Blat := Blat.mono hb
            replace Blloss := Blloss.mono hb
            replace Blpart := Blpart.mono hb
            replace Blspeed := Blspeed.mono hb
            replace Blls := Blls.mono hb
            replace Blx := Blx.mono hb
            replace Blv := Blv.mono hb
            replace h10 := h10.mono hb
            replace h11 := h11.mono hb
            replace he15a := he15a.mono hb
            replace he15b := he15b.mono hb
            replace h9 := rowsSB _ _ _ h9 hb
            replace cx_0 := cellK cx_0 hb
            replace cx_1 := cellK cx_1 hb
            replace cx_2 := cellK cx_2 hb
            replace Ee150 := cellK Ee150 hb
            replace Ee151 := cellK Ee151 hb
            replace Ee152 := cellK Ee152 hb
            replace Ee153 := cellK Ee153 hb
            replace Ee154 := cellK Ee154 hb
            replace Ee155 := cellK Ee155 hb
            clear hb
            rw [← Hsg16.out]
            try go_wp2_with fail
            refine hK.out _ _ ⟨cx_0, cx_1, cx_2, Ee150, Ee151, Ee152, Ee153, Ee154, Ee155⟩ (fun hH => ?_)
            clear hK K
            try simp only [LY]
            refine U_takeN (i := 8) (d := 78) (v := ?_) rfl rfl rfl (by kernel_rfl) (by kernel_rfl) (by kernel_rfl) (fun _ _ _ h => h) (Or.inl ⟨by rfl, ?_⟩) hH ?_
            rotate_left
            · intro w hSw
              try dsimp only at hSw
              go_simp
              try with_reducible rfl
            simp only [LY]
            refine U_takeN (i := 9) (d := 79) (v := ?_) rfl rfl rfl (by kernel_rfl) (by kernel_rfl) (by kernel_rfl) (fun _ _ _ h => h) (Or.inl ⟨by rfl, ?_⟩) hH ?_
            rotate_left
            · intro w hSw
              try dsimp only at hSw
              go_simp
              try with_reducible rfl
            simp only [LY]
            refine U_takeN (i := 10) (d := 80) (v := undef) rfl rfl rfl (by kernel_rfl) (by kernel_rfl) (by kernel_rfl) (fun _ _ _ h => h) (Or.inr ⟨by rfl, rfl⟩) hH ?_
            simp only [LY]
            refine U_takeN (i := 11) (d := 81) (v := undef) rfl rfl rfl (by kernel_rfl) (by kernel_rfl) (by kernel_rfl) (fun _ _ _ h => h) (Or.inr ⟨by rfl, rfl⟩) hH ?_
            simp only [LY]
            refine U_takeN (i := 12) (d := 82) (v := undef) rfl rfl rfl (by kernel_rfl) (by kernel_rfl) (by kernel_rfl) (fun _ _ _ h => h) (Or.inr ⟨by rfl, rfl⟩) hH ?_
            simp only [LY]
            refine U_takeN (i := 13) (d := 83) (v := undef) rfl rfl rfl (by kernel_rfl) (by kernel_rfl) (by kernel_rfl) (fun _ _ _ h => h) (Or.inr ⟨by rfl, rfl⟩) hH ?_
            simp only [LY]
            refine U_takeN (i := 14) (d := 84) (v := undef) rfl rfl rfl (by kernel_rfl) (by kernel_rfl) (by kernel_rfl) (fun _ _ _ h => h) (Or.inr ⟨by rfl, rfl⟩) hH ?_
            simp only [LY]
            refine U_takeN (i := 15) (d := 85) (v := undef) rfl rfl rfl (by kernel_rfl) (by kernel_rfl) (by kernel_rfl) (fun _ _ _ h => h) (Or.inr ⟨by rfl, rfl⟩) hH ?_
            simp only [LY]
            clear hH
            refine U_one (i := 16) (by kernel_rfl) rfl (fun K hK => ?_)
            go_simp
            refine hK.out _ _ ⟨cx_0, cx_1, cx_2, Ee150, Ee151, Ee152, Ee153, Ee154, Ee155⟩ (fun hH => ?_)
            clear hK K
            try simp only [LY]
            refine U_takeN (i := 17) (d := 87) (v := undef) rfl rfl rfl (by kernel_rfl) (by kernel_rfl) (by kernel_rfl) (fun _ _ _ h => h) (Or.inr ⟨by rfl, rfl⟩) hH ?_
            simp only [LY]
            refine U_takeN (i := 18) (d := 88) (v := ?_) rfl rfl rfl (by kernel_rfl) (by kernel_rfl) (by kernel_rfl) (fun _ _ _ h => h) (Or.inl ⟨by rfl, ?_⟩) hH ?_
            rotate_left
            · intro w hSw
              try dsimp only at hSw
              go_simp
              try with_reducible rfl
            simp only [LY]
            refine U_takeN (i := 19) (d := 89) (v := ?_) rfl rfl rfl (by kernel_rfl) (by kernel_rfl) (by kernel_rfl) (fun _ _ _ h => h) (Or.inl ⟨by rfl, ?_⟩) hH ?_
            rotate_left
            · intro w hSw
              try dsimp only at hSw
              go_simp
              try with_reducible rfl
            simp only [LY]
            refine U_takeN (i := 20) (d := 90) (v := undef) rfl rfl rfl (by kernel_rfl) (by kernel_rfl) (by kernel_rfl) (fun _ _ _ h => h) (Or.inr ⟨by rfl, rfl⟩) hH ?_
            simp only [LY]
            refine U_takeN (i := 21) (d := 91) (v := undef) rfl rfl rfl (by kernel_rfl) (by kernel_rfl) (by kernel_rfl) (fun _ _ _ h => h) (Or.inr ⟨by rfl, rfl⟩) hH ?_
            simp only [LY]
            refine U_takeN (i := 22) (d := 92) (v := undef) rfl rfl rfl (by kernel_rfl) (by kernel_rfl) (by kernel_rfl) (fun _ _ _ h => h) (Or.inr ⟨by rfl, rfl⟩) hH ?_
            simp only [LY]
            refine U_takeN (i := 23) (d := 93) (v := undef) rfl rfl rfl (by kernel_rfl) (by kernel_rfl) (by kernel_rfl) (fun _ _ _ h => h) (Or.inr ⟨by rfl, rfl⟩) hH ?_
            simp only [LY]
            refine U_takeN (i := 24) (d := 94) (v := undef) rfl rfl rfl (by kernel_rfl) (by kernel_rfl) (by kernel_rfl) (fun _ _ _ h => h) (Or.inr ⟨by rfl, rfl⟩) hH ?_
            simp only [LY]
            refine U_takeN (i := 25) (d := 95) (v := undef) rfl rfl rfl (by kernel_rfl) (by kernel_rfl) (by kernel_rfl) (fun _ _ _ h => h) (Or.inr ⟨by rfl, rfl⟩) hH ?_
            simp only [LY]
            refine U_takeN (i := 27) (d := 97) (v := undef) rfl rfl rfl (by kernel_rfl) (by kernel_rfl) (by kernel_rfl) (fun _ _ _ h => h) (Or.inr ⟨by rfl, rfl⟩) hH ?_
            simp only [LY]
            refine U_takeN (i := 28) (d := 98) (v := undef) rfl rfl rfl (by kernel_rfl) (by kernel_rfl) (by kernel_rfl) (fun _ _ _ h => h) (Or.inr ⟨by rfl, rfl⟩) hH ?_
            simp only [LY]
            refine U_takeN (i := 29) (d := 99) (v := undef) rfl rfl rfl (by kernel_rfl) (by kernel_rfl) (by kernel_rfl) (fun _ _ _ h => h) (Or.inr ⟨by rfl, rfl⟩) hH ?_
            simp only [LY]
            refine U_takeN (i := 30) (d := 100) (v := undef) rfl rfl rfl (by kernel_rfl) (by kernel_rfl) (by kernel_rfl) (fun _ _ _ h => h) (Or.inr ⟨by rfl, rfl⟩) hH ?_
            simp only [LY]
            refine U_takeN (i := 31) (d := 101) (v := undef) rfl rfl rfl (by kernel_rfl) (by kernel_rfl) (by kernel_rfl) (fun _ _ _ h => h) (Or.inr ⟨by rfl, rfl⟩) hH ?_
            simp only [LY]
            refine U_takeN (i := 34) (d := 104) (v := undef) rfl rfl rfl (by kernel_rfl) (by kernel_rfl) (by kernel_rfl) (fun _ _ _ h => h) (Or.inr ⟨by rfl, rfl⟩) hH ?_
            simp only [LY]
            clear hH
            refine U_one (i := 26) (by kernel_rfl) rfl (fun K hK => ?_)
            go_simp
            refine hK.out _ _ ⟨cx_0, cx_1, cx_2, Ee150, Ee151, Ee152, Ee153, Ee154, Ee155⟩ (fun hH => ?_)
            clear hK K
            try simp only [LY]
            clear hH
            refine U_one (i := 32) (by kernel_rfl) rfl (fun K hK => ?_)
            go_simp
            refine hK.out _ _ ⟨cx_0, cx_1, cx_2, Ee150, Ee151, Ee152, Ee153, Ee154, Ee155⟩ (fun hH => ?_)
            clear hK K
            try simp only [LY]
            clear hH
            refine U_one (i := 33) (by kernel_rfl) rfl (fun K hK => ?_)
            go_simp
            refine hK.out _ _ ⟨cx_0, cx_1, cx_2, Ee150, Ee151, Ee152, Ee153, Ee154, Ee155⟩ (fun hH => ?_)
            clear hK K
            try simp only [LY]
            clear hH
            refine U_one (i := 35) (by kernel_rfl) rfl (fun K hK => ?_)
            go_simp
            refine hK.out _ _ ⟨cx_0, cx_1, cx_2, Ee150, Ee151, Ee152, Ee153, Ee154, Ee155⟩ (fun hH => ?_)
            clear hK K
            try simp only [LY]
            refine U_takeN (i := 36) (d := 106) (v := undef) rfl rfl rfl (by kernel_rfl) (by kernel_rfl) (by kernel_rfl) (fun _ _ _ h => h) (Or.inr ⟨by rfl, rfl⟩) hH ?_
            simp only [LY]
            refine U_takeN (i := 37) (d := 107) (v := ?_) rfl rfl rfl (by kernel_rfl) (by kernel_rfl) (by kernel_rfl) (fun _ _ _ h => h) (Or.inl ⟨by rfl, ?_⟩) hH ?_
            rotate_left
            · intro w hSw
              try dsimp only at hSw
              go_simp
              try with_reducible rfl
            simp only [LY]
            clear hH
            refine U_endN (by kernel_rfl) ?_
            clear cx_0 cx_1 cx_2 Ee150 Ee151 Ee152 Ee153 Ee154 Ee155
            go_wp2
            go_roundw
            case rel => exact ⟨k + 1, by omega, by omega, by go_num, hs, Blat, Blloss, Blpart, Blspeed, Blls, Blx, Blv, h10, h11, h9⟩
            all_goals first | (simp [intOf]; done) | (simp [intOf]; omega)
        · have q13d : ((k : Int) < (T.length : Int)) = False := eq_false (by omega)
          go_wp2_with fail
          go_meet
          exact ⟨hs, Blat, Blloss, Blpart, Blspeed, Blls, Blx, Blv, h10, h11, h9⟩
    · have q12b : (vc == 0) = false := by simp; omega
      have q12n : (vc != 0) = true := by simp; omega
      have q12H := Lib.hid q12
      clear q12
      try simp only [q12b, q12n]
      go_wp2_with fail
      go_meet
      exact ⟨hs, Blat, Blloss, Blpart, Blspeed, Blls, Blx, Blv, h10, h11, h9⟩
  case rest =>
    clear hs Blat Blloss Blpart Blspeed Blls Blx Blv h10 h11 h9
    obtain ⟨hs, Blat, Blloss, Blpart, Blspeed, Blls, Blx, Blv, h10, h11, h9⟩ := hcut
    have closs_0 : wc.cell? ⟨w.heap.size + 1, 0, none⟩ = some (.int .i64 n3) := Blloss.at 0 rfl
    have closs_1 : wc.cell? ⟨w.heap.size + 1, 1, none⟩ = some (.int .i64 d3) := Blloss.at 1 rfl
    have closs_2 : wc.cell? ⟨w.heap.size + 1, 2, none⟩ = some (.int .i64 n4) := Blloss.at 2 rfl
    have closs_3 : wc.cell? ⟨w.heap.size + 1, 3, none⟩ = some (.int .i64 d4) := Blloss.at 3 rfl
    have Lloss : w.heap.size + 1 < wc.heap.size := Blloss.lt
    go_wp2_with fail
    clear closs_0 closs_1 closs_2 closs_3 Lloss
    with_reducible refine (l7_span_ _ HS3.out HO3.out HO4.out HLO3.out HHI3.out).mono ?_
    rintro e w12 ⟨_, _, rfl, h12, h13, hb⟩
    obtain ⟨sh12a, ah12a, nh12a, ch12a, Ah12a, Nh12a, Ch12a, sh12b, ah12b, nh12b, ch12b, Ah12b, Nh12b, Ch12b, rfl, h12a, h12b⟩ := h12.shape
    obtain ⟨sh13a, ah13a, nh13a, ch13a, Ah13a, Nh13a, Ch13a, sh13b, ah13b, nh13b, ch13b, Ah13b, Nh13b, Ch13b, rfl, h13a, h13b⟩ := h13.shape
    replace hs := bStep hs hb
    replace Blat := Blat.mono hb
    replace Blloss := Blloss.mono hb
    replace Blpart := Blpart.mono hb
    replace Blspeed := Blspeed.mono hb
    replace Blls := Blls.mono hb
    replace Blx := Blx.mono hb
    replace Blv := Blv.mono hb
    replace h10 := h10.mono hb
    replace h11 := h11.mono hb
    replace h9 := rowsSB _ _ _ h9 hb
    clear hb
    go_upto_region 14 with fail
    refine Code.abs ?_
    intro w13 hW
    have hG : Gr [] w12 w13 := by rw [hW]; exact (Gr.refl _ _).alloc.alloc
    have hbw : Below w.heap.size w12 w13 := hG.below0 hs.size
    have hk : KeepD w12 w13 := hG.keep True.intro
    have sz_w13 : w.heap.size ≤ w12.heap.size := hs.size
    have nat_w13 : w.heap.size < w12.heap.size := Blat.lt
    have nloss_w13 : w.heap.size + 1 < w12.heap.size := Blloss.lt
    have npart_w13 : w.heap.size + 1 + 1 < w12.heap.size := Blpart.lt
    have nspeed_w13 : w.heap.size + 1 + 1 + 1 < w12.heap.size := Blspeed.lt
    have nls_w13 : w2.heap.size < w12.heap.size := Blls.lt
    have nx_w13 : w8.heap.size < w12.heap.size := Blx.lt
    have nv_w13 : w10.heap.size < w12.heap.size := Blv.lt
    have Blwide : Bx w13 (w12.heap.size) 86 #[.bool sh12a, .slice ah12a nh12a ch12a, .slice Ah12a Nh12a Ch12a, .bool sh12b, .slice ah12b nh12b ch12b, .slice Ah12b Nh12b Ch12b] := by rw [hW]; exact ((Bx.new0 _ _ _).alloc _)
    have Blk : Bx w13 (w12.heap.size + 1) 88 #[.bool sh13a, .slice ah13a nh13a ch13a, .slice Ah13a Nh13a Ch13a, .bool sh13b, .slice ah13b nh13b ch13b, .slice Ah13b Nh13b Ch13b] := by rw [hW]; exact (Bx.new0 _ _ _)
    replace hs := hs.trans hbw
    replace h9 := rowsSB _ _ _ h9 (hG.below0 (Nat.le_refl _))
    replace Blat := hG.bx Blat notMem0
    replace Blloss := hG.bx Blloss notMem0
    replace Blpart := hG.bx Blpart notMem0
    replace Blspeed := hG.bx Blspeed notMem0
    replace Blls := hG.bx Blls notMem0
    replace Blx := hG.bx Blx notMem0
    replace Blv := hG.bx Blv notMem0
    replace h10 := h10.keep hk
    replace h11 := h11.keep hk
    replace h12a := h12a.keep hk
    replace h12b := h12b.keep hk
    replace h13a := h13a.keep hk
    replace h13b := h13b.keep hk
    clear hW hG hk hbw
    have hz_w13 : w12.heap.size + 1 < w13.heap.size := Blk.lt
    go_cut [20] (fun kv0 wz => ∃ gnarrow sh18a ah18a nh18a ch18a Ah18a Nh18a Ch18a sh18b ah18b nh18b ch18b Ah18b Nh18b Ch18b, kv0 = .pointer (some ⟨gnarrow, 0, none⟩) ∧ w.heap.size ≤ gnarrow ∧ gnarrow ≠ w.heap.size ∧ gnarrow ≠ (w.heap.size + 1) ∧ gnarrow ≠ (w.heap.size + 1 + 1) ∧ gnarrow ≠ (w.heap.size + 1 + 1 + 1) ∧ gnarrow ≠ w2.heap.size ∧ gnarrow ≠ w8.heap.size ∧ gnarrow ≠ w10.heap.size ∧ gnarrow ≠ w12.heap.size ∧ gnarrow ≠ (w12.heap.size + 1) ∧ Bx wz gnarrow 86 #[.bool sh18a, .slice ah18a nh18a ch18a, .slice Ah18a Nh18a Ch18a, .bool sh18b, .slice ah18b nh18b ch18b, .slice Ah18b Nh18b Ch18b] ∧ Below w.heap.size w wz ∧ Bx wz (w.heap.size) 82 #[.int .i64 n1, .int .i64 d1] ∧ Bx wz (w.heap.size + 1) 83 #[.int .i64 n3, .int .i64 d3, .int .i64 n4, .int .i64 d4] ∧ Bx wz (w.heap.size + 1 + 1) 104 #[.int .u8 b0, .int .u8 b1] ∧ Bx wz (w.heap.size + 1 + 1 + 1) 83 #[.int .i64 n5, .int .i64 d5, .int .i64 n6, .int .i64 d6] ∧ Bx wz (w2.heap.size) 82 #[.int .i64 n1, .int .i64 d1] ∧ Bx wz (w8.heap.size) 40 #[.bool sh10, .slice ah10 nh10 ch10, .slice Ah10 Nh10 Ch10] ∧ Bx wz (w10.heap.size) 40 #[.bool sh11, .slice ah11 nh11 ch11, .slice Ah11 Nh11 Ch11] ∧ Bx wz (w12.heap.size) 86 #[.bool sh12a, .slice ah12a nh12a ch12a, .slice Ah12a Nh12a Ch12a, .bool sh12b, .slice ah12b nh12b ch12b, .slice Ah12b Nh12b Ch12b] ∧ Bx wz (w12.heap.size + 1) 88 #[.bool sh13a, .slice ah13a nh13a ch13a, .slice Ah13a Nh13a Ch13a, .bool sh13b, .slice ah13b nh13b ch13b, .slice Ah13b Nh13b Ch13b] ∧ PV wz (.agg #[.bool sh10, .slice ah10 nh10 ch10, .slice Ah10 Nh10 Ch10]) (xq) ∧ PV wz (.agg #[.bool sh11, .slice ah11 nh11 ch11, .slice Ah11 Nh11 Ch11]) (vq) ∧ PV wz (.agg #[.bool sh12a, .slice ah12a nh12a ch12a, .slice Ah12a Nh12a Ch12a]) (lo3) ∧ PV wz (.agg #[.bool sh12b, .slice ah12b nh12b ch12b, .slice Ah12b Nh12b Ch12b]) (hi3) ∧ RV wz (.agg #[.bool sh13a, .slice ah13a nh13a ch13a, .slice Ah13a Nh13a Ch13a]) (lo3) ∧ RV wz (.agg #[.bool sh13b, .slice ah13b nh13b ch13b, .slice Ah13b Nh13b Ch13b]) (hi3) ∧ PV wz (.agg #[.bool sh18a, .slice ah18a nh18a ch18a, .slice Ah18a Nh18a Ch18a]) (nl) ∧ PV wz (.agg #[.bool sh18b, .slice ah18b nh18b ch18b, .slice Ah18b Nh18b Ch18b]) (nh) ∧ Rows 6 113 (C2 PC) wz (.slice ah9 T.length kh9) T)
    case first => as_aux_lemma =>
      refine U_region (S := fun w' => w'.cell? ⟨w.heap.size + 1 + 1, 0, none⟩ = some (.int .u8 b0) ∧ w'.cell? ⟨w.heap.size + 1 + 1, 1, none⟩ = some (.int .u8 b1)) (by kernel_rfl) 12 ?_
      refine AnyU.abs ?_
      intro w14 hW
      have hb : Below w13.heap.size w13 w14 := by rw [hW]; exact bDrew _
      replace hs := bStep hs hb
      replace Blat := Blat.mono hb
      replace Blloss := Blloss.mono hb
      replace Blpart := Blpart.mono hb
      replace Blspeed := Blspeed.mono hb
      replace Blls := Blls.mono hb
      replace Blx := Blx.mono hb
      replace Blv := Blv.mono hb
      replace Blwide := Blwide.mono hb
      replace Blk := Blk.mono hb
      replace h10 := h10.mono hb
      replace h11 := h11.mono hb
      replace h12a := h12a.mono hb
      replace h12b := h12b.mono hb
      replace h13a := h13a.mono hb
      replace h13b := h13b.mono hb
      replace h9 := rowsSB _ _ _ h9 hb
      clear hb hW
      obtain ⟨FP, HP⟩ : ∃ FP : World → Prop, ∀ W, FP W ↔ (Below w.heap.size w W ∧ Bx W (w.heap.size) 82 #[.int .i64 n1, .int .i64 d1] ∧ Bx W (w.heap.size + 1) 83 #[.int .i64 n3, .int .i64 d3, .int .i64 n4, .int .i64 d4] ∧ Bx W (w.heap.size + 1 + 1) 104 #[.int .u8 b0, .int .u8 b1] ∧ Bx W (w.heap.size + 1 + 1 + 1) 83 #[.int .i64 n5, .int .i64 d5, .int .i64 n6, .int .i64 d6] ∧ Bx W (w2.heap.size) 82 #[.int .i64 n1, .int .i64 d1] ∧ Bx W (w8.heap.size) 40 #[.bool sh10, .slice ah10 nh10 ch10, .slice Ah10 Nh10 Ch10] ∧ Bx W (w10.heap.size) 40 #[.bool sh11, .slice ah11 nh11 ch11, .slice Ah11 Nh11 Ch11] ∧ Bx W (w12.heap.size) 86 #[.bool sh12a, .slice ah12a nh12a ch12a, .slice Ah12a Nh12a Ch12a, .bool sh12b, .slice ah12b nh12b ch12b, .slice Ah12b Nh12b Ch12b] ∧ Bx W (w12.heap.size + 1) 88 #[.bool sh13a, .slice ah13a nh13a ch13a, .slice Ah13a Nh13a Ch13a, .bool sh13b, .slice ah13b nh13b ch13b, .slice Ah13b Nh13b Ch13b] ∧ PV W (.agg #[.bool sh10, .slice ah10 nh10 ch10, .slice Ah10 Nh10 Ch10]) (xq) ∧ PV W (.agg #[.bool sh11, .slice ah11 nh11 ch11, .slice Ah11 Nh11 Ch11]) (vq) ∧ PV W (.agg #[.bool sh12a, .slice ah12a nh12a ch12a, .slice Ah12a Nh12a Ch12a]) (lo3) ∧ PV W (.agg #[.bool sh12b, .slice ah12b nh12b ch12b, .slice Ah12b Nh12b Ch12b]) (hi3) ∧ RV W (.agg #[.bool sh13a, .slice ah13a nh13a ch13a, .slice Ah13a Nh13a Ch13a]) (lo3) ∧ RV W (.agg #[.bool sh13b, .slice ah13b nh13b ch13b, .slice Ah13b Nh13b Ch13b]) (hi3) ∧ (Rows 6 113 (C2 PC) W (.slice ah9 T.length kh9) T)) := ⟨_, fun _ => Iff.rfl⟩
      have HM : ∀ W W', FP W → Below W.heap.size W W' → FP W' := by intro W W' h hb; obtain ⟨hs, Blat, Blloss, Blpart, Blspeed, Blls, Blx, Blv, Blwide, Blk, h10, h11, h12a, h12b, h13a, h13b, h9⟩ := (HP _).1 h; exact (HP _).2 ⟨bStep hs hb, Blat.mono hb, Blloss.mono hb, Blpart.mono hb, Blspeed.mono hb, Blls.mono hb, Blx.mono hb, Blv.mono hb, Blwide.mono hb, Blk.mono hb, h10.mono hb, h11.mono hb, h12a.mono hb, h12b.mono hb, h13a.mono hb, h13b.mono hb, rowsSB _ _ _ h9 hb⟩
      have HC : ∀ W, FP W → W.cell? ⟨w.heap.size + 1 + 1, 0, none⟩ = some (.int .u8 b0) ∧ W.cell? ⟨w.heap.size + 1 + 1, 1, none⟩ = some (.int .u8 b1) := by intro W h; obtain ⟨hs, Blat, Blloss, Blpart, Blspeed, Blls, Blx, Blv, Blwide, Blk, h10, h11, h12a, h12b, h13a, h13b, h9⟩ := (HP _).1 h; exact ⟨Blpart.at 0 rfl, Blpart.at 1 rfl⟩
      obtain ⟨NE, HN⟩ : ∃ NE : Nat → Prop, ∀ g, NE g ↔ (w.heap.size ≠ g ∧ (w.heap.size + 1) ≠ g ∧ (w.heap.size + 1 + 1) ≠ g ∧ (w.heap.size + 1 + 1 + 1) ≠ g ∧ w2.heap.size ≠ g ∧ w8.heap.size ≠ g ∧ w10.heap.size ≠ g ∧ w12.heap.size ≠ g ∧ (w12.heap.size + 1) ≠ g) := ⟨_, fun _ => Iff.rfl⟩
      have HE : ∀ W, FP W → NE W.heap.size := by intro W h; obtain ⟨hs, Blat, Blloss, Blpart, Blspeed, Blls, Blx, Blv, Blwide, Blk, h10, h11, h12a, h12b, h13a, h13b, h9⟩ := (HP _).1 h; exact (HN _).2 ⟨Nat.ne_of_lt Blat.lt, Nat.ne_of_lt Blloss.lt, Nat.ne_of_lt Blpart.lt, Nat.ne_of_lt Blspeed.lt, Nat.ne_of_lt Blls.lt, Nat.ne_of_lt Blx.lt, Nat.ne_of_lt Blv.lt, Nat.ne_of_lt Blwide.lt, Nat.ne_of_lt Blk.lt⟩
      have HG : ∀ W W' g, FP W → Gr [g] W W' → KeepD W W' → w.heap.size ≤ g → NE g → TyB 86 W g → FP W' := by intro W W' g h hG hk hg hn hT; obtain ⟨hs, Blat, Blloss, Blpart, Blspeed, Blls, Blx, Blv, Blwide, Blk, h10, h11, h12a, h12b, h13a, h13b, h9⟩ := (HP _).1 h; obtain ⟨e_at, e_loss, e_part, e_speed, e_ls, e_x, e_v, e_wide, e_k⟩ := (HN g).1 hn; exact (HP _).2 ⟨hs.trans (hG.below1 hs.size hg), hG.bx Blat (notMem1 e_at), hG.bx Blloss (notMem1 e_loss), hG.bx Blpart (notMem1 e_part), hG.bx Blspeed (notMem1 e_speed), hG.bx Blls (notMem1 e_ls), hG.bx Blx (notMem1 e_x), hG.bx Blv (notMem1 e_v), hG.bx Blwide (notMem1 e_wide), hG.bx Blk (notMem1 e_k), h10.keep hk, h11.keep hk, h12a.keep hk, h12b.keep hk, h13a.keep hk, h13b.keep hk, h9.onlyT (C2.kept PC.kept) (hG.onlyT (by intro g' hg'; simp only [List.mem_cons, List.mem_nil_iff, or_false] at hg'; subst hg'; exact hT)) (by decide) (by decide)⟩
      have F : FP w14 := (HP _).2 ⟨hs, Blat, Blloss, Blpart, Blspeed, Blls, Blx, Blv, Blwide, Blk, h10, h11, h12a, h12b, h13a, h13b, h9⟩
      clear hs Blat Blloss Blpart Blspeed Blls Blx Blv Blwide Blk h10 h11 h12a h12b h13a h13b h9
      have hH := HC _ F
      refine U_takeD (i := 0) (d := 114) (v := ?_) rfl rfl (by kernel_rfl) (by kernel_rfl) (by kernel_rfl) (by kernel_rfl) (fun _ _ _ h => h) (Or.inl ⟨by rfl, ?_⟩) hH ?_
      rotate_left
      · intro w hSw
        try dsimp only at hSw
        go_simp
        try with_reducible rfl
      simp only [LY]
      refine U_takeD (i := 1) (d := 115) (v := ?_) rfl rfl (by kernel_rfl) (by kernel_rfl) (by kernel_rfl) (by kernel_rfl) (fun _ _ _ h => h) (Or.inl ⟨by rfl, ?_⟩) hH ?_
      rotate_left
      · intro w hSw
        try dsimp only at hSw
        go_simp
        try with_reducible rfl
      simp only [LY]
      refine U_takeD (i := 2) (d := 116) (v := ?_) rfl rfl (by kernel_rfl) (by kernel_rfl) (by kernel_rfl) (by kernel_rfl) (fun _ _ _ h => h) (Or.inl ⟨by rfl, ?_⟩) hH ?_
      rotate_left
      · intro w hSw
        try dsimp only at hSw
        go_simp
        try with_reducible rfl
      simp only [LY]
      refine U_takeD (i := 5) (d := 119) (v := ?_) rfl rfl (by kernel_rfl) (by kernel_rfl) (by kernel_rfl) (by kernel_rfl) (fun _ _ _ h => h) (Or.inl ⟨by rfl, ?_⟩) hH ?_
      rotate_left
      · intro w hSw
        try dsimp only at hSw
        go_simp
        try with_reducible rfl
      simp only [LY]
      refine U_takeD (i := 6) (d := 120) (v := ?_) rfl rfl (by kernel_rfl) (by kernel_rfl) (by kernel_rfl) (by kernel_rfl) (fun _ _ _ h => h) (Or.inl ⟨by rfl, ?_⟩) hH ?_
      rotate_left
      · intro w hSw
        try dsimp only at hSw
        go_simp
        try with_reducible rfl
      simp only [LY]
      refine U_takeD (i := 7) (d := 121) (v := ?_) rfl rfl (by kernel_rfl) (by kernel_rfl) (by kernel_rfl) (by kernel_rfl) (fun _ _ _ h => h) (Or.inl ⟨by rfl, ?_⟩) hH ?_
      rotate_left
      · intro w hSw
        try dsimp only at hSw
        go_simp
        try with_reducible rfl
      simp only [LY]
      clear hH
      refine U_letters ?_
      intro X a0 HX HA
      have key11 : ∀ (W : World) (g_narrow : Nat) (uh14 : Value) (uh15 : Value) (uh16 : Value) (uh17 : Value) (uh18 : Value), FP W → (w.heap.size ≤ g_narrow) → (NE g_narrow) → (Bx W g_narrow 86 #[.bool false, .slice none 0 0, .slice none 0 0, .bool false, .slice none 0 0, .slice none 0 0]) → (PV2 W uh18 (nl) (nh)) → X 1 #[true, true, true, true, true, true, true, true, true, true, true, true, false] ((((((a0.put (some 117) (uh14)).put (some 118) (uh15)).put (some 122) (uh16)).put (some 123) (uh17)).put (some 124) (uh18)).put (some 20) (.pointer (some ⟨g_narrow, 0, none⟩))) W := by
        intro W g_narrow uh14 uh15 uh16 uh17 uh18 F sz_narrow ne_narrow Blnarrow h18
        rw [← HX.out, ← HA.out]
        try simp only [LY]
        obtain ⟨sh18a, ah18a, nh18a, ch18a, Ah18a, Nh18a, Ch18a, sh18b, ah18b, nh18b, ch18b, Ah18b, Nh18b, Ch18b, rfl, h18a, h18b⟩ := h18.shape
        have cnarrow_0 : W.cell? ⟨g_narrow, 0, none⟩ = some (.bool false) := Blnarrow.at 0 rfl
        have cnarrow_1 : W.cell? ⟨g_narrow, 1, none⟩ = some (.slice none 0 0) := Blnarrow.at 1 rfl
        have cnarrow_2 : W.cell? ⟨g_narrow, 2, none⟩ = some (.slice none 0 0) := Blnarrow.at 2 rfl
        have cnarrow_3 : W.cell? ⟨g_narrow, 3, none⟩ = some (.bool false) := Blnarrow.at 3 rfl
        have cnarrow_4 : W.cell? ⟨g_narrow, 4, none⟩ = some (.slice none 0 0) := Blnarrow.at 4 rfl
        have cnarrow_5 : W.cell? ⟨g_narrow, 5, none⟩ = some (.slice none 0 0) := Blnarrow.at 5 rfl
        have fnarrow := Blnarrow.free
        have Lnarrow : g_narrow < W.heap.size := Blnarrow.lt
        refine U_last (by kernel_rfl) rfl (by kernel_rfl) (fun K hK => ?_)
        go_simp
        refine hK.out _ _ ?_
        clear hK K
        intro w15 hW
        have hTy_ := Blnarrow.ty
        have hG : Gr [g_narrow] W w15 := by rw [hW]; exact (Gr.refl _ _).set.set.set.set.set.set
        have hk : KeepD W w15 := hG.keep ⟨⟨_, Blnarrow.ty, by decide⟩, True.intro⟩
        replace Blnarrow : Bx w15 (g_narrow) 86 #[.bool sh18a, .slice ah18a nh18a ch18a, .slice Ah18a Nh18a Ch18a, .bool sh18b, .slice ah18b nh18b ch18b, .slice Ah18b Nh18b Ch18b] := by rw [hW]; exact Blnarrow.set6
        replace F := HG _ _ _ F hG hk sz_narrow ne_narrow hTy_
        replace h18a := h18a.keep hk
        replace h18b := h18b.keep hk
        clear hW hG hk
        obtain ⟨hs, Blat, Blloss, Blpart, Blspeed, Blls, Blx, Blv, Blwide, Blk, h10, h11, h12a, h12b, h13a, h13b, h9⟩ := (HP _).1 F
        try simp only [LY]
        obtain ⟨e_at_narrow, e_loss_narrow, e_part_narrow, e_speed_narrow, e_ls_narrow, e_x_narrow, e_v_narrow, e_wide_narrow, e_k_narrow⟩ := (HN _).1 ne_narrow
        clear HX HA HM HP HC HG HN HE
        go_wp2_with fail
        go_meet
        exact ⟨g_narrow, _, _, _, _, _, _, _, _, _, _, _, _, _, _, rfl, (by first | exact sz_narrow | omega), (by omega), (by omega), (by omega), (by omega), (by omega), (by omega), (by omega), (by omega), (by omega), Blnarrow, hs, Blat, Blloss, Blpart, Blspeed, Blls, Blx, Blv, Blwide, Blk, h10, h11, h12a, h12b, h13a, h13b, h18a, h18b, h9⟩
      replace key11 := Lib.hid key11
      have key10 : ∀ (W : World) (g_narrow : Nat) (uh14 : Value) (uh15 : Value) (uh16 : Value) (uh17 : Value), FP W → (w.heap.size ≤ g_narrow) → (NE g_narrow) → (Bx W g_narrow 86 #[.bool false, .slice none 0 0, .slice none 0 0, .bool false, .slice none 0 0, .slice none 0 0]) → (PV2 W uh15 (lo3 + (hi3 - lo3) * f0) (lo3 + (hi3 - lo3) * f0)) → (PV2 W uh17 (lo3 + (hi3 - lo3) * f1) (lo3 + (hi3 - lo3) * f1)) → X 2 #[true, true, true, true, true, true, true, true, true, true, false, true, false] (((((a0.put (some 117) (uh14)).put (some 118) (uh15)).put (some 122) (uh16)).put (some 123) (uh17)).put (some 20) (.pointer (some ⟨g_narrow, 0, none⟩))) W := by
        intro W g_narrow uh14 uh15 uh16 uh17 F sz_narrow ne_narrow Blnarrow h15 h17
        rw [← HX.out, ← HA.out]
        try simp only [LY]
        refine U_one (i := 10) (by kernel_rfl) rfl (fun K hK => ?_)
        obtain ⟨sh15a, ah15a, nh15a, ch15a, Ah15a, Nh15a, Ch15a, sh15b, ah15b, nh15b, ch15b, Ah15b, Nh15b, Ch15b, rfl, h15a, h15b⟩ := h15.shape
        obtain ⟨sh17a, ah17a, nh17a, ch17a, Ah17a, Nh17a, Ch17a, sh17b, ah17b, nh17b, ch17b, Ah17b, Nh17b, Ch17b, rfl, h17a, h17b⟩ := h17.shape
        obtain ⟨hs, Blat, Blloss, Blpart, Blspeed, Blls, Blx, Blv, Blwide, Blk, h10, h11, h12a, h12b, h13a, h13b, h9⟩ := (HP _).1 F
        go_simp
        (with_reducible refine (p_Hull3 (PV2.mk h15a h15b) (PV2.mk h17a h17b) (SzQ.mid ss0) (SzQ.mid ss1) HNL.out HNH.out).mono ?_)
        rintro e W1 ⟨uh18, rfl, h18, hb⟩
        replace F := HM _ _ F hb
        replace Blnarrow := Blnarrow.mono hb
        replace h15 := h15.mono hb
        replace h17 := h17.mono hb
        clear hb hs Blat Blloss Blpart Blspeed Blls Blx Blv Blwide Blk h10 h11 h12a h12b h13a h13b h9
        try go_wp2_with fail
        refine hK.out _ _ (HC _ F) (fun hH => ?_)
        clear hK K
        try simp only [LY]
        have hkey := key11.out W1 g_narrow uh14 (.agg #[.bool sh15a, .slice ah15a nh15a ch15a, .slice Ah15a Nh15a Ch15a, .bool sh15b, .slice ah15b nh15b ch15b, .slice Ah15b Nh15b Ch15b]) uh16 (.agg #[.bool sh17a, .slice ah17a nh17a ch17a, .slice Ah17a Nh17a Ch17a, .bool sh17b, .slice ah17b nh17b ch17b, .slice Ah17b Nh17b Ch17b]) uh18 F sz_narrow ne_narrow Blnarrow h18
        rw [← HX.out, ← HA.out] at hkey
        try simp only [LY] at hkey
        exact U_at (by kernel_rfl) (by kernel_rfl) hkey
      replace key10 := Lib.hid key10
      have key9 : ∀ (W : World) (uh14 : Value) (uh15 : Value) (uh16 : Value) (uh17 : Value) (uh18 : Value), FP W → (PV2 W uh18 (nl) (nh)) → X 2 #[true, true, true, true, true, true, true, true, true, true, true, false, false] (((((a0.put (some 117) (uh14)).put (some 118) (uh15)).put (some 122) (uh16)).put (some 123) (uh17)).put (some 124) (uh18)) W := by
        intro W uh14 uh15 uh16 uh17 uh18 F h18
        rw [← HX.out, ← HA.out]
        try simp only [LY]
        refine U_one (i := 11) (by kernel_rfl) rfl (fun K hK => ?_)
        go_simp
        refine alloc_letter ((HP _).1 F).1 (fun W1 hb Blnarrow sz_narrow => ?_)
        have ne_narrow := HE _ F
        replace F := HM _ _ F hb
        replace h18 := h18.mono hb
        clear hb
        refine hK.out _ _ (HC _ F) (fun hH => ?_)
        clear hK K
        try simp only [LY]
        have hkey := key11.out W1 W.heap.size uh14 uh15 uh16 uh17 uh18 F sz_narrow ne_narrow Blnarrow h18
        rw [← HX.out, ← HA.out] at hkey
        try simp only [LY] at hkey
        exact U_at (by kernel_rfl) (by kernel_rfl) hkey
      replace key9 := Lib.hid key9
      have key8 : ∀ (W : World) (g_narrow : Nat) (uh14 : Value) (uh15 : Value) (uh16 : Value), FP W → (w.heap.size ≤ g_narrow) → (NE g_narrow) → (Bx W g_narrow 86 #[.bool false, .slice none 0 0, .slice none 0 0, .bool false, .slice none 0 0, .slice none 0 0]) → (PV2 W uh15 (lo3 + (hi3 - lo3) * f0) (lo3 + (hi3 - lo3) * f0)) → (PV W uh16 (lo3 + (hi3 - lo3) * f1)) → X 3 #[true, true, true, true, true, true, true, true, true, false, false, true, false] ((((a0.put (some 117) (uh14)).put (some 118) (uh15)).put (some 122) (uh16)).put (some 20) (.pointer (some ⟨g_narrow, 0, none⟩))) W := by
        intro W g_narrow uh14 uh15 uh16 F sz_narrow ne_narrow Blnarrow h15 h16
        rw [← HX.out, ← HA.out]
        try simp only [LY]
        refine U_one (i := 9) (by kernel_rfl) rfl (fun K hK => ?_)
        obtain ⟨hs, Blat, Blloss, Blpart, Blspeed, Blls, Blx, Blv, Blwide, Blk, h10, h11, h12a, h12b, h13a, h13b, h9⟩ := (HP _).1 F
        go_simp
        (with_reducible refine (p_Only _ _ _ h16).mono ?_)
        rintro e W1 ⟨uh17, rfl, h17, hb⟩
        replace F := HM _ _ F hb
        replace Blnarrow := Blnarrow.mono hb
        replace h15 := h15.mono hb
        replace h16 := h16.mono hb
        clear hb hs Blat Blloss Blpart Blspeed Blls Blx Blv Blwide Blk h10 h11 h12a h12b h13a h13b h9
        try go_wp2_with fail
        refine hK.out _ _ (HC _ F) (fun hH => ?_)
        clear hK K
        try simp only [LY]
        have hkey := key10.out W1 g_narrow uh14 uh15 uh16 uh17 F sz_narrow ne_narrow Blnarrow h15 h17
        rw [← HX.out, ← HA.out] at hkey
        try simp only [LY] at hkey
        exact U_at (by kernel_rfl) (by kernel_rfl) hkey
      replace key8 := Lib.hid key8
      have key7 : ∀ (W : World) (uh14 : Value) (uh15 : Value) (uh16 : Value) (uh17 : Value), FP W → (PV2 W uh15 (lo3 + (hi3 - lo3) * f0) (lo3 + (hi3 - lo3) * f0)) → (PV2 W uh17 (lo3 + (hi3 - lo3) * f1) (lo3 + (hi3 - lo3) * f1)) → X 3 #[true, true, true, true, true, true, true, true, true, true, false, false, false] ((((a0.put (some 117) (uh14)).put (some 118) (uh15)).put (some 122) (uh16)).put (some 123) (uh17)) W := by
        intro W uh14 uh15 uh16 uh17 F h15 h17
        rw [← HX.out, ← HA.out]
        try simp only [LY]
        refine U_two (i := 10) (j := 11) (by kernel_rfl) rfl rfl  (fun K hK => ?_) (fun K hK => ?_) 
        · obtain ⟨sh15a, ah15a, nh15a, ch15a, Ah15a, Nh15a, Ch15a, sh15b, ah15b, nh15b, ch15b, Ah15b, Nh15b, Ch15b, rfl, h15a, h15b⟩ := h15.shape
          obtain ⟨sh17a, ah17a, nh17a, ch17a, Ah17a, Nh17a, Ch17a, sh17b, ah17b, nh17b, ch17b, Ah17b, Nh17b, Ch17b, rfl, h17a, h17b⟩ := h17.shape
          obtain ⟨hs, Blat, Blloss, Blpart, Blspeed, Blls, Blx, Blv, Blwide, Blk, h10, h11, h12a, h12b, h13a, h13b, h9⟩ := (HP _).1 F
          go_simp
          (with_reducible refine (p_Hull3 (PV2.mk h15a h15b) (PV2.mk h17a h17b) (SzQ.mid ss0) (SzQ.mid ss1) HNL.out HNH.out).mono ?_)
          rintro e W1 ⟨uh18, rfl, h18, hb⟩
          replace F := HM _ _ F hb
          replace h15 := h15.mono hb
          replace h17 := h17.mono hb
          clear hb hs Blat Blloss Blpart Blspeed Blls Blx Blv Blwide Blk h10 h11 h12a h12b h13a h13b h9
          try go_wp2_with fail
          refine hK.out _ _ (HC _ F) (fun hH => ?_)
          clear hK K
          try simp only [LY]
          have hkey := key9.out W1 uh14 (.agg #[.bool sh15a, .slice ah15a nh15a ch15a, .slice Ah15a Nh15a Ch15a, .bool sh15b, .slice ah15b nh15b ch15b, .slice Ah15b Nh15b Ch15b]) uh16 (.agg #[.bool sh17a, .slice ah17a nh17a ch17a, .slice Ah17a Nh17a Ch17a, .bool sh17b, .slice ah17b nh17b ch17b, .slice Ah17b Nh17b Ch17b]) uh18 F h18
          rw [← HX.out, ← HA.out] at hkey
          try simp only [LY] at hkey
          exact U_at (by kernel_rfl) (by kernel_rfl) hkey
        · go_simp
          refine alloc_letter ((HP _).1 F).1 (fun W1 hb Blnarrow sz_narrow => ?_)
          have ne_narrow := HE _ F
          replace F := HM _ _ F hb
          replace h15 := h15.mono hb
          replace h17 := h17.mono hb
          clear hb
          refine hK.out _ _ (HC _ F) (fun hH => ?_)
          clear hK K
          try simp only [LY]
          have hkey := key10.out W1 W.heap.size uh14 uh15 uh16 uh17 F sz_narrow ne_narrow Blnarrow h15 h17
          rw [← HX.out, ← HA.out] at hkey
          try simp only [LY] at hkey
          exact U_at (by kernel_rfl) (by kernel_rfl) hkey
      replace key7 := Lib.hid key7
      have key6 : ∀ (W : World) (g_narrow : Nat) (uh14 : Value) (uh15 : Value), FP W → (w.heap.size ≤ g_narrow) → (NE g_narrow) → (Bx W g_narrow 86 #[.bool false, .slice none 0 0, .slice none 0 0, .bool false, .slice none 0 0, .slice none 0 0]) → (PV2 W uh15 (lo3 + (hi3 - lo3) * f0) (lo3 + (hi3 - lo3) * f0)) → X 4 #[true, true, true, true, true, true, true, true, false, false, false, true, false] (((a0.put (some 117) (uh14)).put (some 118) (uh15)).put (some 20) (.pointer (some ⟨g_narrow, 0, none⟩))) W := by
        intro W g_narrow uh14 uh15 F sz_narrow ne_narrow Blnarrow h15
        rw [← HX.out, ← HA.out]
        try simp only [LY]
        refine U_one (i := 8) (by kernel_rfl) rfl (fun K hK => ?_)
        obtain ⟨hs, Blat, Blloss, Blpart, Blspeed, Blls, Blx, Blv, Blwide, Blk, h10, h11, h12a, h12b, h13a, h13b, h9⟩ := (HP _).1 F
        go_simp
        (with_reducible refine (l7_step (Blwide := Blwide) (hlo := h12a) (hhi := h12b) (slo := (SzQ.mono slo3 (by omega))) (shi := (SzQ.mono shi3 (by omega))) (h0 := hb1l) (h1 := hb1h) (hf := HF1.out)).mono ?_)
        rintro e W1 ⟨uh16, rfl, h16, hb⟩
        replace F := HM _ _ F hb
        replace Blnarrow := Blnarrow.mono hb
        replace h15 := h15.mono hb
        clear hb hs Blat Blloss Blpart Blspeed Blls Blx Blv Blwide Blk h10 h11 h12a h12b h13a h13b h9
        try go_wp2_with fail
        refine hK.out _ _ (HC _ F) (fun hH => ?_)
        clear hK K
        try simp only [LY]
        have hkey := key8.out W1 g_narrow uh14 uh15 uh16 F sz_narrow ne_narrow Blnarrow h15 h16
        rw [← HX.out, ← HA.out] at hkey
        try simp only [LY] at hkey
        exact U_at (by kernel_rfl) (by kernel_rfl) hkey
      replace key6 := Lib.hid key6
      have key5 : ∀ (W : World) (uh14 : Value) (uh15 : Value) (uh16 : Value), FP W → (PV2 W uh15 (lo3 + (hi3 - lo3) * f0) (lo3 + (hi3 - lo3) * f0)) → (PV W uh16 (lo3 + (hi3 - lo3) * f1)) → X 4 #[true, true, true, true, true, true, true, true, true, false, false, false, false] (((a0.put (some 117) (uh14)).put (some 118) (uh15)).put (some 122) (uh16)) W := by
        intro W uh14 uh15 uh16 F h15 h16
        rw [← HX.out, ← HA.out]
        try simp only [LY]
        refine U_two (i := 9) (j := 11) (by kernel_rfl) rfl rfl  (fun K hK => ?_) (fun K hK => ?_) 
        · obtain ⟨hs, Blat, Blloss, Blpart, Blspeed, Blls, Blx, Blv, Blwide, Blk, h10, h11, h12a, h12b, h13a, h13b, h9⟩ := (HP _).1 F
          go_simp
          (with_reducible refine (p_Only _ _ _ h16).mono ?_)
          rintro e W1 ⟨uh17, rfl, h17, hb⟩
          replace F := HM _ _ F hb
          replace h15 := h15.mono hb
          replace h16 := h16.mono hb
          clear hb hs Blat Blloss Blpart Blspeed Blls Blx Blv Blwide Blk h10 h11 h12a h12b h13a h13b h9
          try go_wp2_with fail
          refine hK.out _ _ (HC _ F) (fun hH => ?_)
          clear hK K
          try simp only [LY]
          have hkey := key7.out W1 uh14 uh15 uh16 uh17 F h15 h17
          rw [← HX.out, ← HA.out] at hkey
          try simp only [LY] at hkey
          exact U_at (by kernel_rfl) (by kernel_rfl) hkey
        · go_simp
          refine alloc_letter ((HP _).1 F).1 (fun W1 hb Blnarrow sz_narrow => ?_)
          have ne_narrow := HE _ F
          replace F := HM _ _ F hb
          replace h15 := h15.mono hb
          replace h16 := h16.mono hb
          clear hb
          refine hK.out _ _ (HC _ F) (fun hH => ?_)
          clear hK K
          try simp only [LY]
          have hkey := key8.out W1 W.heap.size uh14 uh15 uh16 F sz_narrow ne_narrow Blnarrow h15 h16
          rw [← HX.out, ← HA.out] at hkey
          try simp only [LY] at hkey
          exact U_at (by kernel_rfl) (by kernel_rfl) hkey
      replace key5 := Lib.hid key5
      have key4 : ∀ (W : World) (g_narrow : Nat) (uh14 : Value), FP W → (w.heap.size ≤ g_narrow) → (NE g_narrow) → (Bx W g_narrow 86 #[.bool false, .slice none 0 0, .slice none 0 0, .bool false, .slice none 0 0, .slice none 0 0]) → (PV W uh14 (lo3 + (hi3 - lo3) * f0)) → X 5 #[true, true, true, true, false, true, true, true, false, false, false, true, false] ((a0.put (some 117) (uh14)).put (some 20) (.pointer (some ⟨g_narrow, 0, none⟩))) W := by
        intro W g_narrow uh14 F sz_narrow ne_narrow Blnarrow h14
        rw [← HX.out, ← HA.out]
        try simp only [LY]
        refine U_one (i := 4) (by kernel_rfl) rfl (fun K hK => ?_)
        obtain ⟨hs, Blat, Blloss, Blpart, Blspeed, Blls, Blx, Blv, Blwide, Blk, h10, h11, h12a, h12b, h13a, h13b, h9⟩ := (HP _).1 F
        go_simp
        (with_reducible refine (p_Only _ _ _ h14).mono ?_)
        rintro e W1 ⟨uh15, rfl, h15, hb⟩
        replace F := HM _ _ F hb
        replace Blnarrow := Blnarrow.mono hb
        replace h14 := h14.mono hb
        clear hb hs Blat Blloss Blpart Blspeed Blls Blx Blv Blwide Blk h10 h11 h12a h12b h13a h13b h9
        try go_wp2_with fail
        refine hK.out _ _ (HC _ F) (fun hH => ?_)
        clear hK K
        try simp only [LY]
        have hkey := key6.out W1 g_narrow uh14 uh15 F sz_narrow ne_narrow Blnarrow h15
        rw [← HX.out, ← HA.out] at hkey
        try simp only [LY] at hkey
        exact U_at (by kernel_rfl) (by kernel_rfl) hkey
      replace key4 := Lib.hid key4
      have key3 : ∀ (W : World) (uh14 : Value) (uh15 : Value), FP W → (PV2 W uh15 (lo3 + (hi3 - lo3) * f0) (lo3 + (hi3 - lo3) * f0)) → X 5 #[true, true, true, true, true, true, true, true, false, false, false, false, false] ((a0.put (some 117) (uh14)).put (some 118) (uh15)) W := by
        intro W uh14 uh15 F h15
        rw [← HX.out, ← HA.out]
        try simp only [LY]
        refine U_two (i := 8) (j := 11) (by kernel_rfl) rfl rfl  (fun K hK => ?_) (fun K hK => ?_) 
        · obtain ⟨hs, Blat, Blloss, Blpart, Blspeed, Blls, Blx, Blv, Blwide, Blk, h10, h11, h12a, h12b, h13a, h13b, h9⟩ := (HP _).1 F
          go_simp
          (with_reducible refine (l7_step (Blwide := Blwide) (hlo := h12a) (hhi := h12b) (slo := (SzQ.mono slo3 (by omega))) (shi := (SzQ.mono shi3 (by omega))) (h0 := hb1l) (h1 := hb1h) (hf := HF1.out)).mono ?_)
          rintro e W1 ⟨uh16, rfl, h16, hb⟩
          replace F := HM _ _ F hb
          replace h15 := h15.mono hb
          clear hb hs Blat Blloss Blpart Blspeed Blls Blx Blv Blwide Blk h10 h11 h12a h12b h13a h13b h9
          try go_wp2_with fail
          refine hK.out _ _ (HC _ F) (fun hH => ?_)
          clear hK K
          try simp only [LY]
          have hkey := key5.out W1 uh14 uh15 uh16 F h15 h16
          rw [← HX.out, ← HA.out] at hkey
          try simp only [LY] at hkey
          exact U_at (by kernel_rfl) (by kernel_rfl) hkey
        · go_simp
          refine alloc_letter ((HP _).1 F).1 (fun W1 hb Blnarrow sz_narrow => ?_)
          have ne_narrow := HE _ F
          replace F := HM _ _ F hb
          replace h15 := h15.mono hb
          clear hb
          refine hK.out _ _ (HC _ F) (fun hH => ?_)
          clear hK K
          try simp only [LY]
          have hkey := key6.out W1 W.heap.size uh14 uh15 F sz_narrow ne_narrow Blnarrow h15
          rw [← HX.out, ← HA.out] at hkey
          try simp only [LY] at hkey
          exact U_at (by kernel_rfl) (by kernel_rfl) hkey
      replace key3 := Lib.hid key3
      have key2 : ∀ (W : World) (g_narrow : Nat), FP W → (w.heap.size ≤ g_narrow) → (NE g_narrow) → (Bx W g_narrow 86 #[.bool false, .slice none 0 0, .slice none 0 0, .bool false, .slice none 0 0, .slice none 0 0]) → X 6 #[true, true, true, false, false, true, true, true, false, false, false, true, false] (a0.put (some 20) (.pointer (some ⟨g_narrow, 0, none⟩))) W := by
        intro W g_narrow F sz_narrow ne_narrow Blnarrow
        rw [← HX.out, ← HA.out]
        try simp only [LY]
        refine U_one (i := 3) (by kernel_rfl) rfl (fun K hK => ?_)
        obtain ⟨hs, Blat, Blloss, Blpart, Blspeed, Blls, Blx, Blv, Blwide, Blk, h10, h11, h12a, h12b, h13a, h13b, h9⟩ := (HP _).1 F
        go_simp
        (with_reducible refine (l7_step (Blwide := Blwide) (hlo := h12a) (hhi := h12b) (slo := (SzQ.mono slo3 (by omega))) (shi := (SzQ.mono shi3 (by omega))) (h0 := hb0l) (h1 := hb0h) (hf := HF0.out)).mono ?_)
        rintro e W1 ⟨uh14, rfl, h14, hb⟩
        replace F := HM _ _ F hb
        replace Blnarrow := Blnarrow.mono hb
        clear hb hs Blat Blloss Blpart Blspeed Blls Blx Blv Blwide Blk h10 h11 h12a h12b h13a h13b h9
        try go_wp2_with fail
        refine hK.out _ _ (HC _ F) (fun hH => ?_)
        clear hK K
        try simp only [LY]
        have hkey := key4.out W1 g_narrow uh14 F sz_narrow ne_narrow Blnarrow h14
        rw [← HX.out, ← HA.out] at hkey
        try simp only [LY] at hkey
        exact U_at (by kernel_rfl) (by kernel_rfl) hkey
      replace key2 := Lib.hid key2
      have key1 : ∀ (W : World) (uh14 : Value), FP W → (PV W uh14 (lo3 + (hi3 - lo3) * f0)) → X 6 #[true, true, true, true, false, true, true, true, false, false, false, false, false] (a0.put (some 117) (uh14)) W := by
        intro W uh14 F h14
        rw [← HX.out, ← HA.out]
        try simp only [LY]
        refine U_two (i := 4) (j := 11) (by kernel_rfl) rfl rfl  (fun K hK => ?_) (fun K hK => ?_) 
        · obtain ⟨hs, Blat, Blloss, Blpart, Blspeed, Blls, Blx, Blv, Blwide, Blk, h10, h11, h12a, h12b, h13a, h13b, h9⟩ := (HP _).1 F
          go_simp
          (with_reducible refine (p_Only _ _ _ h14).mono ?_)
          rintro e W1 ⟨uh15, rfl, h15, hb⟩
          replace F := HM _ _ F hb
          replace h14 := h14.mono hb
          clear hb hs Blat Blloss Blpart Blspeed Blls Blx Blv Blwide Blk h10 h11 h12a h12b h13a h13b h9
          try go_wp2_with fail
          refine hK.out _ _ (HC _ F) (fun hH => ?_)
          clear hK K
          try simp only [LY]
          have hkey := key3.out W1 uh14 uh15 F h15
          rw [← HX.out, ← HA.out] at hkey
          try simp only [LY] at hkey
          exact U_at (by kernel_rfl) (by kernel_rfl) hkey
        · go_simp
          refine alloc_letter ((HP _).1 F).1 (fun W1 hb Blnarrow sz_narrow => ?_)
          have ne_narrow := HE _ F
          replace F := HM _ _ F hb
          replace h14 := h14.mono hb
          clear hb
          refine hK.out _ _ (HC _ F) (fun hH => ?_)
          clear hK K
          try simp only [LY]
          have hkey := key4.out W1 W.heap.size uh14 F sz_narrow ne_narrow Blnarrow h14
          rw [← HX.out, ← HA.out] at hkey
          try simp only [LY] at hkey
          exact U_at (by kernel_rfl) (by kernel_rfl) hkey
      replace key1 := Lib.hid key1
      have key0 : ∀ (W : World), FP W → X 7 #[true, true, true, false, false, true, true, true, false, false, false, false, false] a0 W := by
        intro W F
        rw [← HX.out, ← HA.out]
        try simp only [LY]
        refine U_two (i := 3) (j := 11) (by kernel_rfl) rfl rfl  (fun K hK => ?_) (fun K hK => ?_) 
        · obtain ⟨hs, Blat, Blloss, Blpart, Blspeed, Blls, Blx, Blv, Blwide, Blk, h10, h11, h12a, h12b, h13a, h13b, h9⟩ := (HP _).1 F
          go_simp
          (with_reducible refine (l7_step (Blwide := Blwide) (hlo := h12a) (hhi := h12b) (slo := (SzQ.mono slo3 (by omega))) (shi := (SzQ.mono shi3 (by omega))) (h0 := hb0l) (h1 := hb0h) (hf := HF0.out)).mono ?_)
          rintro e W1 ⟨uh14, rfl, h14, hb⟩
          replace F := HM _ _ F hb
          clear hb hs Blat Blloss Blpart Blspeed Blls Blx Blv Blwide Blk h10 h11 h12a h12b h13a h13b h9
          try go_wp2_with fail
          refine hK.out _ _ (HC _ F) (fun hH => ?_)
          clear hK K
          try simp only [LY]
          have hkey := key1.out W1 uh14 F h14
          rw [← HX.out, ← HA.out] at hkey
          try simp only [LY] at hkey
          exact U_at (by kernel_rfl) (by kernel_rfl) hkey
        · go_simp
          refine alloc_letter ((HP _).1 F).1 (fun W1 hb Blnarrow sz_narrow => ?_)
          have ne_narrow := HE _ F
          replace F := HM _ _ F hb
          clear hb
          refine hK.out _ _ (HC _ F) (fun hH => ?_)
          clear hK K
          try simp only [LY]
          have hkey := key2.out W1 W.heap.size F sz_narrow ne_narrow Blnarrow
          rw [← HX.out, ← HA.out] at hkey
          try simp only [LY] at hkey
          exact U_at (by kernel_rfl) (by kernel_rfl) hkey
      replace key0 := Lib.hid key0
      rw [← HX.out]
      have hkey := key0.out w14 F
      rw [← HX.out] at hkey
      exact U_at (by kernel_rfl) (by kernel_rfl) hkey
    case rest =>
      clear hs Blat Blloss Blpart Blspeed Blls Blx Blv Blwide Blk h10 h11 h12a h12b h13a h13b h9
      obtain ⟨gnarrow, sh18a, ah18a, nh18a, ch18a, Ah18a, Nh18a, Ch18a, sh18b, ah18b, nh18b, ch18b, Ah18b, Nh18b, Ch18b, rfl, hg_narrow, ng_narrow_at, ng_narrow_loss, ng_narrow_part, ng_narrow_speed, ng_narrow_ls, ng_narrow_x, ng_narrow_v, ng_narrow_wide, ng_narrow_k, Blnarrow, hs, Blat, Blloss, Blpart, Blspeed, Blls, Blx, Blv, Blwide, Blk, h10, h11, h12a, h12b, h13a, h13b, h18a, h18b, h9⟩ := hcut
      have cwide_0 : wc.cell? ⟨w12.heap.size, 0, none⟩ = some (.bool sh12a) := Blwide.at 0 rfl
      have cwide_1 : wc.cell? ⟨w12.heap.size, 1, none⟩ = some (.slice ah12a nh12a ch12a) := Blwide.at 1 rfl
      have cwide_2 : wc.cell? ⟨w12.heap.size, 2, none⟩ = some (.slice Ah12a Nh12a Ch12a) := Blwide.at 2 rfl
      have cwide_3 : wc.cell? ⟨w12.heap.size, 3, none⟩ = some (.bool sh12b) := Blwide.at 3 rfl
      have cwide_4 : wc.cell? ⟨w12.heap.size, 4, none⟩ = some (.slice ah12b nh12b ch12b) := Blwide.at 4 rfl
      have cwide_5 : wc.cell? ⟨w12.heap.size, 5, none⟩ = some (.slice Ah12b Nh12b Ch12b) := Blwide.at 5 rfl
      have Lwide : w12.heap.size < wc.heap.size := Blwide.lt
      go_wp2_with fail
      clear cwide_0 cwide_1 cwide_2 cwide_3 cwide_4 cwide_5 Lwide
      with_reducible refine (sc_Porosity _ T _ _ _ _ _ _ _ h9 HZ.out (PV2.mk h12a h12b) (SzQ.mono slo3 (by omega)) (SzQ.mono shi3 (by omega)) HLE3.out HPP.out).mono ?_
      rintro e w14 ⟨_, _, rfl, h19, rfl, hb⟩
      obtain ⟨sh19a, ah19a, nh19a, ch19a, Ah19a, Nh19a, Ch19a, sh19b, ah19b, nh19b, ch19b, Ah19b, Nh19b, Ch19b, rfl, h19a, h19b⟩ := h19.shape
      replace hs := bStep hs hb
      replace Blat := Blat.mono hb
      replace Blloss := Blloss.mono hb
      replace Blpart := Blpart.mono hb
      replace Blspeed := Blspeed.mono hb
      replace Blls := Blls.mono hb
      replace Blx := Blx.mono hb
      replace Blv := Blv.mono hb
      replace Blwide := Blwide.mono hb
      replace Blk := Blk.mono hb
      replace Blnarrow := Blnarrow.mono hb
      replace h10 := h10.mono hb
      replace h11 := h11.mono hb
      replace h12a := h12a.mono hb
      replace h12b := h12b.mono hb
      replace h13a := h13a.mono hb
      replace h13b := h13b.mono hb
      replace h18a := h18a.mono hb
      replace h18b := h18b.mono hb
      replace h9 := rowsSB _ _ _ h9 hb
      clear hb
      go_upto_if 132 with (fail)
      refine Code.abs ?_
      intro w15 hW
      have hG : Gr [] w14 w15 := by rw [hW]; exact (Gr.refl _ _).alloc
      have hbw : Below w.heap.size w14 w15 := hG.below0 hs.size
      have hk : KeepD w14 w15 := hG.keep True.intro
      have sz_w15 : w.heap.size ≤ w14.heap.size := hs.size
      have nat_w15 : w.heap.size < w14.heap.size := Blat.lt
      have nloss_w15 : w.heap.size + 1 < w14.heap.size := Blloss.lt
      have npart_w15 : w.heap.size + 1 + 1 < w14.heap.size := Blpart.lt
      have nspeed_w15 : w.heap.size + 1 + 1 + 1 < w14.heap.size := Blspeed.lt
      have nls_w15 : w2.heap.size < w14.heap.size := Blls.lt
      have nx_w15 : w8.heap.size < w14.heap.size := Blx.lt
      have nv_w15 : w10.heap.size < w14.heap.size := Blv.lt
      have nwide_w15 : w12.heap.size < w14.heap.size := Blwide.lt
      have nk_w15 : w12.heap.size + 1 < w14.heap.size := Blk.lt
      have nnarrow_w15 : gnarrow < w14.heap.size := Blnarrow.lt
      have Blp : Bx w15 (w14.heap.size) 86 #[.bool sh19a, .slice ah19a nh19a ch19a, .slice Ah19a Nh19a Ch19a, .bool sh19b, .slice ah19b nh19b ch19b, .slice Ah19b Nh19b Ch19b] := by rw [hW]; exact (Bx.new0 _ _ _)
      replace hs := hs.trans hbw
      replace h9 := rowsSB _ _ _ h9 (hG.below0 (Nat.le_refl _))
      replace Blat := hG.bx Blat notMem0
      replace Blloss := hG.bx Blloss notMem0
      replace Blpart := hG.bx Blpart notMem0
      replace Blspeed := hG.bx Blspeed notMem0
      replace Blls := hG.bx Blls notMem0
      replace Blx := hG.bx Blx notMem0
      replace Blv := hG.bx Blv notMem0
      replace Blwide := hG.bx Blwide notMem0
      replace Blk := hG.bx Blk notMem0
      replace Blnarrow := hG.bx Blnarrow notMem0
      replace h10 := h10.keep hk
      replace h11 := h11.keep hk
      replace h12a := h12a.keep hk
      replace h12b := h12b.keep hk
      replace h13a := h13a.keep hk
      replace h13b := h13b.keep hk
      replace h18a := h18a.keep hk
      replace h18b := h18b.keep hk
      replace h19a := h19a.keep hk
      replace h19b := h19b.keep hk
      clear hW hG hk hbw
      have hz_w15 : w14.heap.size < w15.heap.size := Blp.lt
      go_cut [] (fun wz => Below w.heap.size w wz ∧ Bx wz (w.heap.size) 82 #[.int .i64 n1, .int .i64 d1] ∧ Bx wz (w.heap.size + 1) 83 #[.int .i64 n3, .int .i64 d3, .int .i64 n4, .int .i64 d4] ∧ Bx wz (w.heap.size + 1 + 1) 104 #[.int .u8 b0, .int .u8 b1] ∧ Bx wz (w.heap.size + 1 + 1 + 1) 83 #[.int .i64 n5, .int .i64 d5, .int .i64 n6, .int .i64 d6] ∧ Bx wz (w2.heap.size) 82 #[.int .i64 n1, .int .i64 d1] ∧ Bx wz (w8.heap.size) 40 #[.bool sh10, .slice ah10 nh10 ch10, .slice Ah10 Nh10 Ch10] ∧ Bx wz (w10.heap.size) 40 #[.bool sh11, .slice ah11 nh11 ch11, .slice Ah11 Nh11 Ch11] ∧ Bx wz (w12.heap.size) 86 #[.bool sh12a, .slice ah12a nh12a ch12a, .slice Ah12a Nh12a Ch12a, .bool sh12b, .slice ah12b nh12b ch12b, .slice Ah12b Nh12b Ch12b] ∧ Bx wz (w12.heap.size + 1) 88 #[.bool sh13a, .slice ah13a nh13a ch13a, .slice Ah13a Nh13a Ch13a, .bool sh13b, .slice ah13b nh13b ch13b, .slice Ah13b Nh13b Ch13b] ∧ Bx wz (gnarrow) 86 #[.bool sh18a, .slice ah18a nh18a ch18a, .slice Ah18a Nh18a Ch18a, .bool sh18b, .slice ah18b nh18b ch18b, .slice Ah18b Nh18b Ch18b] ∧ Bx wz (w14.heap.size) 86 #[.bool sh19a, .slice ah19a nh19a ch19a, .slice Ah19a Nh19a Ch19a, .bool sh19b, .slice ah19b nh19b ch19b, .slice Ah19b Nh19b Ch19b] ∧ PV wz (.agg #[.bool sh10, .slice ah10 nh10 ch10, .slice Ah10 Nh10 Ch10]) (xq) ∧ PV wz (.agg #[.bool sh11, .slice ah11 nh11 ch11, .slice Ah11 Nh11 Ch11]) (vq) ∧ PV wz (.agg #[.bool sh12a, .slice ah12a nh12a ch12a, .slice Ah12a Nh12a Ch12a]) (lo3) ∧ PV wz (.agg #[.bool sh12b, .slice ah12b nh12b ch12b, .slice Ah12b Nh12b Ch12b]) (hi3) ∧ RV wz (.agg #[.bool sh13a, .slice ah13a nh13a ch13a, .slice Ah13a Nh13a Ch13a]) (lo3) ∧ RV wz (.agg #[.bool sh13b, .slice ah13b nh13b ch13b, .slice Ah13b Nh13b Ch13b]) (hi3) ∧ PV wz (.agg #[.bool sh18a, .slice ah18a nh18a ch18a, .slice Ah18a Nh18a Ch18a]) (nl) ∧ PV wz (.agg #[.bool sh18b, .slice ah18b nh18b ch18b, .slice Ah18b Nh18b Ch18b]) (nh) ∧ PV wz (.agg #[.bool sh19a, .slice ah19a nh19a ch19a, .slice Ah19a Nh19a Ch19a]) (pa) ∧ PV wz (.agg #[.bool sh19b, .slice ah19b nh19b ch19b, .slice Ah19b Nh19b Ch19b]) (pb) ∧ Rows 6 113 (C2 PC) wz (.slice ah9 T.length kh9) T)
      case first => as_aux_lemma =>
        by_cases q20 : pc = 0
        · have q20b : (pc == 0) = true := by simp; omega
          have q20n : (pc != 0) = false := by simp; omega
          have q20H := Lib.hid q20
          clear q20
          try simp only [q20b, q20n]
          have cnarrow_0 : w15.cell? ⟨gnarrow, 0, none⟩ = some (.bool sh18a) := Blnarrow.at 0 rfl
          have cnarrow_1 : w15.cell? ⟨gnarrow, 1, none⟩ = some (.slice ah18a nh18a ch18a) := Blnarrow.at 1 rfl
          have cnarrow_2 : w15.cell? ⟨gnarrow, 2, none⟩ = some (.slice Ah18a Nh18a Ch18a) := Blnarrow.at 2 rfl
          have cnarrow_3 : w15.cell? ⟨gnarrow, 3, none⟩ = some (.bool sh18b) := Blnarrow.at 3 rfl
          have cnarrow_4 : w15.cell? ⟨gnarrow, 4, none⟩ = some (.slice ah18b nh18b ch18b) := Blnarrow.at 4 rfl
          have cnarrow_5 : w15.cell? ⟨gnarrow, 5, none⟩ = some (.slice Ah18b Nh18b Ch18b) := Blnarrow.at 5 rfl
          have Lnarrow : gnarrow < w15.heap.size := Blnarrow.lt
          go_wp2_with fail
          clear cnarrow_0 cnarrow_1 cnarrow_2 cnarrow_3 cnarrow_4 cnarrow_5 Lnarrow
          with_reducible refine (sc_Porosity _ T _ _ _ _ _ _ _ h9 HZ.out (PV2.mk h18a h18b) (SzQ.mono snl (by omega)) (SzQ.mono snh (by omega)) HNAR.out.2.1 HQQ.out).mono ?_
          rintro e w16 ⟨_, _, rfl, h21, rfl, hb⟩
          obtain ⟨sh21a, ah21a, nh21a, ch21a, Ah21a, Nh21a, Ch21a, sh21b, ah21b, nh21b, ch21b, Ah21b, Nh21b, Ch21b, rfl, h21a, h21b⟩ := h21.shape
          replace hs := bStep hs hb
          replace Blat := Blat.mono hb
          replace Blloss := Blloss.mono hb
          replace Blpart := Blpart.mono hb
          replace Blspeed := Blspeed.mono hb
          replace Blls := Blls.mono hb
          replace Blx := Blx.mono hb
          replace Blv := Blv.mono hb
          replace Blwide := Blwide.mono hb
          replace Blk := Blk.mono hb
          replace Blnarrow := Blnarrow.mono hb
          replace Blp := Blp.mono hb
          replace h10 := h10.mono hb
          replace h11 := h11.mono hb
          replace h12a := h12a.mono hb
          replace h12b := h12b.mono hb
          replace h13a := h13a.mono hb
          replace h13b := h13b.mono hb
          replace h18a := h18a.mono hb
          replace h18b := h18b.mono hb
          replace h19a := h19a.mono hb
          replace h19b := h19b.mono hb
          replace h9 := rowsSB _ _ _ h9 hb
          clear hb
          have q22 : qc = 0 := (por_in HPP.out q20H.out HNAR.out.1 HNAR.out.2.1 HNAR.out.2.2 HQQ.out).1
          have q22b : (qc == 0) = true := by simp; omega
          have q22n : (qc != 0) = false := by simp; omega
          have q22H := Lib.hid q22
          clear q22
          have cp_0 : w16.cell? ⟨w14.heap.size, 0, none⟩ = some (.bool sh19a) := Blp.at 0 rfl
          have cp_1 : w16.cell? ⟨w14.heap.size, 1, none⟩ = some (.slice ah19a nh19a ch19a) := Blp.at 1 rfl
          have cp_2 : w16.cell? ⟨w14.heap.size, 2, none⟩ = some (.slice Ah19a Nh19a Ch19a) := Blp.at 2 rfl
          have cp_3 : w16.cell? ⟨w14.heap.size, 3, none⟩ = some (.bool sh19b) := Blp.at 3 rfl
          have cp_4 : w16.cell? ⟨w14.heap.size, 4, none⟩ = some (.slice ah19b nh19b ch19b) := Blp.at 4 rfl
          have cp_5 : w16.cell? ⟨w14.heap.size, 5, none⟩ = some (.slice Ah19b Nh19b Ch19b) := Blp.at 5 rfl
          have Lp : w14.heap.size < w16.heap.size := Blp.lt
          go_wp2_with fail
          clear cp_0 cp_1 cp_2 cp_3 cp_4 cp_5 Lp
          refine Calls.abs ?_
          intro w17 hW
          have hG : Gr [] w16 w17 := by rw [hW]; exact (Gr.refl _ _).alloc
          have hbw : Below w.heap.size w16 w17 := hG.below0 hs.size
          have hk : KeepD w16 w17 := hG.keep True.intro
          have sz_w17 : w.heap.size ≤ w16.heap.size := hs.size
          have nat_w17 : w.heap.size < w16.heap.size := Blat.lt
          have nloss_w17 : w.heap.size + 1 < w16.heap.size := Blloss.lt
          have npart_w17 : w.heap.size + 1 + 1 < w16.heap.size := Blpart.lt
          have nspeed_w17 : w.heap.size + 1 + 1 + 1 < w16.heap.size := Blspeed.lt
          have nls_w17 : w2.heap.size < w16.heap.size := Blls.lt
          have nx_w17 : w8.heap.size < w16.heap.size := Blx.lt
          have nv_w17 : w10.heap.size < w16.heap.size := Blv.lt
          have nwide_w17 : w12.heap.size < w16.heap.size := Blwide.lt
          have nk_w17 : w12.heap.size + 1 < w16.heap.size := Blk.lt
          have nnarrow_w17 : gnarrow < w16.heap.size := Blnarrow.lt
          have np_w17 : w14.heap.size < w16.heap.size := Blp.lt
          have Blq : Bx w17 (w16.heap.size) 86 #[.bool sh21a, .slice ah21a nh21a ch21a, .slice Ah21a Nh21a Ch21a, .bool sh21b, .slice ah21b nh21b ch21b, .slice Ah21b Nh21b Ch21b] := by rw [hW]; exact (Bx.new0 _ _ _)
          replace hs := hs.trans hbw
          replace h9 := rowsSB _ _ _ h9 (hG.below0 (Nat.le_refl _))
          replace Blat := hG.bx Blat notMem0
          replace Blloss := hG.bx Blloss notMem0
          replace Blpart := hG.bx Blpart notMem0
          replace Blspeed := hG.bx Blspeed notMem0
          replace Blls := hG.bx Blls notMem0
          replace Blx := hG.bx Blx notMem0
          replace Blv := hG.bx Blv notMem0
          replace Blwide := hG.bx Blwide notMem0
          replace Blk := hG.bx Blk notMem0
          replace Blnarrow := hG.bx Blnarrow notMem0
          replace Blp := hG.bx Blp notMem0
          replace h10 := h10.keep hk
          replace h11 := h11.keep hk
          replace h12a := h12a.keep hk
          replace h12b := h12b.keep hk
          replace h13a := h13a.keep hk
          replace h13b := h13b.keep hk
          replace h18a := h18a.keep hk
          replace h18b := h18b.keep hk
          replace h19a := h19a.keep hk
          replace h19b := h19b.keep hk
          replace h21a := h21a.keep hk
          replace h21b := h21b.keep hk
          clear hW hG hk hbw
          have hz_w17 : w16.heap.size < w17.heap.size := Blq.lt
          with_reducible refine (p_In _ _ _ _ _ _ _ (PV2.mk h21a h21b) (SzQ.mid sqa) (SzQ.mid sqb) (PV2.mk h19a h19b) (SzQ.mid spa) (SzQ.mid spb) rfl).mono ?_
          rintro e w18 ⟨rfl, hb⟩
          replace hs := bStep hs hb
          replace Blat := Blat.mono hb
          replace Blloss := Blloss.mono hb
          replace Blpart := Blpart.mono hb
          replace Blspeed := Blspeed.mono hb
          replace Blls := Blls.mono hb
          replace Blx := Blx.mono hb
          replace Blv := Blv.mono hb
          replace Blwide := Blwide.mono hb
          replace Blk := Blk.mono hb
          replace Blnarrow := Blnarrow.mono hb
          replace Blp := Blp.mono hb
          replace Blq := Blq.mono hb
          replace h10 := h10.mono hb
          replace h11 := h11.mono hb
          replace h12a := h12a.mono hb
          replace h12b := h12b.mono hb
          replace h13a := h13a.mono hb
          replace h13b := h13b.mono hb
          replace h18a := h18a.mono hb
          replace h18b := h18b.mono hb
          replace h19a := h19a.mono hb
          replace h19b := h19b.mono hb
          replace h21a := h21a.mono hb
          replace h21b := h21b.mono hb
          replace h9 := rowsSB _ _ _ h9 hb
          clear hb
          obtain ⟨b23, Hb23⟩ : ∃ b : Bool, b = decide ((pa ≤ qa ∧ qa ≤ pb) ∧ pa ≤ qb ∧ qb ≤ pb) := ⟨_, rfl⟩
          rw [← Hb23]
          replace Hb23 := Lib.hid Hb23
          have q24 : (pa ≤ qa ∧ qa ≤ pb) ∧ pa ≤ qb ∧ qb ≤ pb := (por_in HPP.out q20H.out HNAR.out.1 HNAR.out.2.1 HNAR.out.2.2 HQQ.out).2
          obtain rfl : b23 = true := by rw [Hb23.out]; exact decide_eq_true q24
          have q24H := Lib.hid q24
          clear q24
          go_wp2_with fail
          go_meet
          exact ⟨hs, Blat, Blloss, Blpart, Blspeed, Blls, Blx, Blv, Blwide, Blk, Blnarrow, Blp, h10, h11, h12a, h12b, h13a, h13b, h18a, h18b, h19a, h19b, h9⟩
        · have q20b : (pc == 0) = false := by simp; omega
          have q20n : (pc != 0) = true := by simp; omega
          have q20H := Lib.hid q20
          clear q20
          try simp only [q20b, q20n]
          go_wp2_with fail
          go_meet
          exact ⟨hs, Blat, Blloss, Blpart, Blspeed, Blls, Blx, Blv, Blwide, Blk, Blnarrow, Blp, h10, h11, h12a, h12b, h13a, h13b, h18a, h18b, h19a, h19b, h9⟩
      case rest =>
        clear hs Blat Blloss Blpart Blspeed Blls Blx Blv Blwide Blk Blnarrow Blp h10 h11 h12a h12b h13a h13b h18a h18b h19a h19b h9
        obtain ⟨hs, Blat, Blloss, Blpart, Blspeed, Blls, Blx, Blv, Blwide, Blk, Blnarrow, Blp, h10, h11, h12a, h12b, h13a, h13b, h18a, h18b, h19a, h19b, h9⟩ := hcut
        have cspeed_0 : wc.cell? ⟨w.heap.size + 1 + 1 + 1, 0, none⟩ = some (.int .i64 n5) := Blspeed.at 0 rfl
        have cspeed_1 : wc.cell? ⟨w.heap.size + 1 + 1 + 1, 1, none⟩ = some (.int .i64 d5) := Blspeed.at 1 rfl
        have cspeed_2 : wc.cell? ⟨w.heap.size + 1 + 1 + 1, 2, none⟩ = some (.int .i64 n6) := Blspeed.at 2 rfl
        have cspeed_3 : wc.cell? ⟨w.heap.size + 1 + 1 + 1, 3, none⟩ = some (.int .i64 d6) := Blspeed.at 3 rfl
        have Lspeed : w.heap.size + 1 + 1 + 1 < wc.heap.size := Blspeed.lt
        go_wp2_with fail
        clear cspeed_0 cspeed_1 cspeed_2 cspeed_3 Lspeed
        with_reducible refine (l7_span_ _ HS5.out HO5.out HO6.out HLO5.out HHI5.out).mono ?_
        rintro e w16 ⟨_, _, rfl, h20, h21, hb⟩
        obtain ⟨sh20a, ah20a, nh20a, ch20a, Ah20a, Nh20a, Ch20a, sh20b, ah20b, nh20b, ch20b, Ah20b, Nh20b, Ch20b, rfl, h20a, h20b⟩ := h20.shape
        obtain ⟨sh21a, ah21a, nh21a, ch21a, Ah21a, Nh21a, Ch21a, sh21b, ah21b, nh21b, ch21b, Ah21b, Nh21b, Ch21b, rfl, h21a, h21b⟩ := h21.shape
        replace hs := bStep hs hb
        replace Blat := Blat.mono hb
        replace Blloss := Blloss.mono hb
        replace Blpart := Blpart.mono hb
        replace Blspeed := Blspeed.mono hb
        replace Blls := Blls.mono hb
        replace Blx := Blx.mono hb
        replace Blv := Blv.mono hb
        replace Blwide := Blwide.mono hb
        replace Blk := Blk.mono hb
        replace Blnarrow := Blnarrow.mono hb
        replace Blp := Blp.mono hb
        replace h10 := h10.mono hb
        replace h11 := h11.mono hb
        replace h12a := h12a.mono hb
        replace h12b := h12b.mono hb
        replace h13a := h13a.mono hb
        replace h13b := h13b.mono hb
        replace h18a := h18a.mono hb
        replace h18b := h18b.mono hb
        replace h19a := h19a.mono hb
        replace h19b := h19b.mono hb
        replace h9 := rowsSB _ _ _ h9 hb
        clear hb
        have cwide_0 : w16.cell? ⟨w12.heap.size, 0, none⟩ = some (.bool sh12a) := Blwide.at 0 rfl
        have cwide_1 : w16.cell? ⟨w12.heap.size, 1, none⟩ = some (.slice ah12a nh12a ch12a) := Blwide.at 1 rfl
        have cwide_2 : w16.cell? ⟨w12.heap.size, 2, none⟩ = some (.slice Ah12a Nh12a Ch12a) := Blwide.at 2 rfl
        have cwide_3 : w16.cell? ⟨w12.heap.size, 3, none⟩ = some (.bool sh12b) := Blwide.at 3 rfl
        have cwide_4 : w16.cell? ⟨w12.heap.size, 4, none⟩ = some (.slice ah12b nh12b ch12b) := Blwide.at 4 rfl
        have cwide_5 : w16.cell? ⟨w12.heap.size, 5, none⟩ = some (.slice Ah12b Nh12b Ch12b) := Blwide.at 5 rfl
        have Lwide : w12.heap.size < w16.heap.size := Blwide.lt
        go_wp2_with fail
        clear cwide_0 cwide_1 cwide_2 cwide_3 cwide_4 cwide_5 Lwide
        refine Calls.abs ?_
        intro w17 hW
        have hG : Gr [] w16 w17 := by rw [hW]; exact (Gr.refl _ _).alloc.alloc
        have hbw : Below w.heap.size w16 w17 := hG.below0 hs.size
        have hk : KeepD w16 w17 := hG.keep True.intro
        have sz_w17 : w.heap.size ≤ w16.heap.size := hs.size
        have nat_w17 : w.heap.size < w16.heap.size := Blat.lt
        have nloss_w17 : w.heap.size + 1 < w16.heap.size := Blloss.lt
        have npart_w17 : w.heap.size + 1 + 1 < w16.heap.size := Blpart.lt
        have nspeed_w17 : w.heap.size + 1 + 1 + 1 < w16.heap.size := Blspeed.lt
        have nls_w17 : w2.heap.size < w16.heap.size := Blls.lt
        have nx_w17 : w8.heap.size < w16.heap.size := Blx.lt
        have nv_w17 : w10.heap.size < w16.heap.size := Blv.lt
        have nwide_w17 : w12.heap.size < w16.heap.size := Blwide.lt
        have nk_w17 : w12.heap.size + 1 < w16.heap.size := Blk.lt
        have nnarrow_w17 : gnarrow < w16.heap.size := Blnarrow.lt
        have np_w17 : w14.heap.size < w16.heap.size := Blp.lt
        have Bls : Bx w17 (w16.heap.size) 86 #[.bool sh20a, .slice ah20a nh20a ch20a, .slice Ah20a Nh20a Ch20a, .bool sh20b, .slice ah20b nh20b ch20b, .slice Ah20b Nh20b Ch20b] := by rw [hW]; exact ((Bx.new0 _ _ _).alloc _)
        have Blk12 : Bx w17 (w16.heap.size + 1) 88 #[.bool sh21a, .slice ah21a nh21a ch21a, .slice Ah21a Nh21a Ch21a, .bool sh21b, .slice ah21b nh21b ch21b, .slice Ah21b Nh21b Ch21b] := by rw [hW]; exact (Bx.new0 _ _ _)
        replace hs := hs.trans hbw
        replace h9 := rowsSB _ _ _ h9 (hG.below0 (Nat.le_refl _))
        replace Blat := hG.bx Blat notMem0
        replace Blloss := hG.bx Blloss notMem0
        replace Blpart := hG.bx Blpart notMem0
        replace Blspeed := hG.bx Blspeed notMem0
        replace Blls := hG.bx Blls notMem0
        replace Blx := hG.bx Blx notMem0
        replace Blv := hG.bx Blv notMem0
        replace Blwide := hG.bx Blwide notMem0
        replace Blk := hG.bx Blk notMem0
        replace Blnarrow := hG.bx Blnarrow notMem0
        replace Blp := hG.bx Blp notMem0
        replace h10 := h10.keep hk
        replace h11 := h11.keep hk
        replace h12a := h12a.keep hk
        replace h12b := h12b.keep hk
        replace h13a := h13a.keep hk
        replace h13b := h13b.keep hk
        replace h18a := h18a.keep hk
        replace h18b := h18b.keep hk
        replace h19a := h19a.keep hk
        replace h19b := h19b.keep hk
        replace h20a := h20a.keep hk
        replace h20b := h20b.keep hk
        replace h21a := h21a.keep hk
        replace h21b := h21b.keep hk
        clear hW hG hk hbw
        have hz_w17 : w16.heap.size + 1 < w17.heap.size := Blk12.lt
        with_reducible refine (sc_Depth_dep (PV2.mk h12a h12b) (PV2.mk h20a h20b) (SzQ.mono slo3 (by omega)) (SzQ.mono shi3 (by omega)) (SzQ.mono slo5 (by omega)) (SzQ.mono shi5 (by omega)) HDD.out).mono ?_
        rintro e w18 ⟨_, _, rfl, h22, rfl, hb⟩
        obtain ⟨sh22a, ah22a, nh22a, ch22a, Ah22a, Nh22a, Ch22a, sh22b, ah22b, nh22b, ch22b, Ah22b, Nh22b, Ch22b, rfl, h22a, h22b⟩ := h22.shape
        replace hs := bStep hs hb
        replace Blat := Blat.mono hb
        replace Blloss := Blloss.mono hb
        replace Blpart := Blpart.mono hb
        replace Blspeed := Blspeed.mono hb
        replace Blls := Blls.mono hb
        replace Blx := Blx.mono hb
        replace Blv := Blv.mono hb
        replace Blwide := Blwide.mono hb
        replace Blk := Blk.mono hb
        replace Blnarrow := Blnarrow.mono hb
        replace Blp := Blp.mono hb
        replace Bls := Bls.mono hb
        replace Blk12 := Blk12.mono hb
        replace h10 := h10.mono hb
        replace h11 := h11.mono hb
        replace h12a := h12a.mono hb
        replace h12b := h12b.mono hb
        replace h13a := h13a.mono hb
        replace h13b := h13b.mono hb
        replace h18a := h18a.mono hb
        replace h18b := h18b.mono hb
        replace h19a := h19a.mono hb
        replace h19b := h19b.mono hb
        replace h20a := h20a.mono hb
        replace h20b := h20b.mono hb
        replace h21a := h21a.mono hb
        replace h21b := h21b.mono hb
        replace h9 := rowsSB _ _ _ h9 hb
        clear hb
        go_upto_if 159 with (fail)
        refine Code.abs ?_
        intro w19 hW
        have hG : Gr [] w18 w19 := by rw [hW]; exact (Gr.refl _ _).alloc
        have hbw : Below w.heap.size w18 w19 := hG.below0 hs.size
        have hk : KeepD w18 w19 := hG.keep True.intro
        have sz_w19 : w.heap.size ≤ w18.heap.size := hs.size
        have nat_w19 : w.heap.size < w18.heap.size := Blat.lt
        have nloss_w19 : w.heap.size + 1 < w18.heap.size := Blloss.lt
        have npart_w19 : w.heap.size + 1 + 1 < w18.heap.size := Blpart.lt
        have nspeed_w19 : w.heap.size + 1 + 1 + 1 < w18.heap.size := Blspeed.lt
        have nls_w19 : w2.heap.size < w18.heap.size := Blls.lt
        have nx_w19 : w8.heap.size < w18.heap.size := Blx.lt
        have nv_w19 : w10.heap.size < w18.heap.size := Blv.lt
        have nwide_w19 : w12.heap.size < w18.heap.size := Blwide.lt
        have nk_w19 : w12.heap.size + 1 < w18.heap.size := Blk.lt
        have nnarrow_w19 : gnarrow < w18.heap.size := Blnarrow.lt
        have np_w19 : w14.heap.size < w18.heap.size := Blp.lt
        have ns_w19 : w16.heap.size < w18.heap.size := Bls.lt
        have nk12_w19 : w16.heap.size + 1 < w18.heap.size := Blk12.lt
        have Bld : Bx w19 (w18.heap.size) 86 #[.bool sh22a, .slice ah22a nh22a ch22a, .slice Ah22a Nh22a Ch22a, .bool sh22b, .slice ah22b nh22b ch22b, .slice Ah22b Nh22b Ch22b] := by rw [hW]; exact (Bx.new0 _ _ _)
        replace hs := hs.trans hbw
        replace h9 := rowsSB _ _ _ h9 (hG.below0 (Nat.le_refl _))
        replace Blat := hG.bx Blat notMem0
        replace Blloss := hG.bx Blloss notMem0
        replace Blpart := hG.bx Blpart notMem0
        replace Blspeed := hG.bx Blspeed notMem0
        replace Blls := hG.bx Blls notMem0
        replace Blx := hG.bx Blx notMem0
        replace Blv := hG.bx Blv notMem0
        replace Blwide := hG.bx Blwide notMem0
        replace Blk := hG.bx Blk notMem0
        replace Blnarrow := hG.bx Blnarrow notMem0
        replace Blp := hG.bx Blp notMem0
        replace Bls := hG.bx Bls notMem0
        replace Blk12 := hG.bx Blk12 notMem0
        replace h10 := h10.keep hk
        replace h11 := h11.keep hk
        replace h12a := h12a.keep hk
        replace h12b := h12b.keep hk
        replace h13a := h13a.keep hk
        replace h13b := h13b.keep hk
        replace h18a := h18a.keep hk
        replace h18b := h18b.keep hk
        replace h19a := h19a.keep hk
        replace h19b := h19b.keep hk
        replace h20a := h20a.keep hk
        replace h20b := h20b.keep hk
        replace h21a := h21a.keep hk
        replace h21b := h21b.keep hk
        replace h22a := h22a.keep hk
        replace h22b := h22b.keep hk
        clear hW hG hk hbw
        have hz_w19 : w18.heap.size < w19.heap.size := Bld.lt
        go_cut [] (fun wz => Below w.heap.size w wz ∧ Bx wz (w.heap.size) 82 #[.int .i64 n1, .int .i64 d1] ∧ Bx wz (w.heap.size + 1) 83 #[.int .i64 n3, .int .i64 d3, .int .i64 n4, .int .i64 d4] ∧ Bx wz (w.heap.size + 1 + 1) 104 #[.int .u8 b0, .int .u8 b1] ∧ Bx wz (w.heap.size + 1 + 1 + 1) 83 #[.int .i64 n5, .int .i64 d5, .int .i64 n6, .int .i64 d6] ∧ Bx wz (w2.heap.size) 82 #[.int .i64 n1, .int .i64 d1] ∧ Bx wz (w8.heap.size) 40 #[.bool sh10, .slice ah10 nh10 ch10, .slice Ah10 Nh10 Ch10] ∧ Bx wz (w10.heap.size) 40 #[.bool sh11, .slice ah11 nh11 ch11, .slice Ah11 Nh11 Ch11] ∧ Bx wz (w12.heap.size) 86 #[.bool sh12a, .slice ah12a nh12a ch12a, .slice Ah12a Nh12a Ch12a, .bool sh12b, .slice ah12b nh12b ch12b, .slice Ah12b Nh12b Ch12b] ∧ Bx wz (w12.heap.size + 1) 88 #[.bool sh13a, .slice ah13a nh13a ch13a, .slice Ah13a Nh13a Ch13a, .bool sh13b, .slice ah13b nh13b ch13b, .slice Ah13b Nh13b Ch13b] ∧ Bx wz (gnarrow) 86 #[.bool sh18a, .slice ah18a nh18a ch18a, .slice Ah18a Nh18a Ch18a, .bool sh18b, .slice ah18b nh18b ch18b, .slice Ah18b Nh18b Ch18b] ∧ Bx wz (w14.heap.size) 86 #[.bool sh19a, .slice ah19a nh19a ch19a, .slice Ah19a Nh19a Ch19a, .bool sh19b, .slice ah19b nh19b ch19b, .slice Ah19b Nh19b Ch19b] ∧ Bx wz (w16.heap.size) 86 #[.bool sh20a, .slice ah20a nh20a ch20a, .slice Ah20a Nh20a Ch20a, .bool sh20b, .slice ah20b nh20b ch20b, .slice Ah20b Nh20b Ch20b] ∧ Bx wz (w16.heap.size + 1) 88 #[.bool sh21a, .slice ah21a nh21a ch21a, .slice Ah21a Nh21a Ch21a, .bool sh21b, .slice ah21b nh21b ch21b, .slice Ah21b Nh21b Ch21b] ∧ Bx wz (w18.heap.size) 86 #[.bool sh22a, .slice ah22a nh22a ch22a, .slice Ah22a Nh22a Ch22a, .bool sh22b, .slice ah22b nh22b ch22b, .slice Ah22b Nh22b Ch22b] ∧ PV wz (.agg #[.bool sh10, .slice ah10 nh10 ch10, .slice Ah10 Nh10 Ch10]) (xq) ∧ PV wz (.agg #[.bool sh11, .slice ah11 nh11 ch11, .slice Ah11 Nh11 Ch11]) (vq) ∧ PV wz (.agg #[.bool sh12a, .slice ah12a nh12a ch12a, .slice Ah12a Nh12a Ch12a]) (lo3) ∧ PV wz (.agg #[.bool sh12b, .slice ah12b nh12b ch12b, .slice Ah12b Nh12b Ch12b]) (hi3) ∧ RV wz (.agg #[.bool sh13a, .slice ah13a nh13a ch13a, .slice Ah13a Nh13a Ch13a]) (lo3) ∧ RV wz (.agg #[.bool sh13b, .slice ah13b nh13b ch13b, .slice Ah13b Nh13b Ch13b]) (hi3) ∧ PV wz (.agg #[.bool sh18a, .slice ah18a nh18a ch18a, .slice Ah18a Nh18a Ch18a]) (nl) ∧ PV wz (.agg #[.bool sh18b, .slice ah18b nh18b ch18b, .slice Ah18b Nh18b Ch18b]) (nh) ∧ PV wz (.agg #[.bool sh19a, .slice ah19a nh19a ch19a, .slice Ah19a Nh19a Ch19a]) (pa) ∧ PV wz (.agg #[.bool sh19b, .slice ah19b nh19b ch19b, .slice Ah19b Nh19b Ch19b]) (pb) ∧ PV wz (.agg #[.bool sh20a, .slice ah20a nh20a ch20a, .slice Ah20a Nh20a Ch20a]) (lo5) ∧ PV wz (.agg #[.bool sh20b, .slice ah20b nh20b ch20b, .slice Ah20b Nh20b Ch20b]) (hi5) ∧ RV wz (.agg #[.bool sh21a, .slice ah21a nh21a ch21a, .slice Ah21a Nh21a Ch21a]) (lo5) ∧ RV wz (.agg #[.bool sh21b, .slice ah21b nh21b ch21b, .slice Ah21b Nh21b Ch21b]) (hi5) ∧ PV wz (.agg #[.bool sh22a, .slice ah22a nh22a ch22a, .slice Ah22a Nh22a Ch22a]) (da) ∧ PV wz (.agg #[.bool sh22b, .slice ah22b nh22b ch22b, .slice Ah22b Nh22b Ch22b]) (db) ∧ Rows 6 113 (C2 PC) wz (.slice ah9 T.length kh9) T)
        case first => as_aux_lemma =>
          by_cases q23 : dc = 0
          · have q23b : (dc == 0) = true := by simp; omega
            have q23n : (dc != 0) = false := by simp; omega
            have q23H := Lib.hid q23
            clear q23
            try simp only [q23b, q23n]
            have cnarrow_0 : w19.cell? ⟨gnarrow, 0, none⟩ = some (.bool sh18a) := Blnarrow.at 0 rfl
            have cnarrow_1 : w19.cell? ⟨gnarrow, 1, none⟩ = some (.slice ah18a nh18a ch18a) := Blnarrow.at 1 rfl
            have cnarrow_2 : w19.cell? ⟨gnarrow, 2, none⟩ = some (.slice Ah18a Nh18a Ch18a) := Blnarrow.at 2 rfl
            have cnarrow_3 : w19.cell? ⟨gnarrow, 3, none⟩ = some (.bool sh18b) := Blnarrow.at 3 rfl
            have cnarrow_4 : w19.cell? ⟨gnarrow, 4, none⟩ = some (.slice ah18b nh18b ch18b) := Blnarrow.at 4 rfl
            have cnarrow_5 : w19.cell? ⟨gnarrow, 5, none⟩ = some (.slice Ah18b Nh18b Ch18b) := Blnarrow.at 5 rfl
            have Lnarrow : gnarrow < w19.heap.size := Blnarrow.lt
            have cs_0 : w19.cell? ⟨w16.heap.size, 0, none⟩ = some (.bool sh20a) := Bls.at 0 rfl
            have cs_1 : w19.cell? ⟨w16.heap.size, 1, none⟩ = some (.slice ah20a nh20a ch20a) := Bls.at 1 rfl
            have cs_2 : w19.cell? ⟨w16.heap.size, 2, none⟩ = some (.slice Ah20a Nh20a Ch20a) := Bls.at 2 rfl
            have cs_3 : w19.cell? ⟨w16.heap.size, 3, none⟩ = some (.bool sh20b) := Bls.at 3 rfl
            have cs_4 : w19.cell? ⟨w16.heap.size, 4, none⟩ = some (.slice ah20b nh20b ch20b) := Bls.at 4 rfl
            have cs_5 : w19.cell? ⟨w16.heap.size, 5, none⟩ = some (.slice Ah20b Nh20b Ch20b) := Bls.at 5 rfl
            have Ls : w16.heap.size < w19.heap.size := Bls.lt
            go_wp2_with fail
            clear cnarrow_0 cnarrow_1 cnarrow_2 cnarrow_3 cnarrow_4 cnarrow_5 cs_0 cs_1 cs_2 cs_3 cs_4 cs_5 Lnarrow Ls
            with_reducible refine (sc_Depth_dep (PV2.mk h18a h18b) (PV2.mk h20a h20b) (SzQ.mono snl (by omega)) (SzQ.mono snh (by omega)) (SzQ.mono slo5 (by omega)) (SzQ.mono shi5 (by omega)) HEE.out).mono ?_
            rintro e w20 ⟨_, _, rfl, h24, rfl, hb⟩
            obtain ⟨sh24a, ah24a, nh24a, ch24a, Ah24a, Nh24a, Ch24a, sh24b, ah24b, nh24b, ch24b, Ah24b, Nh24b, Ch24b, rfl, h24a, h24b⟩ := h24.shape
            replace hs := bStep hs hb
            replace Blat := Blat.mono hb
            replace Blloss := Blloss.mono hb
            replace Blpart := Blpart.mono hb
            replace Blspeed := Blspeed.mono hb
            replace Blls := Blls.mono hb
            replace Blx := Blx.mono hb
            replace Blv := Blv.mono hb
            replace Blwide := Blwide.mono hb
            replace Blk := Blk.mono hb
            replace Blnarrow := Blnarrow.mono hb
            replace Blp := Blp.mono hb
            replace Bls := Bls.mono hb
            replace Blk12 := Blk12.mono hb
            replace Bld := Bld.mono hb
            replace h10 := h10.mono hb
            replace h11 := h11.mono hb
            replace h12a := h12a.mono hb
            replace h12b := h12b.mono hb
            replace h13a := h13a.mono hb
            replace h13b := h13b.mono hb
            replace h18a := h18a.mono hb
            replace h18b := h18b.mono hb
            replace h19a := h19a.mono hb
            replace h19b := h19b.mono hb
            replace h20a := h20a.mono hb
            replace h20b := h20b.mono hb
            replace h21a := h21a.mono hb
            replace h21b := h21b.mono hb
            replace h22a := h22a.mono hb
            replace h22b := h22b.mono hb
            replace h9 := rowsSB _ _ _ h9 hb
            clear hb
            have q25 : ec = 0 := (dep_in HDD.out q23H.out HNAR.out.1 HNAR.out.2.1 HNAR.out.2.2 HLE5.out HEE.out).1
            have q25b : (ec == 0) = true := by simp; omega
            have q25n : (ec != 0) = false := by simp; omega
            have q25H := Lib.hid q25
            clear q25
            have cd_0 : w20.cell? ⟨w18.heap.size, 0, none⟩ = some (.bool sh22a) := Bld.at 0 rfl
            have cd_1 : w20.cell? ⟨w18.heap.size, 1, none⟩ = some (.slice ah22a nh22a ch22a) := Bld.at 1 rfl
            have cd_2 : w20.cell? ⟨w18.heap.size, 2, none⟩ = some (.slice Ah22a Nh22a Ch22a) := Bld.at 2 rfl
            have cd_3 : w20.cell? ⟨w18.heap.size, 3, none⟩ = some (.bool sh22b) := Bld.at 3 rfl
            have cd_4 : w20.cell? ⟨w18.heap.size, 4, none⟩ = some (.slice ah22b nh22b ch22b) := Bld.at 4 rfl
            have cd_5 : w20.cell? ⟨w18.heap.size, 5, none⟩ = some (.slice Ah22b Nh22b Ch22b) := Bld.at 5 rfl
            have Ld : w18.heap.size < w20.heap.size := Bld.lt
            go_wp2_with fail
            clear cd_0 cd_1 cd_2 cd_3 cd_4 cd_5 Ld
            refine Calls.abs ?_
            intro w21 hW
            have hG : Gr [] w20 w21 := by rw [hW]; exact (Gr.refl _ _).alloc
            have hbw : Below w.heap.size w20 w21 := hG.below0 hs.size
            have hk : KeepD w20 w21 := hG.keep True.intro
            have sz_w21 : w.heap.size ≤ w20.heap.size := hs.size
            have nat_w21 : w.heap.size < w20.heap.size := Blat.lt
            have nloss_w21 : w.heap.size + 1 < w20.heap.size := Blloss.lt
            have npart_w21 : w.heap.size + 1 + 1 < w20.heap.size := Blpart.lt
            have nspeed_w21 : w.heap.size + 1 + 1 + 1 < w20.heap.size := Blspeed.lt
            have nls_w21 : w2.heap.size < w20.heap.size := Blls.lt
            have nx_w21 : w8.heap.size < w20.heap.size := Blx.lt
            have nv_w21 : w10.heap.size < w20.heap.size := Blv.lt
            have nwide_w21 : w12.heap.size < w20.heap.size := Blwide.lt
            have nk_w21 : w12.heap.size + 1 < w20.heap.size := Blk.lt
            have nnarrow_w21 : gnarrow < w20.heap.size := Blnarrow.lt
            have np_w21 : w14.heap.size < w20.heap.size := Blp.lt
            have ns_w21 : w16.heap.size < w20.heap.size := Bls.lt
            have nk12_w21 : w16.heap.size + 1 < w20.heap.size := Blk12.lt
            have nd_w21 : w18.heap.size < w20.heap.size := Bld.lt
            have Blq : Bx w21 (w20.heap.size) 86 #[.bool sh24a, .slice ah24a nh24a ch24a, .slice Ah24a Nh24a Ch24a, .bool sh24b, .slice ah24b nh24b ch24b, .slice Ah24b Nh24b Ch24b] := by rw [hW]; exact (Bx.new0 _ _ _)
            replace hs := hs.trans hbw
            replace h9 := rowsSB _ _ _ h9 (hG.below0 (Nat.le_refl _))
            replace Blat := hG.bx Blat notMem0
            replace Blloss := hG.bx Blloss notMem0
            replace Blpart := hG.bx Blpart notMem0
            replace Blspeed := hG.bx Blspeed notMem0
            replace Blls := hG.bx Blls notMem0
            replace Blx := hG.bx Blx notMem0
            replace Blv := hG.bx Blv notMem0
            replace Blwide := hG.bx Blwide notMem0
            replace Blk := hG.bx Blk notMem0
            replace Blnarrow := hG.bx Blnarrow notMem0
            replace Blp := hG.bx Blp notMem0
            replace Bls := hG.bx Bls notMem0
            replace Blk12 := hG.bx Blk12 notMem0
            replace Bld := hG.bx Bld notMem0
            replace h10 := h10.keep hk
            replace h11 := h11.keep hk
            replace h12a := h12a.keep hk
            replace h12b := h12b.keep hk
            replace h13a := h13a.keep hk
            replace h13b := h13b.keep hk
            replace h18a := h18a.keep hk
            replace h18b := h18b.keep hk
            replace h19a := h19a.keep hk
            replace h19b := h19b.keep hk
            replace h20a := h20a.keep hk
            replace h20b := h20b.keep hk
            replace h21a := h21a.keep hk
            replace h21b := h21b.keep hk
            replace h22a := h22a.keep hk
            replace h22b := h22b.keep hk
            replace h24a := h24a.keep hk
            replace h24b := h24b.keep hk
            clear hW hG hk hbw
            have hz_w21 : w20.heap.size < w21.heap.size := Blq.lt
            with_reducible refine (p_In _ _ _ _ _ _ _ (PV2.mk h24a h24b) (SzQ.mid sea) (SzQ.mid seb) (PV2.mk h22a h22b) (SzQ.mid sda) (SzQ.mid sdb) rfl).mono ?_
            rintro e w22 ⟨rfl, hb⟩
            replace hs := bStep hs hb
            replace Blat := Blat.mono hb
            replace Blloss := Blloss.mono hb
            replace Blpart := Blpart.mono hb
            replace Blspeed := Blspeed.mono hb
            replace Blls := Blls.mono hb
            replace Blx := Blx.mono hb
            replace Blv := Blv.mono hb
            replace Blwide := Blwide.mono hb
            replace Blk := Blk.mono hb
            replace Blnarrow := Blnarrow.mono hb
            replace Blp := Blp.mono hb
            replace Bls := Bls.mono hb
            replace Blk12 := Blk12.mono hb
            replace Bld := Bld.mono hb
            replace Blq := Blq.mono hb
            replace h10 := h10.mono hb
            replace h11 := h11.mono hb
            replace h12a := h12a.mono hb
            replace h12b := h12b.mono hb
            replace h13a := h13a.mono hb
            replace h13b := h13b.mono hb
            replace h18a := h18a.mono hb
            replace h18b := h18b.mono hb
            replace h19a := h19a.mono hb
            replace h19b := h19b.mono hb
            replace h20a := h20a.mono hb
            replace h20b := h20b.mono hb
            replace h21a := h21a.mono hb
            replace h21b := h21b.mono hb
            replace h22a := h22a.mono hb
            replace h22b := h22b.mono hb
            replace h24a := h24a.mono hb
            replace h24b := h24b.mono hb
            replace h9 := rowsSB _ _ _ h9 hb
            clear hb
            obtain ⟨b26, Hb26⟩ : ∃ b : Bool, b = decide ((da ≤ ea ∧ ea ≤ db) ∧ da ≤ eb ∧ eb ≤ db) := ⟨_, rfl⟩
            rw [← Hb26]
            replace Hb26 := Lib.hid Hb26
            have q27 : (da ≤ ea ∧ ea ≤ db) ∧ da ≤ eb ∧ eb ≤ db := (dep_in HDD.out q23H.out HNAR.out.1 HNAR.out.2.1 HNAR.out.2.2 HLE5.out HEE.out).2
            obtain rfl : b26 = true := by rw [Hb26.out]; exact decide_eq_true q27
            have q27H := Lib.hid q27
            clear q27
            go_wp2_with fail
            go_meet
            exact ⟨hs, Blat, Blloss, Blpart, Blspeed, Blls, Blx, Blv, Blwide, Blk, Blnarrow, Blp, Bls, Blk12, Bld, h10, h11, h12a, h12b, h13a, h13b, h18a, h18b, h19a, h19b, h20a, h20b, h21a, h21b, h22a, h22b, h9⟩
          · have q23b : (dc == 0) = false := by simp; omega
            have q23n : (dc != 0) = true := by simp; omega
            have q23H := Lib.hid q23
            clear q23
            try simp only [q23b, q23n]
            go_wp2_with fail
            go_meet
            exact ⟨hs, Blat, Blloss, Blpart, Blspeed, Blls, Blx, Blv, Blwide, Blk, Blnarrow, Blp, Bls, Blk12, Bld, h10, h11, h12a, h12b, h13a, h13b, h18a, h18b, h19a, h19b, h20a, h20b, h21a, h21b, h22a, h22b, h9⟩
        case rest =>
          clear hs Blat Blloss Blpart Blspeed Blls Blx Blv Blwide Blk Blnarrow Blp Bls Blk12 Bld h10 h11 h12a h12b h13a h13b h18a h18b h19a h19b h20a h20b h21a h21b h22a h22b h9
          obtain ⟨hs, Blat, Blloss, Blpart, Blspeed, Blls, Blx, Blv, Blwide, Blk, Blnarrow, Blp, Bls, Blk12, Bld, h10, h11, h12a, h12b, h13a, h13b, h18a, h18b, h19a, h19b, h20a, h20b, h21a, h21b, h22a, h22b, h9⟩ := hcut
          go_wp2_with fail
          with_reducible refine (HAW.out _).mono ?_
          rintro e w20 ⟨rfl, hb⟩
          replace hs := bStep hs hb
          replace Blat := Blat.mono hb
          replace Blloss := Blloss.mono hb
          replace Blpart := Blpart.mono hb
          replace Blspeed := Blspeed.mono hb
          replace Blls := Blls.mono hb
          replace Blx := Blx.mono hb
          replace Blv := Blv.mono hb
          replace Blwide := Blwide.mono hb
          replace Blk := Blk.mono hb
          replace Blnarrow := Blnarrow.mono hb
          replace Blp := Blp.mono hb
          replace Bls := Bls.mono hb
          replace Blk12 := Blk12.mono hb
          replace Bld := Bld.mono hb
          replace h10 := h10.mono hb
          replace h11 := h11.mono hb
          replace h12a := h12a.mono hb
          replace h12b := h12b.mono hb
          replace h13a := h13a.mono hb
          replace h13b := h13b.mono hb
          replace h18a := h18a.mono hb
          replace h18b := h18b.mono hb
          replace h19a := h19a.mono hb
          replace h19b := h19b.mono hb
          replace h20a := h20a.mono hb
          replace h20b := h20b.mono hb
          replace h21a := h21a.mono hb
          replace h21b := h21b.mono hb
          replace h22a := h22a.mono hb
          replace h22b := h22b.mono hb
          replace h9 := rowsSB _ _ _ h9 hb
          clear hb
          go_wp2
          go_ret
          exact ⟨rfl, hs⟩
end Go.Proofs.YtlfnapfnpkhggaaGreat
