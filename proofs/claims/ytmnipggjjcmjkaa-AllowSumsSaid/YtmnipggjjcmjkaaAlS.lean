/-
  Law 08: AllowSums.
-/
import Derived.Test.YtmnipggjjcmjkaaAlAw
set_option linter.unusedSimpArgs false
set_option linter.unusedVariables false
namespace Go.Proofs.Ytmnipggjjcmjkaa
open Go.RowKit Dg
attribute [local go_sem ↓] Go.wp_at_zero Go.wp_at_succ

theorem al_Tail_w {v : Value} {p : Rat} {n : Nat} {ni ki k : Int} (w : World) (hn : ni = n) (hk : ki = k) (hp : PV w v p) (sp : SzQ 1 p) (h0 : 0 ≤ p) (h1 : p ≤ 1) (h64 : n ≤ 64) {q : Rat} (hq : tailQ n k p = q) : Calls Try.prog 9 #[.int .i64 ni, .int .i64 ki, v] w (RetPE w q 0) := by
  subst hn hk
  exact al_Tail_ok w hp sp h0 h1 h64 hq

set_option maxRecDepth 100000 in
set_option maxHeartbeats 16000000 in
theorem l8_Sums_walk (n k p m s0 s1 t0 t1 : Int) (w : World) (bn : 0 ≤ n ∧ n ≤ 255) (bk : 0 ≤ k ∧ k ≤ 255) (bp : 0 ≤ p ∧ p ≤ 255) (bm : 0 ≤ m ∧ m ≤ 255) (bs0 : 0 ≤ s0 ∧ s0 ≤ 255) (bs1 : 0 ≤ s1 ∧ s1 ≤ 255) (bt0 : 0 ≤ t0 ∧ t0 ≤ 255) (bt1 : 0 ≤ t1 ∧ t1 ≤ 255)
    (mm kk : Nat) (hmm : 1 + n % 12 = (mm : Int)) (hm0 : 1 ≤ mm) (hm1 : mm ≤ 12) (hkk : 1 + k % 3 = (kk : Int)) (hk0 : 1 ≤ kk) (hk1 : kk ≤ 3)
    (a : Rat) (ha : ((p % 17 : Int) : Rat) / ((16 : Int) : Rat) = a) (sa_ : SzQ 1 a) (ca : 0 ≤ a ∧ a ≤ 1) (b : Rat) (hb : ((min (p % 17 + m % 5) 16 : Int) : Rat) / ((16 : Int) : Rat) = b) (sb_ : SzQ 1 b) (cb : 0 ≤ b ∧ b ≤ 1) (la : Rat) (hla : ((s0 % 9 : Int) : Rat) / ((8 : Int) : Rat) = la) (sla_ : SzQ 1 la) (cla : 0 ≤ la ∧ la ≤ 1) (lb : Rat) (hlb : ((s1 % 9 : Int) : Rat) / ((8 : Int) : Rat) = lb) (slb_ : SzQ 1 lb) (clb : 0 ≤ lb ∧ lb ≤ 1) (ta : Rat) (hta : ((min (s0 % 9 + t0 % 4) 8 : Int) : Rat) / ((8 : Int) : Rat) = ta) (sta_ : SzQ 1 ta) (cta : 0 ≤ ta ∧ ta ≤ 1) (tb : Rat) (htb : ((min (s1 % 9 + t1 % 4) 8 : Int) : Rat) / ((8 : Int) : Rat) = tb) (stb_ : SzQ 1 tb) (ctb : 0 ≤ tb ∧ tb ≤ 1) 
    (sca : SzQ 1 (1 - a)) (cca : 0 ≤ 1 - a ∧ 1 - a ≤ 1) (x : Rat) (hx : tailQ mm (k % 13) a = x) (sx : SzQ 100 x) (y : Rat) (hy : tailQ mm (k % 13 + 1) a = y) (sy : SzQ 100 y) (z : Rat) (hz : tailQ mm (k % 13) b = z) (sz : SzQ 100 z) (u : Rat) (hu : tailQ (mm + 1) (k % 13) a = u) (su : SzQ 100 u) (o : Rat) (ho : tailQ mm (1 + n % 12 - k % 13 + 1) (1 - a) = o) (so : SzQ 100 o) 
    (hle : ¬ x < y ∧ ¬ z < x ∧ ¬ u < x ∧ x + o = 1)
    (r e : Int) (hr : ((rkF (1 - la) mm lb mm : Nat) : Int) = r) (he : rkE (rkF (1 - la) mm lb mm) = e) (r2 e2 : Int) (hr2 : ((rkF (1 - ta) mm tb mm : Nat) : Int) = r2) (he2 : rkE (rkF (1 - ta) mm tb mm) = e2) (d g : Int) (hd : ((cpF (1 - la) kk lb (65 - kk) kk : Nat) : Int) = d) (hg : cpE (cpF (1 - la) kk lb (65 - kk) kk) = g) (d2 g2 : Int) (hd2 : ((cpF (1 - ta) kk tb (65 - kk) kk : Nat) : Int) = d2) (hg2 : cpE (cpF (1 - ta) kk tb (65 - kk) kk) = g2) 
    (hrk : (e2 = 0 → e = 0 ∧ ¬ r < r2) ∧ (e = 0 → ¬ r < 1) ∧ (g2 = 0 → g = 0 ∧ d ≤ d2)) :
    Calls Try.prog 3 #[.int .u8 n, .int .u8 k, .int .u8 p, .int .u8 m, .agg #[.int .u8 s0, .int .u8 s1], .agg #[.int .u8 t0, .int .u8 t1]] w (RetV w (.bool true)) := by
  have hs := Below.refl w.heap.size w
  obtain ⟨bn0, bn1⟩ := bn
  obtain ⟨bk0, bk1⟩ := bk
  obtain ⟨bp0, bp1⟩ := bp
  obtain ⟨bm0, bm1⟩ := bm
  obtain ⟨bs00, bs01⟩ := bs0
  obtain ⟨bs10, bs11⟩ := bs1
  obtain ⟨bt00, bt01⟩ := bt0
  obtain ⟨bt10, bt11⟩ := bt1
  have HMM := Lib.hid hmm
  have HKK := Lib.hid hkk
  have HA := Lib.hid ha
  have CA := Lib.hid ca
  have HB := Lib.hid hb
  have CB := Lib.hid cb
  have HLA := Lib.hid hla
  have CLA := Lib.hid cla
  have HLB := Lib.hid hlb
  have CLB := Lib.hid clb
  have HTA := Lib.hid hta
  have CTA := Lib.hid cta
  have HTB := Lib.hid htb
  have CTB := Lib.hid ctb
  have CCA := Lib.hid cca
  have HX := Lib.hid hx
  have HY := Lib.hid hy
  have HZ := Lib.hid hz
  have HU := Lib.hid hu
  have HO := Lib.hid ho
  have HLE := Lib.hid hle
  have HR := Lib.hid hr
  have HE := Lib.hid he
  have HR2 := Lib.hid hr2
  have HE2 := Lib.hid he2
  have HD := Lib.hid hd
  have HG := Lib.hid hg
  have HD2 := Lib.hid hd2
  have HG2 := Lib.hid hg2
  have HRK := Lib.hid hrk
  clear hmm hkk ha ca hb cb hla cla hlb clb hta cta htb ctb cca hx hy hz hu ho hle hr he hr2 he2 hd hg hd2 hg2 hrk
  go_enter Try.func3, Try.ntmps3
  go_wp2_with fail
  refine Calls.abs ?_
  intro w1 hW
  have hG : Gr [] w w1 := by rw [hW]; exact (Gr.refl _ _).alloc.alloc
  have hbw : Below w.heap.size w w1 := hG.below0 hs.size
  have hk : KeepD w w1 := hG.keep True.intro
  have sz_w1 : w.heap.size ≤ w.heap.size := hs.size
  have Blshare : Bx w1 (w.heap.size) 22 #[.int .u8 s0, .int .u8 s1] := by rw [hW]; exact ((Bx.new0 _ _ _).alloc _)
  have Blhigher : Bx w1 (w.heap.size + 1) 22 #[.int .u8 t0, .int .u8 t1] := by rw [hW]; exact (Bx.new0 _ _ _)
  replace hs := hs.trans hbw
  clear hW hG hk hbw
  have hz_w1 : w.heap.size + 1 < w1.heap.size := Blhigher.lt
  with_reducible refine (l8_part _ HA.out (by omega) (by omega) (by decide) (by decide)).mono ?_
  rintro e w2 ⟨_, rfl, h1, hb⟩
  obtain ⟨sh1, ah1, nh1, ch1, Ah1, Nh1, Ch1, rfl⟩ := h1.shape
  replace hs := bStep hs hb
  replace Blshare := Blshare.mono hb
  replace Blhigher := Blhigher.mono hb
  clear hb
  go_wp2_with fail
  with_reducible refine (l8_part _ HB.out (by omega) (by omega) (by decide) (by decide)).mono ?_
  rintro e w3 ⟨_, rfl, h2, hb⟩
  obtain ⟨sh2, ah2, nh2, ch2, Ah2, Nh2, Ch2, rfl⟩ := h2.shape
  replace hs := bStep hs hb
  replace Blshare := Blshare.mono hb
  replace Blhigher := Blhigher.mono hb
  replace h1 := h1.mono hb
  clear hb
  go_wp2_with fail
  refine Calls.abs ?_
  intro w4 hW
  have hG : Gr [] w3 w4 := by rw [hW]; exact (Gr.refl _ _).alloc.alloc
  have hbw : Below w.heap.size w3 w4 := hG.below0 hs.size
  have hk : KeepD w3 w4 := hG.keep True.intro
  have sz_w4 : w.heap.size ≤ w3.heap.size := hs.size
  have nshare_w4 : w.heap.size < w3.heap.size := Blshare.lt
  have nhigher_w4 : w.heap.size + 1 < w3.heap.size := Blhigher.lt
  have Bla : Bx w4 (w3.heap.size) 26 #[.bool sh1, .slice ah1 nh1 ch1, .slice Ah1 Nh1 Ch1] := by rw [hW]; exact ((Bx.new0 _ _ _).alloc _)
  have Blb : Bx w4 (w3.heap.size + 1) 26 #[.bool sh2, .slice ah2 nh2 ch2, .slice Ah2 Nh2 Ch2] := by rw [hW]; exact (Bx.new0 _ _ _)
  replace hs := hs.trans hbw
  replace Blshare := hG.bx Blshare notMem0
  replace Blhigher := hG.bx Blhigher notMem0
  replace h1 := h1.keep hk
  replace h2 := h2.keep hk
  clear hW hG hk hbw
  have hz_w4 : w3.heap.size + 1 < w4.heap.size := Blb.lt
  with_reducible refine (al_Tail_e (n := mm) _ (by have := HMM.out; push_cast; omega) h1 sa_ CA.out.1 CA.out.2 (by omega) HX.out).mono ?_
  rintro e w5 ⟨_, rfl, h3, hb⟩
  obtain ⟨sh3, ah3, nh3, ch3, Ah3, Nh3, Ch3, rfl⟩ := h3.shape
  replace hs := bStep hs hb
  replace Blshare := Blshare.mono hb
  replace Blhigher := Blhigher.mono hb
  replace Bla := Bla.mono hb
  replace Blb := Blb.mono hb
  replace h1 := h1.mono hb
  replace h2 := h2.mono hb
  clear hb
  have ca_0 : w5.cell? ⟨w3.heap.size, 0, none⟩ = some (.bool sh1) := Bla.at 0 rfl
  have ca_1 : w5.cell? ⟨w3.heap.size, 1, none⟩ = some (.slice ah1 nh1 ch1) := Bla.at 1 rfl
  have ca_2 : w5.cell? ⟨w3.heap.size, 2, none⟩ = some (.slice Ah1 Nh1 Ch1) := Bla.at 2 rfl
  have La : w3.heap.size < w5.heap.size := Bla.lt
  go_wp2_with fail
  clear ca_0 ca_1 ca_2 La
  refine Calls.abs ?_
  intro w6 hW
  have hG : Gr [] w5 w6 := by rw [hW]; exact (Gr.refl _ _).alloc
  have hbw : Below w.heap.size w5 w6 := hG.below0 hs.size
  have hk : KeepD w5 w6 := hG.keep True.intro
  have sz_w6 : w.heap.size ≤ w5.heap.size := hs.size
  have nshare_w6 : w.heap.size < w5.heap.size := Blshare.lt
  have nhigher_w6 : w.heap.size + 1 < w5.heap.size := Blhigher.lt
  have na_w6 : w3.heap.size < w5.heap.size := Bla.lt
  have nb_w6 : w3.heap.size + 1 < w5.heap.size := Blb.lt
  have Blx : Bx w6 (w5.heap.size) 26 #[.bool sh3, .slice ah3 nh3 ch3, .slice Ah3 Nh3 Ch3] := by rw [hW]; exact (Bx.new0 _ _ _)
  replace hs := hs.trans hbw
  replace Blshare := hG.bx Blshare notMem0
  replace Blhigher := hG.bx Blhigher notMem0
  replace Bla := hG.bx Bla notMem0
  replace Blb := hG.bx Blb notMem0
  replace h1 := h1.keep hk
  replace h2 := h2.keep hk
  replace h3 := h3.keep hk
  clear hW hG hk hbw
  have hz_w6 : w5.heap.size < w6.heap.size := Blx.lt
  with_reducible refine (al_Tail_e (n := mm) _ (by have := HMM.out; push_cast; omega) h1 sa_ CA.out.1 CA.out.2 (by omega) HY.out).mono ?_
  rintro e w7 ⟨_, rfl, h4, hb⟩
  obtain ⟨sh4, ah4, nh4, ch4, Ah4, Nh4, Ch4, rfl⟩ := h4.shape
  replace hs := bStep hs hb
  replace Blshare := Blshare.mono hb
  replace Blhigher := Blhigher.mono hb
  replace Bla := Bla.mono hb
  replace Blb := Blb.mono hb
  replace Blx := Blx.mono hb
  replace h1 := h1.mono hb
  replace h2 := h2.mono hb
  replace h3 := h3.mono hb
  clear hb
  have cb_0 : w7.cell? ⟨w3.heap.size + 1, 0, none⟩ = some (.bool sh2) := Blb.at 0 rfl
  have cb_1 : w7.cell? ⟨w3.heap.size + 1, 1, none⟩ = some (.slice ah2 nh2 ch2) := Blb.at 1 rfl
  have cb_2 : w7.cell? ⟨w3.heap.size + 1, 2, none⟩ = some (.slice Ah2 Nh2 Ch2) := Blb.at 2 rfl
  have Lb : w3.heap.size + 1 < w7.heap.size := Blb.lt
  have Lb_0 : w3.heap.size < w7.heap.size := by omega
  go_wp2_with fail
  clear cb_0 cb_1 cb_2 Lb Lb_0
  refine Calls.abs ?_
  intro w8 hW
  have hG : Gr [] w7 w8 := by rw [hW]; exact (Gr.refl _ _).alloc
  have hbw : Below w.heap.size w7 w8 := hG.below0 hs.size
  have hk : KeepD w7 w8 := hG.keep True.intro
  have sz_w8 : w.heap.size ≤ w7.heap.size := hs.size
  have nshare_w8 : w.heap.size < w7.heap.size := Blshare.lt
  have nhigher_w8 : w.heap.size + 1 < w7.heap.size := Blhigher.lt
  have na_w8 : w3.heap.size < w7.heap.size := Bla.lt
  have nb_w8 : w3.heap.size + 1 < w7.heap.size := Blb.lt
  have nx_w8 : w5.heap.size < w7.heap.size := Blx.lt
  have Bly : Bx w8 (w7.heap.size) 26 #[.bool sh4, .slice ah4 nh4 ch4, .slice Ah4 Nh4 Ch4] := by rw [hW]; exact (Bx.new0 _ _ _)
  replace hs := hs.trans hbw
  replace Blshare := hG.bx Blshare notMem0
  replace Blhigher := hG.bx Blhigher notMem0
  replace Bla := hG.bx Bla notMem0
  replace Blb := hG.bx Blb notMem0
  replace Blx := hG.bx Blx notMem0
  replace h1 := h1.keep hk
  replace h2 := h2.keep hk
  replace h3 := h3.keep hk
  replace h4 := h4.keep hk
  clear hW hG hk hbw
  have hz_w8 : w7.heap.size < w8.heap.size := Bly.lt
  with_reducible refine (al_Tail_e (n := mm) _ (by have := HMM.out; push_cast; omega) h2 sb_ CB.out.1 CB.out.2 (by omega) HZ.out).mono ?_
  rintro e w9 ⟨_, rfl, h5, hb⟩
  obtain ⟨sh5, ah5, nh5, ch5, Ah5, Nh5, Ch5, rfl⟩ := h5.shape
  replace hs := bStep hs hb
  replace Blshare := Blshare.mono hb
  replace Blhigher := Blhigher.mono hb
  replace Bla := Bla.mono hb
  replace Blb := Blb.mono hb
  replace Blx := Blx.mono hb
  replace Bly := Bly.mono hb
  replace h1 := h1.mono hb
  replace h2 := h2.mono hb
  replace h3 := h3.mono hb
  replace h4 := h4.mono hb
  clear hb
  have ca_0 : w9.cell? ⟨w3.heap.size, 0, none⟩ = some (.bool sh1) := Bla.at 0 rfl
  have ca_1 : w9.cell? ⟨w3.heap.size, 1, none⟩ = some (.slice ah1 nh1 ch1) := Bla.at 1 rfl
  have ca_2 : w9.cell? ⟨w3.heap.size, 2, none⟩ = some (.slice Ah1 Nh1 Ch1) := Bla.at 2 rfl
  have La : w3.heap.size < w9.heap.size := Bla.lt
  go_wp2_with fail
  clear ca_0 ca_1 ca_2 La
  refine Calls.abs ?_
  intro w10 hW
  have hG : Gr [] w9 w10 := by rw [hW]; exact (Gr.refl _ _).alloc
  have hbw : Below w.heap.size w9 w10 := hG.below0 hs.size
  have hk : KeepD w9 w10 := hG.keep True.intro
  have sz_w10 : w.heap.size ≤ w9.heap.size := hs.size
  have nshare_w10 : w.heap.size < w9.heap.size := Blshare.lt
  have nhigher_w10 : w.heap.size + 1 < w9.heap.size := Blhigher.lt
  have na_w10 : w3.heap.size < w9.heap.size := Bla.lt
  have nb_w10 : w3.heap.size + 1 < w9.heap.size := Blb.lt
  have nx_w10 : w5.heap.size < w9.heap.size := Blx.lt
  have ny_w10 : w7.heap.size < w9.heap.size := Bly.lt
  have Blz : Bx w10 (w9.heap.size) 26 #[.bool sh5, .slice ah5 nh5 ch5, .slice Ah5 Nh5 Ch5] := by rw [hW]; exact (Bx.new0 _ _ _)
  replace hs := hs.trans hbw
  replace Blshare := hG.bx Blshare notMem0
  replace Blhigher := hG.bx Blhigher notMem0
  replace Bla := hG.bx Bla notMem0
  replace Blb := hG.bx Blb notMem0
  replace Blx := hG.bx Blx notMem0
  replace Bly := hG.bx Bly notMem0
  replace h1 := h1.keep hk
  replace h2 := h2.keep hk
  replace h3 := h3.keep hk
  replace h4 := h4.keep hk
  replace h5 := h5.keep hk
  clear hW hG hk hbw
  have hz_w10 : w9.heap.size < w10.heap.size := Blz.lt
  with_reducible refine (al_Tail_e (n := (mm + 1)) _ (by have := HMM.out; push_cast; omega) h1 sa_ CA.out.1 CA.out.2 (by omega) HU.out).mono ?_
  rintro e w11 ⟨_, rfl, h6, hb⟩
  obtain ⟨sh6, ah6, nh6, ch6, Ah6, Nh6, Ch6, rfl⟩ := h6.shape
  replace hs := bStep hs hb
  replace Blshare := Blshare.mono hb
  replace Blhigher := Blhigher.mono hb
  replace Bla := Bla.mono hb
  replace Blb := Blb.mono hb
  replace Blx := Blx.mono hb
  replace Bly := Bly.mono hb
  replace Blz := Blz.mono hb
  replace h1 := h1.mono hb
  replace h2 := h2.mono hb
  replace h3 := h3.mono hb
  replace h4 := h4.mono hb
  replace h5 := h5.mono hb
  clear hb
  go_upto_region 7 with fail
  refine Code.abs ?_
  intro w12 hW
  have hG : Gr [] w11 w12 := by rw [hW]; exact (Gr.refl _ _).alloc
  have hbw : Below w.heap.size w11 w12 := hG.below0 hs.size
  have hk : KeepD w11 w12 := hG.keep True.intro
  have sz_w12 : w.heap.size ≤ w11.heap.size := hs.size
  have nshare_w12 : w.heap.size < w11.heap.size := Blshare.lt
  have nhigher_w12 : w.heap.size + 1 < w11.heap.size := Blhigher.lt
  have na_w12 : w3.heap.size < w11.heap.size := Bla.lt
  have nb_w12 : w3.heap.size + 1 < w11.heap.size := Blb.lt
  have nx_w12 : w5.heap.size < w11.heap.size := Blx.lt
  have ny_w12 : w7.heap.size < w11.heap.size := Bly.lt
  have nz_w12 : w9.heap.size < w11.heap.size := Blz.lt
  have Blw : Bx w12 (w11.heap.size) 26 #[.bool sh6, .slice ah6 nh6 ch6, .slice Ah6 Nh6 Ch6] := by rw [hW]; exact (Bx.new0 _ _ _)
  replace hs := hs.trans hbw
  replace Blshare := hG.bx Blshare notMem0
  replace Blhigher := hG.bx Blhigher notMem0
  replace Bla := hG.bx Bla notMem0
  replace Blb := hG.bx Blb notMem0
  replace Blx := hG.bx Blx notMem0
  replace Bly := hG.bx Bly notMem0
  replace Blz := hG.bx Blz notMem0
  replace h1 := h1.keep hk
  replace h2 := h2.keep hk
  replace h3 := h3.keep hk
  replace h4 := h4.keep hk
  replace h5 := h5.keep hk
  replace h6 := h6.keep hk
  clear hW hG hk hbw
  have hz_w12 : w11.heap.size < w12.heap.size := Blw.lt
  go_cut [25, 26] (fun kv0 kx0 wz => ∃ go sh9 ah9 nh9 ch9 Ah9 Nh9 Ch9, kv0 = .pointer (some ⟨go, 0, none⟩) ∧ kx0 = .int .i64 0 ∧ w.heap.size ≤ go ∧ go ≠ w.heap.size ∧ go ≠ (w.heap.size + 1) ∧ go ≠ w3.heap.size ∧ go ≠ (w3.heap.size + 1) ∧ go ≠ w5.heap.size ∧ go ≠ w7.heap.size ∧ go ≠ w9.heap.size ∧ go ≠ w11.heap.size ∧ Bx wz go 26 #[.bool sh9, .slice ah9 nh9 ch9, .slice Ah9 Nh9 Ch9] ∧ Below w.heap.size w wz ∧ Bx wz (w.heap.size) 22 #[.int .u8 s0, .int .u8 s1] ∧ Bx wz (w.heap.size + 1) 22 #[.int .u8 t0, .int .u8 t1] ∧ Bx wz (w3.heap.size) 26 #[.bool sh1, .slice ah1 nh1 ch1, .slice Ah1 Nh1 Ch1] ∧ Bx wz (w3.heap.size + 1) 26 #[.bool sh2, .slice ah2 nh2 ch2, .slice Ah2 Nh2 Ch2] ∧ Bx wz (w5.heap.size) 26 #[.bool sh3, .slice ah3 nh3 ch3, .slice Ah3 Nh3 Ch3] ∧ Bx wz (w7.heap.size) 26 #[.bool sh4, .slice ah4 nh4 ch4, .slice Ah4 Nh4 Ch4] ∧ Bx wz (w9.heap.size) 26 #[.bool sh5, .slice ah5 nh5 ch5, .slice Ah5 Nh5 Ch5] ∧ Bx wz (w11.heap.size) 26 #[.bool sh6, .slice ah6 nh6 ch6, .slice Ah6 Nh6 Ch6] ∧ PV wz (.agg #[.bool sh1, .slice ah1 nh1 ch1, .slice Ah1 Nh1 Ch1]) (a) ∧ PV wz (.agg #[.bool sh2, .slice ah2 nh2 ch2, .slice Ah2 Nh2 Ch2]) (b) ∧ PV wz (.agg #[.bool sh3, .slice ah3 nh3 ch3, .slice Ah3 Nh3 Ch3]) (x) ∧ PV wz (.agg #[.bool sh4, .slice ah4 nh4 ch4, .slice Ah4 Nh4 Ch4]) (y) ∧ PV wz (.agg #[.bool sh5, .slice ah5 nh5 ch5, .slice Ah5 Nh5 Ch5]) (z) ∧ PV wz (.agg #[.bool sh6, .slice ah6 nh6 ch6, .slice Ah6 Nh6 Ch6]) (u) ∧ PV wz (.agg #[.bool sh9, .slice ah9 nh9 ch9, .slice Ah9 Nh9 Ch9]) (o))
  case first => as_aux_lemma =>
    refine U_region (S := fun w' => w'.cell? ⟨w3.heap.size, 0, none⟩ = some (.bool sh1) ∧ w'.cell? ⟨w3.heap.size, 1, none⟩ = some (.slice ah1 nh1 ch1) ∧ w'.cell? ⟨w3.heap.size, 2, none⟩ = some (.slice Ah1 Nh1 Ch1)) (by kernel_rfl) 14 ?_
    refine AnyU.abs ?_
    intro w13 hW
    have hb : Below w12.heap.size w12 w13 := by rw [hW]; exact bDrew _
    replace hs := bStep hs hb
    replace Blshare := Blshare.mono hb
    replace Blhigher := Blhigher.mono hb
    replace Bla := Bla.mono hb
    replace Blb := Blb.mono hb
    replace Blx := Blx.mono hb
    replace Bly := Bly.mono hb
    replace Blz := Blz.mono hb
    replace Blw := Blw.mono hb
    replace h1 := h1.mono hb
    replace h2 := h2.mono hb
    replace h3 := h3.mono hb
    replace h4 := h4.mono hb
    replace h5 := h5.mono hb
    replace h6 := h6.mono hb
    clear hb hW
    have ca_0 : w13.cell? ⟨w3.heap.size, 0, none⟩ = some (.bool sh1) := Bla.at 0 rfl
    have ca_1 : w13.cell? ⟨w3.heap.size, 1, none⟩ = some (.slice ah1 nh1 ch1) := Bla.at 1 rfl
    have ca_2 : w13.cell? ⟨w3.heap.size, 2, none⟩ = some (.slice Ah1 Nh1 Ch1) := Bla.at 2 rfl
    have hH := (show w13.cell? ⟨w3.heap.size, 0, none⟩ = some (.bool sh1) ∧ w13.cell? ⟨w3.heap.size, 1, none⟩ = some (.slice ah1 nh1 ch1) ∧ w13.cell? ⟨w3.heap.size, 2, none⟩ = some (.slice Ah1 Nh1 Ch1) from ⟨ca_0, ca_1, ca_2⟩)
    refine U_take (i := 0) (v := ?_) rfl (by kernel_rfl) (by kernel_rfl) (by kernel_rfl) (by kernel_rfl) (fun _ _ _ h => h) (Or.inl ⟨by rfl, ?_⟩) hH ?_
    rotate_left
    · intro w hSw
      try dsimp only at hSw
      go_simp
      try with_reducible rfl
    try simp only [Act.put, List.setIfInBounds_toArray, List.set_cons_zero, List.set_cons_succ]
    refine U_take (i := 1) (v := ?_) rfl (by kernel_rfl) (by kernel_rfl) (by kernel_rfl) (by kernel_rfl) (fun _ _ _ h => h) (Or.inl ⟨by rfl, ?_⟩) hH ?_
    rotate_left
    · intro w hSw
      try dsimp only at hSw
      go_simp
      try with_reducible rfl
    try simp only [Act.put, List.setIfInBounds_toArray, List.set_cons_zero, List.set_cons_succ]
    refine U_take (i := 2) (v := ?_) rfl (by kernel_rfl) (by kernel_rfl) (by kernel_rfl) (by kernel_rfl) (fun _ _ _ h => h) (Or.inl ⟨by rfl, ?_⟩) hH ?_
    rotate_left
    · intro w hSw
      try dsimp only at hSw
      go_simp
      try with_reducible rfl
    try simp only [Act.put, List.setIfInBounds_toArray, List.set_cons_zero, List.set_cons_succ]
    refine U_take (i := 3) (v := ?_) rfl (by kernel_rfl) (by kernel_rfl) (by kernel_rfl) (by kernel_rfl) (fun _ _ _ h => h) (Or.inl ⟨by rfl, ?_⟩) hH ?_
    rotate_left
    · intro w hSw
      try dsimp only at hSw
      go_simp
      try with_reducible rfl
    try simp only [Act.put, List.setIfInBounds_toArray, List.set_cons_zero, List.set_cons_succ]
    refine U_take (i := 4) (v := ?_) rfl (by kernel_rfl) (by kernel_rfl) (by kernel_rfl) (by kernel_rfl) (fun _ _ _ h => h) (Or.inl ⟨by rfl, ?_⟩) hH ?_
    rotate_left
    · intro w hSw
      try dsimp only at hSw
      go_simp
      try with_reducible rfl
    try simp only [Act.put, List.setIfInBounds_toArray, List.set_cons_zero, List.set_cons_succ]
    refine U_take (i := 6) (v := ?_) rfl (by kernel_rfl) (by kernel_rfl) (by kernel_rfl) (by kernel_rfl) (fun _ _ _ h => h) (Or.inl ⟨by rfl, ?_⟩) hH ?_
    rotate_left
    · intro w hSw
      try dsimp only at hSw
      go_simp
      try with_reducible rfl
    try simp only [Act.put, List.setIfInBounds_toArray, List.set_cons_zero, List.set_cons_succ]
    refine U_two (i := 5) (j := 12) (by kernel_rfl) rfl rfl (fun K hK => ?_) (fun K hK => ?_)
    · clear hH
      go_simp
      (with_reducible refine (p_one _).mono ?_)
      rintro e w14 ⟨_, rfl, h7, hb⟩
      obtain ⟨sh7, ah7, nh7, ch7, Ah7, Nh7, Ch7, rfl⟩ := h7.shape
      replace hs := bStep hs hb
      replace Blshare := Blshare.mono hb
      replace Blhigher := Blhigher.mono hb
      replace Bla := Bla.mono hb
      replace Blb := Blb.mono hb
      replace Blx := Blx.mono hb
      replace Bly := Bly.mono hb
      replace Blz := Blz.mono hb
      replace Blw := Blw.mono hb
      replace h1 := h1.mono hb
      replace h2 := h2.mono hb
      replace h3 := h3.mono hb
      replace h4 := h4.mono hb
      replace h5 := h5.mono hb
      replace h6 := h6.mono hb
      replace ca_0 := cellK ca_0 hb
      replace ca_1 := cellK ca_1 hb
      replace ca_2 := cellK ca_2 hb
      clear hb
      try go_wp2_with fail
      refine hK.out _ _ ⟨ca_0, ca_1, ca_2⟩ (fun hH => ?_)
      clear hK K
      try simp only [Act.put, List.setIfInBounds_toArray, List.set_cons_zero, List.set_cons_succ]
      refine U_two (i := 7) (j := 12) (by kernel_rfl) rfl rfl (fun K hK => ?_) (fun K hK => ?_)
      · clear hH
        go_simp
        (with_reducible refine (pSub h7 h1 (SzQ.fit szQ_one) (SzQ.fit sa_)).mono ?_)
        rintro e w15 ⟨_, rfl, h8, hb⟩
        obtain ⟨sh8, ah8, nh8, ch8, Ah8, Nh8, Ch8, rfl⟩ := h8.shape
        replace hs := bStep hs hb
        replace Blshare := Blshare.mono hb
        replace Blhigher := Blhigher.mono hb
        replace Bla := Bla.mono hb
        replace Blb := Blb.mono hb
        replace Blx := Blx.mono hb
        replace Bly := Bly.mono hb
        replace Blz := Blz.mono hb
        replace Blw := Blw.mono hb
        replace h1 := h1.mono hb
        replace h2 := h2.mono hb
        replace h3 := h3.mono hb
        replace h4 := h4.mono hb
        replace h5 := h5.mono hb
        replace h6 := h6.mono hb
        replace h7 := h7.mono hb
        replace ca_0 := cellK ca_0 hb
        replace ca_1 := cellK ca_1 hb
        replace ca_2 := cellK ca_2 hb
        clear hb
        try go_wp2_with fail
        refine hK.out _ _ ⟨ca_0, ca_1, ca_2⟩ (fun hH => ?_)
        clear hK K
        try simp only [Act.put, List.setIfInBounds_toArray, List.set_cons_zero, List.set_cons_succ]
        refine U_two (i := 8) (j := 12) (by kernel_rfl) rfl rfl (fun K hK => ?_) (fun K hK => ?_)
        · clear hH
          go_simp
          (with_reducible refine (al_Tail_w (n := mm) _ (by have := HMM.out; omega) (by rw [IntWalk.i64_in (1 + n % 12 - k % 13) (by omega), IntWalk.i64_in (1 + n % 12 - k % 13 + 1) (by omega)]) h8 sca CCA.out.1 CCA.out.2 (by omega) HO.out).mono ?_)
          rintro e w16 ⟨_, rfl, h9, hb⟩
          obtain ⟨sh9, ah9, nh9, ch9, Ah9, Nh9, Ch9, rfl⟩ := h9.shape
          replace hs := bStep hs hb
          replace Blshare := Blshare.mono hb
          replace Blhigher := Blhigher.mono hb
          replace Bla := Bla.mono hb
          replace Blb := Blb.mono hb
          replace Blx := Blx.mono hb
          replace Bly := Bly.mono hb
          replace Blz := Blz.mono hb
          replace Blw := Blw.mono hb
          replace h1 := h1.mono hb
          replace h2 := h2.mono hb
          replace h3 := h3.mono hb
          replace h4 := h4.mono hb
          replace h5 := h5.mono hb
          replace h6 := h6.mono hb
          replace h7 := h7.mono hb
          replace h8 := h8.mono hb
          replace ca_0 := cellK ca_0 hb
          replace ca_1 := cellK ca_1 hb
          replace ca_2 := cellK ca_2 hb
          clear hb
          try go_wp2_with fail
          refine hK.out _ _ ⟨ca_0, ca_1, ca_2⟩ (fun hH => ?_)
          clear hK K
          try simp only [Act.put, List.setIfInBounds_toArray, List.set_cons_zero, List.set_cons_succ]
          refine U_take (i := 9) (v := ?_) rfl (by kernel_rfl) (by kernel_rfl) (by kernel_rfl) (by kernel_rfl) (fun _ _ _ h => h) (Or.inl ⟨by rfl, ?_⟩) hH ?_
          rotate_left
          · intro w hSw
            try dsimp only at hSw
            go_simp
            try with_reducible rfl
          try simp only [Act.put, List.setIfInBounds_toArray, List.set_cons_zero, List.set_cons_succ]
          refine U_take (i := 10) (v := ?_) rfl (by kernel_rfl) (by kernel_rfl) (by kernel_rfl) (by kernel_rfl) (fun _ _ _ h => h) (Or.inl ⟨by rfl, ?_⟩) hH ?_
          rotate_left
          · intro w hSw
            try dsimp only at hSw
            go_simp
            try with_reducible rfl
          try simp only [Act.put, List.setIfInBounds_toArray, List.set_cons_zero, List.set_cons_succ]
          refine U_take (i := 11) (v := ?_) rfl (by kernel_rfl) (by kernel_rfl) (by kernel_rfl) (by kernel_rfl) (fun _ _ _ h => h) (Or.inl ⟨by rfl, ?_⟩) hH ?_
          rotate_left
          · intro w hSw
            try dsimp only at hSw
            go_simp
            try with_reducible rfl
          try simp only [Act.put, List.setIfInBounds_toArray, List.set_cons_zero, List.set_cons_succ]
          clear hH
          refine U_one (i := 12) (by kernel_rfl) rfl (fun K hK => ?_)
          go_simp
          generalize hWn : (w16.alloc (.cells #[.bool false, .slice none 0 0, .slice none 0 0] 26)) = w17
          have hb : Below w16.heap.size w16 w17 := by rw [← hWn]; exact (Below.refl _ _).alloc (Nat.le_refl _) _
          have Blo : Bx w17 (w16.heap.size) 26 #[.bool false, .slice none 0 0, .slice none 0 0] := by rw [← hWn]; exact Bx.new _ _ _
          have nshare_o : w.heap.size ≠ w16.heap.size := by have := Blshare.lt; omega
          have nhigher_o : w.heap.size + 1 ≠ w16.heap.size := by have := Blhigher.lt; omega
          have na_o : w3.heap.size ≠ w16.heap.size := by have := Bla.lt; omega
          have nb_o : w3.heap.size + 1 ≠ w16.heap.size := by have := Blb.lt; omega
          have nx_o : w5.heap.size ≠ w16.heap.size := by have := Blx.lt; omega
          have ny_o : w7.heap.size ≠ w16.heap.size := by have := Bly.lt; omega
          have nz_o : w9.heap.size ≠ w16.heap.size := by have := Blz.lt; omega
          have nw_o : w11.heap.size ≠ w16.heap.size := by have := Blw.lt; omega
          have sz_o : w.heap.size ≤ w16.heap.size := hs.size
          replace hs := bStep hs hb
          replace Blshare := Blshare.mono hb
          replace Blhigher := Blhigher.mono hb
          replace Bla := Bla.mono hb
          replace Blb := Blb.mono hb
          replace Blx := Blx.mono hb
          replace Bly := Bly.mono hb
          replace Blz := Blz.mono hb
          replace Blw := Blw.mono hb
          replace h1 := h1.mono hb
          replace h2 := h2.mono hb
          replace h3 := h3.mono hb
          replace h4 := h4.mono hb
          replace h5 := h5.mono hb
          replace h6 := h6.mono hb
          replace h7 := h7.mono hb
          replace h8 := h8.mono hb
          replace h9 := h9.mono hb
          replace ca_0 := cellK ca_0 hb
          replace ca_1 := cellK ca_1 hb
          replace ca_2 := cellK ca_2 hb
          clear hb hWn
          refine hK.out _ _ ⟨ca_0, ca_1, ca_2⟩ (fun hH => ?_)
          clear hK K
          try simp only [Act.put, List.setIfInBounds_toArray, List.set_cons_zero, List.set_cons_succ]
          clear hH
          have co_0 : w17.cell? ⟨w16.heap.size, 0, none⟩ = some (.bool false) := Blo.at 0 rfl
          have co_1 : w17.cell? ⟨w16.heap.size, 1, none⟩ = some (.slice none 0 0) := Blo.at 1 rfl
          have co_2 : w17.cell? ⟨w16.heap.size, 2, none⟩ = some (.slice none 0 0) := Blo.at 2 rfl
          have fo := Blo.free
          have Lo : w16.heap.size < w17.heap.size := Blo.lt
          refine U_one (i := 13) (by kernel_rfl) rfl (fun K hK => ?_)
          go_simp
          generalize hW_ : (((w17.setCell ⟨w16.heap.size, 0, none⟩ (.bool sh9)).setCell ⟨w16.heap.size, 1, none⟩ (.slice ah9 nh9 ch9)).setCell ⟨w16.heap.size, 2, none⟩ (.slice Ah9 Nh9 Ch9)) = w18
          have hW := hW_.symm
          clear hW_
          have hG : Gr [w16.heap.size] w17 w18 := by rw [hW]; exact (Gr.refl _ _).set.set.set
          have hsz := hs.size
          have lo := Blo.lt
          have hbw : Below w.heap.size w17 w18 := hG.below1 hs.size (by first | omega | assumption)
          have hk : KeepD w17 w18 := hG.keep ⟨⟨_, Blo.ty, by decide⟩, True.intro⟩
          have Bl1o : Bx w18 (w16.heap.size) 26 #[.bool sh9, .slice ah9 nh9 ch9, .slice Ah9 Nh9 Ch9] := by rw [hW]; exact Blo.set3
          replace hs := hs.trans hbw
          replace Blshare := hG.bx Blshare (notMem1 (by omega))
          replace Blhigher := hG.bx Blhigher (notMem1 (by omega))
          replace Bla := hG.bx Bla (notMem1 (by omega))
          replace Blb := hG.bx Blb (notMem1 (by omega))
          replace Blx := hG.bx Blx (notMem1 (by omega))
          replace Bly := hG.bx Bly (notMem1 (by omega))
          replace Blz := hG.bx Blz (notMem1 (by omega))
          replace Blw := hG.bx Blw (notMem1 (by omega))
          replace Blo := Bl1o
          clear Bl1o
          replace h1 := h1.keep hk
          replace h2 := h2.keep hk
          replace h3 := h3.keep hk
          replace h4 := h4.keep hk
          replace h5 := h5.keep hk
          replace h6 := h6.keep hk
          replace h7 := h7.keep hk
          replace h8 := h8.keep hk
          replace h9 := h9.keep hk
          replace ca_0 := hG.cell ca_0 (notMem1 (by dsimp only; omega))
          replace ca_1 := hG.cell ca_1 (notMem1 (by dsimp only; omega))
          replace ca_2 := hG.cell ca_2 (notMem1 (by dsimp only; omega))
          clear hW hG hk hbw hsz lo
          refine hK.out _ _ ⟨ca_0, ca_1, ca_2⟩ (fun hH => ?_)
          clear hK K
          try simp only [Act.put, List.setIfInBounds_toArray, List.set_cons_zero, List.set_cons_succ]
          clear hH
          refine U_last (by kernel_rfl) rfl (by kernel_rfl) (fun K hK => ?_)
          go_simp
          refine hK.out _ _ ?_
          clear hK K
          intro wl hW
          rw [hW]
          clear hW wl
          try simp only [Act.put, List.setIfInBounds_toArray, List.set_cons_zero, List.set_cons_succ]
          clear ca_0 ca_1 ca_2
          go_wp2_with fail
          go_meet
          exact ⟨w16.heap.size, _, _, _, _, _, _, _, rfl, rfl, (by first | exact sz_o | omega), (by omega), (by omega), (by omega), (by omega), (by omega), (by omega), (by omega), (by omega), Blo, hs, Blshare, Blhigher, Bla, Blb, Blx, Bly, Blz, Blw, h1, h2, h3, h4, h5, h6, h9⟩
        · clear hH
          go_simp
          generalize hWn : (w15.alloc (.cells #[.bool false, .slice none 0 0, .slice none 0 0] 26)) = w16
          have hb : Below w15.heap.size w15 w16 := by rw [← hWn]; exact (Below.refl _ _).alloc (Nat.le_refl _) _
          have Blo : Bx w16 (w15.heap.size) 26 #[.bool false, .slice none 0 0, .slice none 0 0] := by rw [← hWn]; exact Bx.new _ _ _
          have nshare_o : w.heap.size ≠ w15.heap.size := by have := Blshare.lt; omega
          have nhigher_o : w.heap.size + 1 ≠ w15.heap.size := by have := Blhigher.lt; omega
          have na_o : w3.heap.size ≠ w15.heap.size := by have := Bla.lt; omega
          have nb_o : w3.heap.size + 1 ≠ w15.heap.size := by have := Blb.lt; omega
          have nx_o : w5.heap.size ≠ w15.heap.size := by have := Blx.lt; omega
          have ny_o : w7.heap.size ≠ w15.heap.size := by have := Bly.lt; omega
          have nz_o : w9.heap.size ≠ w15.heap.size := by have := Blz.lt; omega
          have nw_o : w11.heap.size ≠ w15.heap.size := by have := Blw.lt; omega
          have sz_o : w.heap.size ≤ w15.heap.size := hs.size
          replace hs := bStep hs hb
          replace Blshare := Blshare.mono hb
          replace Blhigher := Blhigher.mono hb
          replace Bla := Bla.mono hb
          replace Blb := Blb.mono hb
          replace Blx := Blx.mono hb
          replace Bly := Bly.mono hb
          replace Blz := Blz.mono hb
          replace Blw := Blw.mono hb
          replace h1 := h1.mono hb
          replace h2 := h2.mono hb
          replace h3 := h3.mono hb
          replace h4 := h4.mono hb
          replace h5 := h5.mono hb
          replace h6 := h6.mono hb
          replace h7 := h7.mono hb
          replace h8 := h8.mono hb
          replace ca_0 := cellK ca_0 hb
          replace ca_1 := cellK ca_1 hb
          replace ca_2 := cellK ca_2 hb
          clear hb hWn
          refine hK.out _ _ ⟨ca_0, ca_1, ca_2⟩ (fun hH => ?_)
          clear hK K
          try simp only [Act.put, List.setIfInBounds_toArray, List.set_cons_zero, List.set_cons_succ]
          clear hH
          refine U_one (i := 8) (by kernel_rfl) rfl (fun K hK => ?_)
          go_simp
          (with_reducible refine (al_Tail_w (n := mm) _ (by have := HMM.out; omega) (by rw [IntWalk.i64_in (1 + n % 12 - k % 13) (by omega), IntWalk.i64_in (1 + n % 12 - k % 13 + 1) (by omega)]) h8 sca CCA.out.1 CCA.out.2 (by omega) HO.out).mono ?_)
          rintro e w17 ⟨_, rfl, h9, hb⟩
          obtain ⟨sh9, ah9, nh9, ch9, Ah9, Nh9, Ch9, rfl⟩ := h9.shape
          replace hs := bStep hs hb
          replace Blshare := Blshare.mono hb
          replace Blhigher := Blhigher.mono hb
          replace Bla := Bla.mono hb
          replace Blb := Blb.mono hb
          replace Blx := Blx.mono hb
          replace Bly := Bly.mono hb
          replace Blz := Blz.mono hb
          replace Blw := Blw.mono hb
          replace Blo := Blo.mono hb
          replace h1 := h1.mono hb
          replace h2 := h2.mono hb
          replace h3 := h3.mono hb
          replace h4 := h4.mono hb
          replace h5 := h5.mono hb
          replace h6 := h6.mono hb
          replace h7 := h7.mono hb
          replace h8 := h8.mono hb
          replace ca_0 := cellK ca_0 hb
          replace ca_1 := cellK ca_1 hb
          replace ca_2 := cellK ca_2 hb
          clear hb
          try go_wp2_with fail
          refine hK.out _ _ ⟨ca_0, ca_1, ca_2⟩ (fun hH => ?_)
          clear hK K
          try simp only [Act.put, List.setIfInBounds_toArray, List.set_cons_zero, List.set_cons_succ]
          refine U_take (i := 9) (v := ?_) rfl (by kernel_rfl) (by kernel_rfl) (by kernel_rfl) (by kernel_rfl) (fun _ _ _ h => h) (Or.inl ⟨by rfl, ?_⟩) hH ?_
          rotate_left
          · intro w hSw
            try dsimp only at hSw
            go_simp
            try with_reducible rfl
          try simp only [Act.put, List.setIfInBounds_toArray, List.set_cons_zero, List.set_cons_succ]
          refine U_take (i := 10) (v := ?_) rfl (by kernel_rfl) (by kernel_rfl) (by kernel_rfl) (by kernel_rfl) (fun _ _ _ h => h) (Or.inl ⟨by rfl, ?_⟩) hH ?_
          rotate_left
          · intro w hSw
            try dsimp only at hSw
            go_simp
            try with_reducible rfl
          try simp only [Act.put, List.setIfInBounds_toArray, List.set_cons_zero, List.set_cons_succ]
          refine U_take (i := 11) (v := ?_) rfl (by kernel_rfl) (by kernel_rfl) (by kernel_rfl) (by kernel_rfl) (fun _ _ _ h => h) (Or.inl ⟨by rfl, ?_⟩) hH ?_
          rotate_left
          · intro w hSw
            try dsimp only at hSw
            go_simp
            try with_reducible rfl
          try simp only [Act.put, List.setIfInBounds_toArray, List.set_cons_zero, List.set_cons_succ]
          clear hH
          have co_0 : w17.cell? ⟨w15.heap.size, 0, none⟩ = some (.bool false) := Blo.at 0 rfl
          have co_1 : w17.cell? ⟨w15.heap.size, 1, none⟩ = some (.slice none 0 0) := Blo.at 1 rfl
          have co_2 : w17.cell? ⟨w15.heap.size, 2, none⟩ = some (.slice none 0 0) := Blo.at 2 rfl
          have fo := Blo.free
          have Lo : w15.heap.size < w17.heap.size := Blo.lt
          refine U_one (i := 13) (by kernel_rfl) rfl (fun K hK => ?_)
          go_simp
          generalize hW_ : (((w17.setCell ⟨w15.heap.size, 0, none⟩ (.bool sh9)).setCell ⟨w15.heap.size, 1, none⟩ (.slice ah9 nh9 ch9)).setCell ⟨w15.heap.size, 2, none⟩ (.slice Ah9 Nh9 Ch9)) = w18
          have hW := hW_.symm
          clear hW_
          have hG : Gr [w15.heap.size] w17 w18 := by rw [hW]; exact (Gr.refl _ _).set.set.set
          have hsz := hs.size
          have lo := Blo.lt
          have hbw : Below w.heap.size w17 w18 := hG.below1 hs.size (by first | omega | assumption)
          have hk : KeepD w17 w18 := hG.keep ⟨⟨_, Blo.ty, by decide⟩, True.intro⟩
          have Bl1o : Bx w18 (w15.heap.size) 26 #[.bool sh9, .slice ah9 nh9 ch9, .slice Ah9 Nh9 Ch9] := by rw [hW]; exact Blo.set3
          replace hs := hs.trans hbw
          replace Blshare := hG.bx Blshare (notMem1 (by omega))
          replace Blhigher := hG.bx Blhigher (notMem1 (by omega))
          replace Bla := hG.bx Bla (notMem1 (by omega))
          replace Blb := hG.bx Blb (notMem1 (by omega))
          replace Blx := hG.bx Blx (notMem1 (by omega))
          replace Bly := hG.bx Bly (notMem1 (by omega))
          replace Blz := hG.bx Blz (notMem1 (by omega))
          replace Blw := hG.bx Blw (notMem1 (by omega))
          replace Blo := Bl1o
          clear Bl1o
          replace h1 := h1.keep hk
          replace h2 := h2.keep hk
          replace h3 := h3.keep hk
          replace h4 := h4.keep hk
          replace h5 := h5.keep hk
          replace h6 := h6.keep hk
          replace h7 := h7.keep hk
          replace h8 := h8.keep hk
          replace h9 := h9.keep hk
          replace ca_0 := hG.cell ca_0 (notMem1 (by dsimp only; omega))
          replace ca_1 := hG.cell ca_1 (notMem1 (by dsimp only; omega))
          replace ca_2 := hG.cell ca_2 (notMem1 (by dsimp only; omega))
          clear hW hG hk hbw hsz lo
          refine hK.out _ _ ⟨ca_0, ca_1, ca_2⟩ (fun hH => ?_)
          clear hK K
          try simp only [Act.put, List.setIfInBounds_toArray, List.set_cons_zero, List.set_cons_succ]
          clear hH
          refine U_last (by kernel_rfl) rfl (by kernel_rfl) (fun K hK => ?_)
          go_simp
          refine hK.out _ _ ?_
          clear hK K
          intro wl hW
          rw [hW]
          clear hW wl
          try simp only [Act.put, List.setIfInBounds_toArray, List.set_cons_zero, List.set_cons_succ]
          clear ca_0 ca_1 ca_2
          go_wp2_with fail
          go_meet
          exact ⟨w15.heap.size, _, _, _, _, _, _, _, rfl, rfl, (by first | exact sz_o | omega), (by omega), (by omega), (by omega), (by omega), (by omega), (by omega), (by omega), (by omega), Blo, hs, Blshare, Blhigher, Bla, Blb, Blx, Bly, Blz, Blw, h1, h2, h3, h4, h5, h6, h9⟩
      · clear hH
        go_simp
        generalize hWn : (w14.alloc (.cells #[.bool false, .slice none 0 0, .slice none 0 0] 26)) = w15
        have hb : Below w14.heap.size w14 w15 := by rw [← hWn]; exact (Below.refl _ _).alloc (Nat.le_refl _) _
        have Blo : Bx w15 (w14.heap.size) 26 #[.bool false, .slice none 0 0, .slice none 0 0] := by rw [← hWn]; exact Bx.new _ _ _
        have nshare_o : w.heap.size ≠ w14.heap.size := by have := Blshare.lt; omega
        have nhigher_o : w.heap.size + 1 ≠ w14.heap.size := by have := Blhigher.lt; omega
        have na_o : w3.heap.size ≠ w14.heap.size := by have := Bla.lt; omega
        have nb_o : w3.heap.size + 1 ≠ w14.heap.size := by have := Blb.lt; omega
        have nx_o : w5.heap.size ≠ w14.heap.size := by have := Blx.lt; omega
        have ny_o : w7.heap.size ≠ w14.heap.size := by have := Bly.lt; omega
        have nz_o : w9.heap.size ≠ w14.heap.size := by have := Blz.lt; omega
        have nw_o : w11.heap.size ≠ w14.heap.size := by have := Blw.lt; omega
        have sz_o : w.heap.size ≤ w14.heap.size := hs.size
        replace hs := bStep hs hb
        replace Blshare := Blshare.mono hb
        replace Blhigher := Blhigher.mono hb
        replace Bla := Bla.mono hb
        replace Blb := Blb.mono hb
        replace Blx := Blx.mono hb
        replace Bly := Bly.mono hb
        replace Blz := Blz.mono hb
        replace Blw := Blw.mono hb
        replace h1 := h1.mono hb
        replace h2 := h2.mono hb
        replace h3 := h3.mono hb
        replace h4 := h4.mono hb
        replace h5 := h5.mono hb
        replace h6 := h6.mono hb
        replace h7 := h7.mono hb
        replace ca_0 := cellK ca_0 hb
        replace ca_1 := cellK ca_1 hb
        replace ca_2 := cellK ca_2 hb
        clear hb hWn
        refine hK.out _ _ ⟨ca_0, ca_1, ca_2⟩ (fun hH => ?_)
        clear hK K
        try simp only [Act.put, List.setIfInBounds_toArray, List.set_cons_zero, List.set_cons_succ]
        clear hH
        refine U_one (i := 7) (by kernel_rfl) rfl (fun K hK => ?_)
        go_simp
        (with_reducible refine (pSub h7 h1 (SzQ.fit szQ_one) (SzQ.fit sa_)).mono ?_)
        rintro e w16 ⟨_, rfl, h8, hb⟩
        obtain ⟨sh8, ah8, nh8, ch8, Ah8, Nh8, Ch8, rfl⟩ := h8.shape
        replace hs := bStep hs hb
        replace Blshare := Blshare.mono hb
        replace Blhigher := Blhigher.mono hb
        replace Bla := Bla.mono hb
        replace Blb := Blb.mono hb
        replace Blx := Blx.mono hb
        replace Bly := Bly.mono hb
        replace Blz := Blz.mono hb
        replace Blw := Blw.mono hb
        replace Blo := Blo.mono hb
        replace h1 := h1.mono hb
        replace h2 := h2.mono hb
        replace h3 := h3.mono hb
        replace h4 := h4.mono hb
        replace h5 := h5.mono hb
        replace h6 := h6.mono hb
        replace h7 := h7.mono hb
        replace ca_0 := cellK ca_0 hb
        replace ca_1 := cellK ca_1 hb
        replace ca_2 := cellK ca_2 hb
        clear hb
        try go_wp2_with fail
        refine hK.out _ _ ⟨ca_0, ca_1, ca_2⟩ (fun hH => ?_)
        clear hK K
        try simp only [Act.put, List.setIfInBounds_toArray, List.set_cons_zero, List.set_cons_succ]
        clear hH
        refine U_one (i := 8) (by kernel_rfl) rfl (fun K hK => ?_)
        go_simp
        (with_reducible refine (al_Tail_w (n := mm) _ (by have := HMM.out; omega) (by rw [IntWalk.i64_in (1 + n % 12 - k % 13) (by omega), IntWalk.i64_in (1 + n % 12 - k % 13 + 1) (by omega)]) h8 sca CCA.out.1 CCA.out.2 (by omega) HO.out).mono ?_)
        rintro e w17 ⟨_, rfl, h9, hb⟩
        obtain ⟨sh9, ah9, nh9, ch9, Ah9, Nh9, Ch9, rfl⟩ := h9.shape
        replace hs := bStep hs hb
        replace Blshare := Blshare.mono hb
        replace Blhigher := Blhigher.mono hb
        replace Bla := Bla.mono hb
        replace Blb := Blb.mono hb
        replace Blx := Blx.mono hb
        replace Bly := Bly.mono hb
        replace Blz := Blz.mono hb
        replace Blw := Blw.mono hb
        replace Blo := Blo.mono hb
        replace h1 := h1.mono hb
        replace h2 := h2.mono hb
        replace h3 := h3.mono hb
        replace h4 := h4.mono hb
        replace h5 := h5.mono hb
        replace h6 := h6.mono hb
        replace h7 := h7.mono hb
        replace h8 := h8.mono hb
        replace ca_0 := cellK ca_0 hb
        replace ca_1 := cellK ca_1 hb
        replace ca_2 := cellK ca_2 hb
        clear hb
        try go_wp2_with fail
        refine hK.out _ _ ⟨ca_0, ca_1, ca_2⟩ (fun hH => ?_)
        clear hK K
        try simp only [Act.put, List.setIfInBounds_toArray, List.set_cons_zero, List.set_cons_succ]
        refine U_take (i := 9) (v := ?_) rfl (by kernel_rfl) (by kernel_rfl) (by kernel_rfl) (by kernel_rfl) (fun _ _ _ h => h) (Or.inl ⟨by rfl, ?_⟩) hH ?_
        rotate_left
        · intro w hSw
          try dsimp only at hSw
          go_simp
          try with_reducible rfl
        try simp only [Act.put, List.setIfInBounds_toArray, List.set_cons_zero, List.set_cons_succ]
        refine U_take (i := 10) (v := ?_) rfl (by kernel_rfl) (by kernel_rfl) (by kernel_rfl) (by kernel_rfl) (fun _ _ _ h => h) (Or.inl ⟨by rfl, ?_⟩) hH ?_
        rotate_left
        · intro w hSw
          try dsimp only at hSw
          go_simp
          try with_reducible rfl
        try simp only [Act.put, List.setIfInBounds_toArray, List.set_cons_zero, List.set_cons_succ]
        refine U_take (i := 11) (v := ?_) rfl (by kernel_rfl) (by kernel_rfl) (by kernel_rfl) (by kernel_rfl) (fun _ _ _ h => h) (Or.inl ⟨by rfl, ?_⟩) hH ?_
        rotate_left
        · intro w hSw
          try dsimp only at hSw
          go_simp
          try with_reducible rfl
        try simp only [Act.put, List.setIfInBounds_toArray, List.set_cons_zero, List.set_cons_succ]
        clear hH
        have co_0 : w17.cell? ⟨w14.heap.size, 0, none⟩ = some (.bool false) := Blo.at 0 rfl
        have co_1 : w17.cell? ⟨w14.heap.size, 1, none⟩ = some (.slice none 0 0) := Blo.at 1 rfl
        have co_2 : w17.cell? ⟨w14.heap.size, 2, none⟩ = some (.slice none 0 0) := Blo.at 2 rfl
        have fo := Blo.free
        have Lo : w14.heap.size < w17.heap.size := Blo.lt
        refine U_one (i := 13) (by kernel_rfl) rfl (fun K hK => ?_)
        go_simp
        generalize hW_ : (((w17.setCell ⟨w14.heap.size, 0, none⟩ (.bool sh9)).setCell ⟨w14.heap.size, 1, none⟩ (.slice ah9 nh9 ch9)).setCell ⟨w14.heap.size, 2, none⟩ (.slice Ah9 Nh9 Ch9)) = w18
        have hW := hW_.symm
        clear hW_
        have hG : Gr [w14.heap.size] w17 w18 := by rw [hW]; exact (Gr.refl _ _).set.set.set
        have hsz := hs.size
        have lo := Blo.lt
        have hbw : Below w.heap.size w17 w18 := hG.below1 hs.size (by first | omega | assumption)
        have hk : KeepD w17 w18 := hG.keep ⟨⟨_, Blo.ty, by decide⟩, True.intro⟩
        have Bl1o : Bx w18 (w14.heap.size) 26 #[.bool sh9, .slice ah9 nh9 ch9, .slice Ah9 Nh9 Ch9] := by rw [hW]; exact Blo.set3
        replace hs := hs.trans hbw
        replace Blshare := hG.bx Blshare (notMem1 (by omega))
        replace Blhigher := hG.bx Blhigher (notMem1 (by omega))
        replace Bla := hG.bx Bla (notMem1 (by omega))
        replace Blb := hG.bx Blb (notMem1 (by omega))
        replace Blx := hG.bx Blx (notMem1 (by omega))
        replace Bly := hG.bx Bly (notMem1 (by omega))
        replace Blz := hG.bx Blz (notMem1 (by omega))
        replace Blw := hG.bx Blw (notMem1 (by omega))
        replace Blo := Bl1o
        clear Bl1o
        replace h1 := h1.keep hk
        replace h2 := h2.keep hk
        replace h3 := h3.keep hk
        replace h4 := h4.keep hk
        replace h5 := h5.keep hk
        replace h6 := h6.keep hk
        replace h7 := h7.keep hk
        replace h8 := h8.keep hk
        replace h9 := h9.keep hk
        replace ca_0 := hG.cell ca_0 (notMem1 (by dsimp only; omega))
        replace ca_1 := hG.cell ca_1 (notMem1 (by dsimp only; omega))
        replace ca_2 := hG.cell ca_2 (notMem1 (by dsimp only; omega))
        clear hW hG hk hbw hsz lo
        refine hK.out _ _ ⟨ca_0, ca_1, ca_2⟩ (fun hH => ?_)
        clear hK K
        try simp only [Act.put, List.setIfInBounds_toArray, List.set_cons_zero, List.set_cons_succ]
        clear hH
        refine U_last (by kernel_rfl) rfl (by kernel_rfl) (fun K hK => ?_)
        go_simp
        refine hK.out _ _ ?_
        clear hK K
        intro wl hW
        rw [hW]
        clear hW wl
        try simp only [Act.put, List.setIfInBounds_toArray, List.set_cons_zero, List.set_cons_succ]
        clear ca_0 ca_1 ca_2
        go_wp2_with fail
        go_meet
        exact ⟨w14.heap.size, _, _, _, _, _, _, _, rfl, rfl, (by first | exact sz_o | omega), (by omega), (by omega), (by omega), (by omega), (by omega), (by omega), (by omega), (by omega), Blo, hs, Blshare, Blhigher, Bla, Blb, Blx, Bly, Blz, Blw, h1, h2, h3, h4, h5, h6, h9⟩
    · clear hH
      go_simp
      generalize hWn : (w13.alloc (.cells #[.bool false, .slice none 0 0, .slice none 0 0] 26)) = w14
      have hb : Below w13.heap.size w13 w14 := by rw [← hWn]; exact (Below.refl _ _).alloc (Nat.le_refl _) _
      have Blo : Bx w14 (w13.heap.size) 26 #[.bool false, .slice none 0 0, .slice none 0 0] := by rw [← hWn]; exact Bx.new _ _ _
      have nshare_o : w.heap.size ≠ w13.heap.size := by have := Blshare.lt; omega
      have nhigher_o : w.heap.size + 1 ≠ w13.heap.size := by have := Blhigher.lt; omega
      have na_o : w3.heap.size ≠ w13.heap.size := by have := Bla.lt; omega
      have nb_o : w3.heap.size + 1 ≠ w13.heap.size := by have := Blb.lt; omega
      have nx_o : w5.heap.size ≠ w13.heap.size := by have := Blx.lt; omega
      have ny_o : w7.heap.size ≠ w13.heap.size := by have := Bly.lt; omega
      have nz_o : w9.heap.size ≠ w13.heap.size := by have := Blz.lt; omega
      have nw_o : w11.heap.size ≠ w13.heap.size := by have := Blw.lt; omega
      have sz_o : w.heap.size ≤ w13.heap.size := hs.size
      replace hs := bStep hs hb
      replace Blshare := Blshare.mono hb
      replace Blhigher := Blhigher.mono hb
      replace Bla := Bla.mono hb
      replace Blb := Blb.mono hb
      replace Blx := Blx.mono hb
      replace Bly := Bly.mono hb
      replace Blz := Blz.mono hb
      replace Blw := Blw.mono hb
      replace h1 := h1.mono hb
      replace h2 := h2.mono hb
      replace h3 := h3.mono hb
      replace h4 := h4.mono hb
      replace h5 := h5.mono hb
      replace h6 := h6.mono hb
      replace ca_0 := cellK ca_0 hb
      replace ca_1 := cellK ca_1 hb
      replace ca_2 := cellK ca_2 hb
      clear hb hWn
      refine hK.out _ _ ⟨ca_0, ca_1, ca_2⟩ (fun hH => ?_)
      clear hK K
      try simp only [Act.put, List.setIfInBounds_toArray, List.set_cons_zero, List.set_cons_succ]
      clear hH
      refine U_one (i := 5) (by kernel_rfl) rfl (fun K hK => ?_)
      go_simp
      (with_reducible refine (p_one _).mono ?_)
      rintro e w15 ⟨_, rfl, h7, hb⟩
      obtain ⟨sh7, ah7, nh7, ch7, Ah7, Nh7, Ch7, rfl⟩ := h7.shape
      replace hs := bStep hs hb
      replace Blshare := Blshare.mono hb
      replace Blhigher := Blhigher.mono hb
      replace Bla := Bla.mono hb
      replace Blb := Blb.mono hb
      replace Blx := Blx.mono hb
      replace Bly := Bly.mono hb
      replace Blz := Blz.mono hb
      replace Blw := Blw.mono hb
      replace Blo := Blo.mono hb
      replace h1 := h1.mono hb
      replace h2 := h2.mono hb
      replace h3 := h3.mono hb
      replace h4 := h4.mono hb
      replace h5 := h5.mono hb
      replace h6 := h6.mono hb
      replace ca_0 := cellK ca_0 hb
      replace ca_1 := cellK ca_1 hb
      replace ca_2 := cellK ca_2 hb
      clear hb
      try go_wp2_with fail
      refine hK.out _ _ ⟨ca_0, ca_1, ca_2⟩ (fun hH => ?_)
      clear hK K
      try simp only [Act.put, List.setIfInBounds_toArray, List.set_cons_zero, List.set_cons_succ]
      clear hH
      refine U_one (i := 7) (by kernel_rfl) rfl (fun K hK => ?_)
      go_simp
      (with_reducible refine (pSub h7 h1 (SzQ.fit szQ_one) (SzQ.fit sa_)).mono ?_)
      rintro e w16 ⟨_, rfl, h8, hb⟩
      obtain ⟨sh8, ah8, nh8, ch8, Ah8, Nh8, Ch8, rfl⟩ := h8.shape
      replace hs := bStep hs hb
      replace Blshare := Blshare.mono hb
      replace Blhigher := Blhigher.mono hb
      replace Bla := Bla.mono hb
      replace Blb := Blb.mono hb
      replace Blx := Blx.mono hb
      replace Bly := Bly.mono hb
      replace Blz := Blz.mono hb
      replace Blw := Blw.mono hb
      replace Blo := Blo.mono hb
      replace h1 := h1.mono hb
      replace h2 := h2.mono hb
      replace h3 := h3.mono hb
      replace h4 := h4.mono hb
      replace h5 := h5.mono hb
      replace h6 := h6.mono hb
      replace h7 := h7.mono hb
      replace ca_0 := cellK ca_0 hb
      replace ca_1 := cellK ca_1 hb
      replace ca_2 := cellK ca_2 hb
      clear hb
      try go_wp2_with fail
      refine hK.out _ _ ⟨ca_0, ca_1, ca_2⟩ (fun hH => ?_)
      clear hK K
      try simp only [Act.put, List.setIfInBounds_toArray, List.set_cons_zero, List.set_cons_succ]
      clear hH
      refine U_one (i := 8) (by kernel_rfl) rfl (fun K hK => ?_)
      go_simp
      (with_reducible refine (al_Tail_w (n := mm) _ (by have := HMM.out; omega) (by rw [IntWalk.i64_in (1 + n % 12 - k % 13) (by omega), IntWalk.i64_in (1 + n % 12 - k % 13 + 1) (by omega)]) h8 sca CCA.out.1 CCA.out.2 (by omega) HO.out).mono ?_)
      rintro e w17 ⟨_, rfl, h9, hb⟩
      obtain ⟨sh9, ah9, nh9, ch9, Ah9, Nh9, Ch9, rfl⟩ := h9.shape
      replace hs := bStep hs hb
      replace Blshare := Blshare.mono hb
      replace Blhigher := Blhigher.mono hb
      replace Bla := Bla.mono hb
      replace Blb := Blb.mono hb
      replace Blx := Blx.mono hb
      replace Bly := Bly.mono hb
      replace Blz := Blz.mono hb
      replace Blw := Blw.mono hb
      replace Blo := Blo.mono hb
      replace h1 := h1.mono hb
      replace h2 := h2.mono hb
      replace h3 := h3.mono hb
      replace h4 := h4.mono hb
      replace h5 := h5.mono hb
      replace h6 := h6.mono hb
      replace h7 := h7.mono hb
      replace h8 := h8.mono hb
      replace ca_0 := cellK ca_0 hb
      replace ca_1 := cellK ca_1 hb
      replace ca_2 := cellK ca_2 hb
      clear hb
      try go_wp2_with fail
      refine hK.out _ _ ⟨ca_0, ca_1, ca_2⟩ (fun hH => ?_)
      clear hK K
      try simp only [Act.put, List.setIfInBounds_toArray, List.set_cons_zero, List.set_cons_succ]
      refine U_take (i := 9) (v := ?_) rfl (by kernel_rfl) (by kernel_rfl) (by kernel_rfl) (by kernel_rfl) (fun _ _ _ h => h) (Or.inl ⟨by rfl, ?_⟩) hH ?_
      rotate_left
      · intro w hSw
        try dsimp only at hSw
        go_simp
        try with_reducible rfl
      try simp only [Act.put, List.setIfInBounds_toArray, List.set_cons_zero, List.set_cons_succ]
      refine U_take (i := 10) (v := ?_) rfl (by kernel_rfl) (by kernel_rfl) (by kernel_rfl) (by kernel_rfl) (fun _ _ _ h => h) (Or.inl ⟨by rfl, ?_⟩) hH ?_
      rotate_left
      · intro w hSw
        try dsimp only at hSw
        go_simp
        try with_reducible rfl
      try simp only [Act.put, List.setIfInBounds_toArray, List.set_cons_zero, List.set_cons_succ]
      refine U_take (i := 11) (v := ?_) rfl (by kernel_rfl) (by kernel_rfl) (by kernel_rfl) (by kernel_rfl) (fun _ _ _ h => h) (Or.inl ⟨by rfl, ?_⟩) hH ?_
      rotate_left
      · intro w hSw
        try dsimp only at hSw
        go_simp
        try with_reducible rfl
      try simp only [Act.put, List.setIfInBounds_toArray, List.set_cons_zero, List.set_cons_succ]
      clear hH
      have co_0 : w17.cell? ⟨w13.heap.size, 0, none⟩ = some (.bool false) := Blo.at 0 rfl
      have co_1 : w17.cell? ⟨w13.heap.size, 1, none⟩ = some (.slice none 0 0) := Blo.at 1 rfl
      have co_2 : w17.cell? ⟨w13.heap.size, 2, none⟩ = some (.slice none 0 0) := Blo.at 2 rfl
      have fo := Blo.free
      have Lo : w13.heap.size < w17.heap.size := Blo.lt
      refine U_one (i := 13) (by kernel_rfl) rfl (fun K hK => ?_)
      go_simp
      generalize hW_ : (((w17.setCell ⟨w13.heap.size, 0, none⟩ (.bool sh9)).setCell ⟨w13.heap.size, 1, none⟩ (.slice ah9 nh9 ch9)).setCell ⟨w13.heap.size, 2, none⟩ (.slice Ah9 Nh9 Ch9)) = w18
      have hW := hW_.symm
      clear hW_
      have hG : Gr [w13.heap.size] w17 w18 := by rw [hW]; exact (Gr.refl _ _).set.set.set
      have hsz := hs.size
      have lo := Blo.lt
      have hbw : Below w.heap.size w17 w18 := hG.below1 hs.size (by first | omega | assumption)
      have hk : KeepD w17 w18 := hG.keep ⟨⟨_, Blo.ty, by decide⟩, True.intro⟩
      have Bl1o : Bx w18 (w13.heap.size) 26 #[.bool sh9, .slice ah9 nh9 ch9, .slice Ah9 Nh9 Ch9] := by rw [hW]; exact Blo.set3
      replace hs := hs.trans hbw
      replace Blshare := hG.bx Blshare (notMem1 (by omega))
      replace Blhigher := hG.bx Blhigher (notMem1 (by omega))
      replace Bla := hG.bx Bla (notMem1 (by omega))
      replace Blb := hG.bx Blb (notMem1 (by omega))
      replace Blx := hG.bx Blx (notMem1 (by omega))
      replace Bly := hG.bx Bly (notMem1 (by omega))
      replace Blz := hG.bx Blz (notMem1 (by omega))
      replace Blw := hG.bx Blw (notMem1 (by omega))
      replace Blo := Bl1o
      clear Bl1o
      replace h1 := h1.keep hk
      replace h2 := h2.keep hk
      replace h3 := h3.keep hk
      replace h4 := h4.keep hk
      replace h5 := h5.keep hk
      replace h6 := h6.keep hk
      replace h7 := h7.keep hk
      replace h8 := h8.keep hk
      replace h9 := h9.keep hk
      replace ca_0 := hG.cell ca_0 (notMem1 (by dsimp only; omega))
      replace ca_1 := hG.cell ca_1 (notMem1 (by dsimp only; omega))
      replace ca_2 := hG.cell ca_2 (notMem1 (by dsimp only; omega))
      clear hW hG hk hbw hsz lo
      refine hK.out _ _ ⟨ca_0, ca_1, ca_2⟩ (fun hH => ?_)
      clear hK K
      try simp only [Act.put, List.setIfInBounds_toArray, List.set_cons_zero, List.set_cons_succ]
      clear hH
      refine U_last (by kernel_rfl) rfl (by kernel_rfl) (fun K hK => ?_)
      go_simp
      refine hK.out _ _ ?_
      clear hK K
      intro wl hW
      rw [hW]
      clear hW wl
      try simp only [Act.put, List.setIfInBounds_toArray, List.set_cons_zero, List.set_cons_succ]
      clear ca_0 ca_1 ca_2
      go_wp2_with fail
      go_meet
      exact ⟨w13.heap.size, _, _, _, _, _, _, _, rfl, rfl, (by first | exact sz_o | omega), (by omega), (by omega), (by omega), (by omega), (by omega), (by omega), (by omega), (by omega), Blo, hs, Blshare, Blhigher, Bla, Blb, Blx, Bly, Blz, Blw, h1, h2, h3, h4, h5, h6, h9⟩
  case rest =>
    clear hs Blshare Blhigher Bla Blb Blx Bly Blz Blw h1 h2 h3 h4 h5 h6
    obtain ⟨go, sh9, ah9, nh9, ch9, Ah9, Nh9, Ch9, rfl, rfl, hg_o, ng_o_share, ng_o_higher, ng_o_a, ng_o_b, ng_o_x, ng_o_y, ng_o_z, ng_o_w, Blo, hs, Blshare, Blhigher, Bla, Blb, Blx, Bly, Blz, Blw, h1, h2, h3, h4, h5, h6, h9⟩ := hcut
    go_wp2_with fail
    with_reducible refine (l8_awake _).mono ?_
    rintro e w13 ⟨rfl, hb⟩
    replace hs := bStep hs hb
    replace Blshare := Blshare.mono hb
    replace Blhigher := Blhigher.mono hb
    replace Bla := Bla.mono hb
    replace Blb := Blb.mono hb
    replace Blx := Blx.mono hb
    replace Bly := Bly.mono hb
    replace Blz := Blz.mono hb
    replace Blw := Blw.mono hb
    replace Blo := Blo.mono hb
    replace h1 := h1.mono hb
    replace h2 := h2.mono hb
    replace h3 := h3.mono hb
    replace h4 := h4.mono hb
    replace h5 := h5.mono hb
    replace h6 := h6.mono hb
    replace h9 := h9.mono hb
    clear hb
    have cy_0 : w13.cell? ⟨w7.heap.size, 0, none⟩ = some (.bool sh4) := Bly.at 0 rfl
    have cy_1 : w13.cell? ⟨w7.heap.size, 1, none⟩ = some (.slice ah4 nh4 ch4) := Bly.at 1 rfl
    have cy_2 : w13.cell? ⟨w7.heap.size, 2, none⟩ = some (.slice Ah4 Nh4 Ch4) := Bly.at 2 rfl
    have Ly : w7.heap.size < w13.heap.size := Bly.lt
    have cx_0 : w13.cell? ⟨w5.heap.size, 0, none⟩ = some (.bool sh3) := Blx.at 0 rfl
    have cx_1 : w13.cell? ⟨w5.heap.size, 1, none⟩ = some (.slice ah3 nh3 ch3) := Blx.at 1 rfl
    have cx_2 : w13.cell? ⟨w5.heap.size, 2, none⟩ = some (.slice Ah3 Nh3 Ch3) := Blx.at 2 rfl
    have Lx : w5.heap.size < w13.heap.size := Blx.lt
    go_wp2_with fail
    clear cy_0 cy_1 cy_2 cx_0 cx_1 cx_2 Ly Lx
    with_reducible refine (pCmp h4 h3 (SzQ.fit sy) (SzQ.fit sx)).mono ?_
    rintro e w14 ⟨rfl, hb⟩
    replace hs := bStep hs hb
    replace Blshare := Blshare.mono hb
    replace Blhigher := Blhigher.mono hb
    replace Bla := Bla.mono hb
    replace Blb := Blb.mono hb
    replace Blx := Blx.mono hb
    replace Bly := Bly.mono hb
    replace Blz := Blz.mono hb
    replace Blw := Blw.mono hb
    replace Blo := Blo.mono hb
    replace h1 := h1.mono hb
    replace h2 := h2.mono hb
    replace h3 := h3.mono hb
    replace h4 := h4.mono hb
    replace h5 := h5.mono hb
    replace h6 := h6.mono hb
    replace h9 := h9.mono hb
    clear hb
    obtain ⟨sg10, Hsg10⟩ : ∃ s : Int, s = sgQ (y - x) := ⟨_, rfl⟩
    rw [← Hsg10]
    replace Hsg10 := Lib.hid Hsg10
    have q11 : ¬ (x < y) := HLE.out.1
    have q11_ : ¬ (0 < sg10) := by have h := sq_gt y x; rw [← Hsg10.out] at h; exact fun h1 => q11 (h.1 h1)
    have q11H := Lib.hid q11
    clear q11
    have q11d : decide (0 < sg10) = false := decide_eq_false q11_
    have cz_0 : w14.cell? ⟨w9.heap.size, 0, none⟩ = some (.bool sh5) := Blz.at 0 rfl
    have cz_1 : w14.cell? ⟨w9.heap.size, 1, none⟩ = some (.slice ah5 nh5 ch5) := Blz.at 1 rfl
    have cz_2 : w14.cell? ⟨w9.heap.size, 2, none⟩ = some (.slice Ah5 Nh5 Ch5) := Blz.at 2 rfl
    have Lz : w9.heap.size < w14.heap.size := Blz.lt
    have cx_0 : w14.cell? ⟨w5.heap.size, 0, none⟩ = some (.bool sh3) := Blx.at 0 rfl
    have cx_1 : w14.cell? ⟨w5.heap.size, 1, none⟩ = some (.slice ah3 nh3 ch3) := Blx.at 1 rfl
    have cx_2 : w14.cell? ⟨w5.heap.size, 2, none⟩ = some (.slice Ah3 Nh3 Ch3) := Blx.at 2 rfl
    have Lx : w5.heap.size < w14.heap.size := Blx.lt
    go_wp2_with fail
    clear cz_0 cz_1 cz_2 cx_0 cx_1 cx_2 Lz Lx
    with_reducible refine (pCmp h5 h3 (SzQ.fit sz) (SzQ.fit sx)).mono ?_
    rintro e w15 ⟨rfl, hb⟩
    replace hs := bStep hs hb
    replace Blshare := Blshare.mono hb
    replace Blhigher := Blhigher.mono hb
    replace Bla := Bla.mono hb
    replace Blb := Blb.mono hb
    replace Blx := Blx.mono hb
    replace Bly := Bly.mono hb
    replace Blz := Blz.mono hb
    replace Blw := Blw.mono hb
    replace Blo := Blo.mono hb
    replace h1 := h1.mono hb
    replace h2 := h2.mono hb
    replace h3 := h3.mono hb
    replace h4 := h4.mono hb
    replace h5 := h5.mono hb
    replace h6 := h6.mono hb
    replace h9 := h9.mono hb
    clear hb
    obtain ⟨sg12, Hsg12⟩ : ∃ s : Int, s = sgQ (z - x) := ⟨_, rfl⟩
    rw [← Hsg12]
    replace Hsg12 := Lib.hid Hsg12
    have q13 : ¬ (z < x) := HLE.out.2.1
    have q13_ : ¬ (sg12 < 0) := by have h := sq_lt z x; rw [← Hsg12.out] at h; exact fun h1 => q13 (h.1 h1)
    have q13H := Lib.hid q13
    clear q13
    have q13d : decide (sg12 < 0) = false := decide_eq_false q13_
    have cw_0 : w15.cell? ⟨w11.heap.size, 0, none⟩ = some (.bool sh6) := Blw.at 0 rfl
    have cw_1 : w15.cell? ⟨w11.heap.size, 1, none⟩ = some (.slice ah6 nh6 ch6) := Blw.at 1 rfl
    have cw_2 : w15.cell? ⟨w11.heap.size, 2, none⟩ = some (.slice Ah6 Nh6 Ch6) := Blw.at 2 rfl
    have Lw : w11.heap.size < w15.heap.size := Blw.lt
    have cx_0 : w15.cell? ⟨w5.heap.size, 0, none⟩ = some (.bool sh3) := Blx.at 0 rfl
    have cx_1 : w15.cell? ⟨w5.heap.size, 1, none⟩ = some (.slice ah3 nh3 ch3) := Blx.at 1 rfl
    have cx_2 : w15.cell? ⟨w5.heap.size, 2, none⟩ = some (.slice Ah3 Nh3 Ch3) := Blx.at 2 rfl
    have Lx : w5.heap.size < w15.heap.size := Blx.lt
    go_wp2_with fail
    clear cw_0 cw_1 cw_2 cx_0 cx_1 cx_2 Lw Lx
    with_reducible refine (pCmp h6 h3 (SzQ.fit su) (SzQ.fit sx)).mono ?_
    rintro e w16 ⟨rfl, hb⟩
    replace hs := bStep hs hb
    replace Blshare := Blshare.mono hb
    replace Blhigher := Blhigher.mono hb
    replace Bla := Bla.mono hb
    replace Blb := Blb.mono hb
    replace Blx := Blx.mono hb
    replace Bly := Bly.mono hb
    replace Blz := Blz.mono hb
    replace Blw := Blw.mono hb
    replace Blo := Blo.mono hb
    replace h1 := h1.mono hb
    replace h2 := h2.mono hb
    replace h3 := h3.mono hb
    replace h4 := h4.mono hb
    replace h5 := h5.mono hb
    replace h6 := h6.mono hb
    replace h9 := h9.mono hb
    clear hb
    obtain ⟨sg14, Hsg14⟩ : ∃ s : Int, s = sgQ (u - x) := ⟨_, rfl⟩
    rw [← Hsg14]
    replace Hsg14 := Lib.hid Hsg14
    have q15 : ¬ (u < x) := HLE.out.2.2.1
    have q15_ : ¬ (sg14 < 0) := by have h := sq_lt u x; rw [← Hsg14.out] at h; exact fun h1 => q15 (h.1 h1)
    have q15H := Lib.hid q15
    clear q15
    have q15d : decide (sg14 < 0) = false := decide_eq_false q15_
    have cx_0 : w16.cell? ⟨w5.heap.size, 0, none⟩ = some (.bool sh3) := Blx.at 0 rfl
    have cx_1 : w16.cell? ⟨w5.heap.size, 1, none⟩ = some (.slice ah3 nh3 ch3) := Blx.at 1 rfl
    have cx_2 : w16.cell? ⟨w5.heap.size, 2, none⟩ = some (.slice Ah3 Nh3 Ch3) := Blx.at 2 rfl
    have Lx : w5.heap.size < w16.heap.size := Blx.lt
    have co_0 : w16.cell? ⟨go, 0, none⟩ = some (.bool sh9) := Blo.at 0 rfl
    have co_1 : w16.cell? ⟨go, 1, none⟩ = some (.slice ah9 nh9 ch9) := Blo.at 1 rfl
    have co_2 : w16.cell? ⟨go, 2, none⟩ = some (.slice Ah9 Nh9 Ch9) := Blo.at 2 rfl
    have Lo : go < w16.heap.size := Blo.lt
    go_wp2_with fail
    clear cx_0 cx_1 cx_2 co_0 co_1 co_2 Lx Lo
    with_reducible refine (pAdd h3 h9 (SzQ.fit sx) (SzQ.fit so)).mono ?_
    rintro e w17 ⟨_, rfl, h16, hb⟩
    obtain ⟨sh16, ah16, nh16, ch16, Ah16, Nh16, Ch16, rfl⟩ := h16.shape
    replace hs := bStep hs hb
    replace Blshare := Blshare.mono hb
    replace Blhigher := Blhigher.mono hb
    replace Bla := Bla.mono hb
    replace Blb := Blb.mono hb
    replace Blx := Blx.mono hb
    replace Bly := Bly.mono hb
    replace Blz := Blz.mono hb
    replace Blw := Blw.mono hb
    replace Blo := Blo.mono hb
    replace h1 := h1.mono hb
    replace h2 := h2.mono hb
    replace h3 := h3.mono hb
    replace h4 := h4.mono hb
    replace h5 := h5.mono hb
    replace h6 := h6.mono hb
    replace h9 := h9.mono hb
    clear hb
    go_wp2_with fail
    with_reducible refine (p_one _).mono ?_
    rintro e w18 ⟨_, rfl, h17, hb⟩
    obtain ⟨sh17, ah17, nh17, ch17, Ah17, Nh17, Ch17, rfl⟩ := h17.shape
    replace hs := bStep hs hb
    replace Blshare := Blshare.mono hb
    replace Blhigher := Blhigher.mono hb
    replace Bla := Bla.mono hb
    replace Blb := Blb.mono hb
    replace Blx := Blx.mono hb
    replace Bly := Bly.mono hb
    replace Blz := Blz.mono hb
    replace Blw := Blw.mono hb
    replace Blo := Blo.mono hb
    replace h1 := h1.mono hb
    replace h2 := h2.mono hb
    replace h3 := h3.mono hb
    replace h4 := h4.mono hb
    replace h5 := h5.mono hb
    replace h6 := h6.mono hb
    replace h9 := h9.mono hb
    replace h16 := h16.mono hb
    clear hb
    go_wp2_with fail
    with_reducible refine (p_Same_calls _ _ _ _ _ h16 h17).mono ?_
    rintro e w19 ⟨rfl, hb⟩
    replace hs := bStep hs hb
    replace Blshare := Blshare.mono hb
    replace Blhigher := Blhigher.mono hb
    replace Bla := Bla.mono hb
    replace Blb := Blb.mono hb
    replace Blx := Blx.mono hb
    replace Bly := Bly.mono hb
    replace Blz := Blz.mono hb
    replace Blw := Blw.mono hb
    replace Blo := Blo.mono hb
    replace h1 := h1.mono hb
    replace h2 := h2.mono hb
    replace h3 := h3.mono hb
    replace h4 := h4.mono hb
    replace h5 := h5.mono hb
    replace h6 := h6.mono hb
    replace h9 := h9.mono hb
    replace h16 := h16.mono hb
    replace h17 := h17.mono hb
    clear hb
    obtain ⟨b18, Hb18⟩ : ∃ b : Bool, b = decide (x + o = 1) := ⟨_, rfl⟩
    rw [← Hb18]
    replace Hb18 := Lib.hid Hb18
    have q19 : x + o = 1 := HLE.out.2.2.2
    obtain rfl : b18 = true := by rw [Hb18.out]; exact decide_eq_true q19
    have q19H := Lib.hid q19
    clear q19
    have cshare_0 : w19.cell? ⟨w.heap.size, 0, none⟩ = some (.int .u8 s0) := Blshare.at 0 rfl
    have cshare_1 : w19.cell? ⟨w.heap.size, 1, none⟩ = some (.int .u8 s1) := Blshare.at 1 rfl
    have Lshare : w.heap.size < w19.heap.size := Blshare.lt
    have chigher_0 : w19.cell? ⟨w.heap.size + 1, 0, none⟩ = some (.int .u8 t0) := Blhigher.at 0 rfl
    have chigher_1 : w19.cell? ⟨w.heap.size + 1, 1, none⟩ = some (.int .u8 t1) := Blhigher.at 1 rfl
    have Lhigher : w.heap.size + 1 < w19.heap.size := Blhigher.lt
    have Lhigher_0 : w.heap.size < w19.heap.size := by omega
    go_upto_region 14 with fail
    clear cshare_0 cshare_1 chigher_0 chigher_1 Lshare Lhigher Lhigher_0
    refine Code.abs ?_
    intro w20 hW
    have hG : Gr [] w19 w20 := by rw [hW]; exact (Gr.refl _ _).alloc.alloc
    have hbw : Below w.heap.size w19 w20 := hG.below0 hs.size
    have hk : KeepD w19 w20 := hG.keep True.intro
    have sz_w20 : w.heap.size ≤ w19.heap.size := hs.size
    have nshare_w20 : w.heap.size < w19.heap.size := Blshare.lt
    have nhigher_w20 : w.heap.size + 1 < w19.heap.size := Blhigher.lt
    have na_w20 : w3.heap.size < w19.heap.size := Bla.lt
    have nb_w20 : w3.heap.size + 1 < w19.heap.size := Blb.lt
    have nx_w20 : w5.heap.size < w19.heap.size := Blx.lt
    have ny_w20 : w7.heap.size < w19.heap.size := Bly.lt
    have nz_w20 : w9.heap.size < w19.heap.size := Blz.lt
    have nw_w20 : w11.heap.size < w19.heap.size := Blw.lt
    have no_w20 : go < w19.heap.size := Blo.lt
    have Bllow : Bx w20 (w19.heap.size) 36 #[.int .i64 (s0 % 9), .int .i64 (s1 % 9)] := by rw [hW]; exact ((Bx.new0 _ _ _).alloc _)
    have Bltop : Bx w20 (w19.heap.size + 1) 36 #[.int .i64 (min (s0 % 9 + t0 % 4) 8), .int .i64 (min (s1 % 9 + t1 % 4) 8)] := by rw [hW]; exact (Bx.new0 _ _ _)
    replace hs := hs.trans hbw
    replace Blshare := hG.bx Blshare notMem0
    replace Blhigher := hG.bx Blhigher notMem0
    replace Bla := hG.bx Bla notMem0
    replace Blb := hG.bx Blb notMem0
    replace Blx := hG.bx Blx notMem0
    replace Bly := hG.bx Bly notMem0
    replace Blz := hG.bx Blz notMem0
    replace Blw := hG.bx Blw notMem0
    replace Blo := hG.bx Blo notMem0
    replace h1 := h1.keep hk
    replace h2 := h2.keep hk
    replace h3 := h3.keep hk
    replace h4 := h4.keep hk
    replace h5 := h5.keep hk
    replace h6 := h6.keep hk
    replace h9 := h9.keep hk
    replace h16 := h16.keep hk
    replace h17 := h17.keep hk
    clear hW hG hk hbw
    have hz_w20 : w19.heap.size + 1 < w20.heap.size := Bltop.lt
    refine U_region (S := fun w' => w'.cell? ⟨w19.heap.size, 0, none⟩ = some (.int .i64 (s0 % 9)) ∧ w'.cell? ⟨w19.heap.size, 1, none⟩ = some (.int .i64 (s1 % 9))) (by kernel_rfl) 13 ?_
    refine AnyU.abs ?_
    intro w21 hW
    have hb : Below w20.heap.size w20 w21 := by rw [hW]; exact bDrew _
    replace hs := bStep hs hb
    replace Blshare := Blshare.mono hb
    replace Blhigher := Blhigher.mono hb
    replace Bla := Bla.mono hb
    replace Blb := Blb.mono hb
    replace Blx := Blx.mono hb
    replace Bly := Bly.mono hb
    replace Blz := Blz.mono hb
    replace Blw := Blw.mono hb
    replace Blo := Blo.mono hb
    replace Bllow := Bllow.mono hb
    replace Bltop := Bltop.mono hb
    replace h1 := h1.mono hb
    replace h2 := h2.mono hb
    replace h3 := h3.mono hb
    replace h4 := h4.mono hb
    replace h5 := h5.mono hb
    replace h6 := h6.mono hb
    replace h9 := h9.mono hb
    replace h16 := h16.mono hb
    replace h17 := h17.mono hb
    clear hb hW
    have clow_0 : w21.cell? ⟨w19.heap.size, 0, none⟩ = some (.int .i64 (s0 % 9)) := Bllow.at 0 rfl
    have clow_1 : w21.cell? ⟨w19.heap.size, 1, none⟩ = some (.int .i64 (s1 % 9)) := Bllow.at 1 rfl
    have hH := (show w21.cell? ⟨w19.heap.size, 0, none⟩ = some (.int .i64 (s0 % 9)) ∧ w21.cell? ⟨w19.heap.size, 1, none⟩ = some (.int .i64 (s1 % 9)) from ⟨clow_0, clow_1⟩)
    refine U_takeN (i := 0) (d := 168) (v := ?_) rfl rfl rfl (by kernel_rfl) (by kernel_rfl) (by kernel_rfl) (fun _ _ _ h => h) (Or.inl ⟨by rfl, ?_⟩) hH ?_
    rotate_left
    · intro w hSw
      try dsimp only at hSw
      go_simp
      try with_reducible rfl
    simp only [LY]
    refine U_takeN (i := 1) (d := 169) (v := ?_) rfl rfl rfl (by kernel_rfl) (by kernel_rfl) (by kernel_rfl) (fun _ _ _ h => h) (Or.inl ⟨by rfl, ?_⟩) hH ?_
    rotate_left
    · intro w hSw
      try dsimp only at hSw
      go_simp
      try with_reducible rfl
    simp only [LY]
    refine U_takeN (i := 2) (d := 170) (v := ?_) rfl rfl rfl (by kernel_rfl) (by kernel_rfl) (by kernel_rfl) (fun _ _ _ h => h) (Or.inl ⟨by rfl, ?_⟩) hH ?_
    rotate_left
    · intro w hSw
      try dsimp only at hSw
      go_simp
      try with_reducible rfl
    simp only [LY]
    refine U_takeN (i := 4) (d := 172) (v := ?_) rfl rfl rfl (by kernel_rfl) (by kernel_rfl) (by kernel_rfl) (fun _ _ _ h => h) (Or.inl ⟨by rfl, ?_⟩) hH ?_
    rotate_left
    · intro w hSw
      try dsimp only at hSw
      go_simp
      try with_reducible rfl
    simp only [LY]
    refine U_takeN (i := 5) (d := 173) (v := ?_) rfl rfl rfl (by kernel_rfl) (by kernel_rfl) (by kernel_rfl) (fun _ _ _ h => h) (Or.inl ⟨by rfl, ?_⟩) hH ?_
    rotate_left
    · intro w hSw
      try dsimp only at hSw
      go_simp
      try with_reducible rfl
    simp only [LY]
    clear hH
    refine U_one (i := 3) (by kernel_rfl) rfl (fun K hK => ?_)
    go_simp
    (with_reducible refine (l8_part _ HLA.out (by omega) (by omega) (by decide) (by decide)).mono ?_)
    rintro e w22 ⟨_, rfl, h20, hb⟩
    obtain ⟨sh20, ah20, nh20, ch20, Ah20, Nh20, Ch20, rfl⟩ := h20.shape
    replace hs := bStep hs hb
    replace Blshare := Blshare.mono hb
    replace Blhigher := Blhigher.mono hb
    replace Bla := Bla.mono hb
    replace Blb := Blb.mono hb
    replace Blx := Blx.mono hb
    replace Bly := Bly.mono hb
    replace Blz := Blz.mono hb
    replace Blw := Blw.mono hb
    replace Blo := Blo.mono hb
    replace Bllow := Bllow.mono hb
    replace Bltop := Bltop.mono hb
    replace h1 := h1.mono hb
    replace h2 := h2.mono hb
    replace h3 := h3.mono hb
    replace h4 := h4.mono hb
    replace h5 := h5.mono hb
    replace h6 := h6.mono hb
    replace h9 := h9.mono hb
    replace h16 := h16.mono hb
    replace h17 := h17.mono hb
    replace clow_0 := cellK clow_0 hb
    replace clow_1 := cellK clow_1 hb
    clear hb
    try go_wp2_with fail
    refine hK.out _ _ ⟨clow_0, clow_1⟩ (fun hH => ?_)
    clear hK K
    try simp only [LY]
    clear hH
    refine U_one (i := 6) (by kernel_rfl) rfl (fun K hK => ?_)
    go_simp
    (with_reducible refine (l8_part _ HLB.out (by omega) (by omega) (by decide) (by decide)).mono ?_)
    rintro e w23 ⟨_, rfl, h21, hb⟩
    obtain ⟨sh21, ah21, nh21, ch21, Ah21, Nh21, Ch21, rfl⟩ := h21.shape
    replace hs := bStep hs hb
    replace Blshare := Blshare.mono hb
    replace Blhigher := Blhigher.mono hb
    replace Bla := Bla.mono hb
    replace Blb := Blb.mono hb
    replace Blx := Blx.mono hb
    replace Bly := Bly.mono hb
    replace Blz := Blz.mono hb
    replace Blw := Blw.mono hb
    replace Blo := Blo.mono hb
    replace Bllow := Bllow.mono hb
    replace Bltop := Bltop.mono hb
    replace h1 := h1.mono hb
    replace h2 := h2.mono hb
    replace h3 := h3.mono hb
    replace h4 := h4.mono hb
    replace h5 := h5.mono hb
    replace h6 := h6.mono hb
    replace h9 := h9.mono hb
    replace h16 := h16.mono hb
    replace h17 := h17.mono hb
    replace h20 := h20.mono hb
    replace clow_0 := cellK clow_0 hb
    replace clow_1 := cellK clow_1 hb
    clear hb
    try go_wp2_with fail
    refine hK.out _ _ ⟨clow_0, clow_1⟩ (fun hH => ?_)
    clear hK K
    try simp only [LY]
    clear hH
    refine U_one (i := 7) (by kernel_rfl) rfl (fun K hK => ?_)
    go_simp
    (with_reducible refine (al_Rank_e (n := mm) _ HMM.out h20 sla_ CLA.out h21 slb_ CLB.out (by omega) (by omega) HR.out HE.out).mono ?_)
    rintro e w24 ⟨rfl, hb⟩
    replace hs := bStep hs hb
    replace Blshare := Blshare.mono hb
    replace Blhigher := Blhigher.mono hb
    replace Bla := Bla.mono hb
    replace Blb := Blb.mono hb
    replace Blx := Blx.mono hb
    replace Bly := Bly.mono hb
    replace Blz := Blz.mono hb
    replace Blw := Blw.mono hb
    replace Blo := Blo.mono hb
    replace Bllow := Bllow.mono hb
    replace Bltop := Bltop.mono hb
    replace h1 := h1.mono hb
    replace h2 := h2.mono hb
    replace h3 := h3.mono hb
    replace h4 := h4.mono hb
    replace h5 := h5.mono hb
    replace h6 := h6.mono hb
    replace h9 := h9.mono hb
    replace h16 := h16.mono hb
    replace h17 := h17.mono hb
    replace h20 := h20.mono hb
    replace h21 := h21.mono hb
    replace clow_0 := cellK clow_0 hb
    replace clow_1 := cellK clow_1 hb
    clear hb
    try go_wp2_with fail
    refine hK.out _ _ ⟨clow_0, clow_1⟩ (fun hH => ?_)
    clear hK K
    try simp only [LY]
    refine U_takeN (i := 8) (d := 167) (v := ?_) rfl rfl rfl (by kernel_rfl) (by kernel_rfl) (by kernel_rfl) (fun _ _ _ h => h) (Or.inl ⟨by rfl, ?_⟩) hH ?_
    rotate_left
    · intro w hSw
      try dsimp only at hSw
      go_simp
      try with_reducible rfl
    simp only [LY]
    refine U_takeN (i := 9) (d := 176) (v := ?_) rfl rfl rfl (by kernel_rfl) (by kernel_rfl) (by kernel_rfl) (fun _ _ _ h => h) (Or.inl ⟨by rfl, ?_⟩) hH ?_
    rotate_left
    · intro w hSw
      try dsimp only at hSw
      go_simp
      try with_reducible rfl
    simp only [LY]
    refine U_takeN (i := 10) (d := 177) (v := ?_) rfl rfl rfl (by kernel_rfl) (by kernel_rfl) (by kernel_rfl) (fun _ _ _ h => h) (Or.inl ⟨by rfl, ?_⟩) hH ?_
    rotate_left
    · intro w hSw
      try dsimp only at hSw
      go_simp
      try with_reducible rfl
    simp only [LY]
    refine U_takeN (i := 11) (d := 29) (v := ?_) rfl rfl rfl (by kernel_rfl) (by kernel_rfl) (by kernel_rfl) (fun _ _ _ h => h) (Or.inl ⟨by rfl, ?_⟩) hH ?_
    rotate_left
    · intro w hSw
      try dsimp only at hSw
      go_simp
      try with_reducible rfl
    simp only [LY]
    refine U_takeN (i := 12) (d := 18) (v := ?_) rfl rfl rfl (by kernel_rfl) (by kernel_rfl) (by kernel_rfl) (fun _ _ _ h => h) (Or.inl ⟨by rfl, ?_⟩) hH ?_
    rotate_left
    · intro w hSw
      try dsimp only at hSw
      go_simp
      try with_reducible rfl
    simp only [LY]
    clear hH
    refine U_endN (by kernel_rfl) ?_
    clear clow_0 clow_1
    go_upto_region 15 with fail
    refine U_region (S := fun w' => w'.cell? ⟨w19.heap.size + 1, 0, none⟩ = some (.int .i64 (min (s0 % 9 + t0 % 4) 8)) ∧ w'.cell? ⟨w19.heap.size + 1, 1, none⟩ = some (.int .i64 (min (s1 % 9 + t1 % 4) 8))) (by kernel_rfl) 13 ?_
    refine AnyU.abs ?_
    intro w25 hW
    have hb : Below w24.heap.size w24 w25 := by rw [hW]; exact bDrew _
    replace hs := bStep hs hb
    replace Blshare := Blshare.mono hb
    replace Blhigher := Blhigher.mono hb
    replace Bla := Bla.mono hb
    replace Blb := Blb.mono hb
    replace Blx := Blx.mono hb
    replace Bly := Bly.mono hb
    replace Blz := Blz.mono hb
    replace Blw := Blw.mono hb
    replace Blo := Blo.mono hb
    replace Bllow := Bllow.mono hb
    replace Bltop := Bltop.mono hb
    replace h1 := h1.mono hb
    replace h2 := h2.mono hb
    replace h3 := h3.mono hb
    replace h4 := h4.mono hb
    replace h5 := h5.mono hb
    replace h6 := h6.mono hb
    replace h9 := h9.mono hb
    replace h16 := h16.mono hb
    replace h17 := h17.mono hb
    replace h20 := h20.mono hb
    replace h21 := h21.mono hb
    clear hb hW
    have ctop_0 : w25.cell? ⟨w19.heap.size + 1, 0, none⟩ = some (.int .i64 (min (s0 % 9 + t0 % 4) 8)) := Bltop.at 0 rfl
    have ctop_1 : w25.cell? ⟨w19.heap.size + 1, 1, none⟩ = some (.int .i64 (min (s1 % 9 + t1 % 4) 8)) := Bltop.at 1 rfl
    have hH := (show w25.cell? ⟨w19.heap.size + 1, 0, none⟩ = some (.int .i64 (min (s0 % 9 + t0 % 4) 8)) ∧ w25.cell? ⟨w19.heap.size + 1, 1, none⟩ = some (.int .i64 (min (s1 % 9 + t1 % 4) 8)) from ⟨ctop_0, ctop_1⟩)
    refine U_takeN (i := 0) (d := 179) (v := ?_) rfl rfl rfl (by kernel_rfl) (by kernel_rfl) (by kernel_rfl) (fun _ _ _ h => h) (Or.inl ⟨by rfl, ?_⟩) hH ?_
    rotate_left
    · intro w hSw
      try dsimp only at hSw
      go_simp
      try with_reducible rfl
    simp only [LY]
    refine U_takeN (i := 1) (d := 180) (v := ?_) rfl rfl rfl (by kernel_rfl) (by kernel_rfl) (by kernel_rfl) (fun _ _ _ h => h) (Or.inl ⟨by rfl, ?_⟩) hH ?_
    rotate_left
    · intro w hSw
      try dsimp only at hSw
      go_simp
      try with_reducible rfl
    simp only [LY]
    refine U_takeN (i := 2) (d := 181) (v := ?_) rfl rfl rfl (by kernel_rfl) (by kernel_rfl) (by kernel_rfl) (fun _ _ _ h => h) (Or.inl ⟨by rfl, ?_⟩) hH ?_
    rotate_left
    · intro w hSw
      try dsimp only at hSw
      go_simp
      try with_reducible rfl
    simp only [LY]
    refine U_takeN (i := 4) (d := 183) (v := ?_) rfl rfl rfl (by kernel_rfl) (by kernel_rfl) (by kernel_rfl) (fun _ _ _ h => h) (Or.inl ⟨by rfl, ?_⟩) hH ?_
    rotate_left
    · intro w hSw
      try dsimp only at hSw
      go_simp
      try with_reducible rfl
    simp only [LY]
    refine U_takeN (i := 5) (d := 184) (v := ?_) rfl rfl rfl (by kernel_rfl) (by kernel_rfl) (by kernel_rfl) (fun _ _ _ h => h) (Or.inl ⟨by rfl, ?_⟩) hH ?_
    rotate_left
    · intro w hSw
      try dsimp only at hSw
      go_simp
      try with_reducible rfl
    simp only [LY]
    clear hH
    refine U_one (i := 3) (by kernel_rfl) rfl (fun K hK => ?_)
    go_simp
    (with_reducible refine (l8_part _ HTA.out (by omega) (by omega) (by decide) (by decide)).mono ?_)
    rintro e w26 ⟨_, rfl, h22, hb⟩
    obtain ⟨sh22, ah22, nh22, ch22, Ah22, Nh22, Ch22, rfl⟩ := h22.shape
    replace hs := bStep hs hb
    replace Blshare := Blshare.mono hb
    replace Blhigher := Blhigher.mono hb
    replace Bla := Bla.mono hb
    replace Blb := Blb.mono hb
    replace Blx := Blx.mono hb
    replace Bly := Bly.mono hb
    replace Blz := Blz.mono hb
    replace Blw := Blw.mono hb
    replace Blo := Blo.mono hb
    replace Bllow := Bllow.mono hb
    replace Bltop := Bltop.mono hb
    replace h1 := h1.mono hb
    replace h2 := h2.mono hb
    replace h3 := h3.mono hb
    replace h4 := h4.mono hb
    replace h5 := h5.mono hb
    replace h6 := h6.mono hb
    replace h9 := h9.mono hb
    replace h16 := h16.mono hb
    replace h17 := h17.mono hb
    replace h20 := h20.mono hb
    replace h21 := h21.mono hb
    replace ctop_0 := cellK ctop_0 hb
    replace ctop_1 := cellK ctop_1 hb
    clear hb
    try go_wp2_with fail
    refine hK.out _ _ ⟨ctop_0, ctop_1⟩ (fun hH => ?_)
    clear hK K
    try simp only [LY]
    clear hH
    refine U_one (i := 6) (by kernel_rfl) rfl (fun K hK => ?_)
    go_simp
    (with_reducible refine (l8_part _ HTB.out (by omega) (by omega) (by decide) (by decide)).mono ?_)
    rintro e w27 ⟨_, rfl, h23, hb⟩
    obtain ⟨sh23, ah23, nh23, ch23, Ah23, Nh23, Ch23, rfl⟩ := h23.shape
    replace hs := bStep hs hb
    replace Blshare := Blshare.mono hb
    replace Blhigher := Blhigher.mono hb
    replace Bla := Bla.mono hb
    replace Blb := Blb.mono hb
    replace Blx := Blx.mono hb
    replace Bly := Bly.mono hb
    replace Blz := Blz.mono hb
    replace Blw := Blw.mono hb
    replace Blo := Blo.mono hb
    replace Bllow := Bllow.mono hb
    replace Bltop := Bltop.mono hb
    replace h1 := h1.mono hb
    replace h2 := h2.mono hb
    replace h3 := h3.mono hb
    replace h4 := h4.mono hb
    replace h5 := h5.mono hb
    replace h6 := h6.mono hb
    replace h9 := h9.mono hb
    replace h16 := h16.mono hb
    replace h17 := h17.mono hb
    replace h20 := h20.mono hb
    replace h21 := h21.mono hb
    replace h22 := h22.mono hb
    replace ctop_0 := cellK ctop_0 hb
    replace ctop_1 := cellK ctop_1 hb
    clear hb
    try go_wp2_with fail
    refine hK.out _ _ ⟨ctop_0, ctop_1⟩ (fun hH => ?_)
    clear hK K
    try simp only [LY]
    clear hH
    refine U_one (i := 7) (by kernel_rfl) rfl (fun K hK => ?_)
    go_simp
    (with_reducible refine (al_Rank_e (n := mm) _ HMM.out h22 sta_ CTA.out h23 stb_ CTB.out (by omega) (by omega) HR2.out HE2.out).mono ?_)
    rintro e w28 ⟨rfl, hb⟩
    replace hs := bStep hs hb
    replace Blshare := Blshare.mono hb
    replace Blhigher := Blhigher.mono hb
    replace Bla := Bla.mono hb
    replace Blb := Blb.mono hb
    replace Blx := Blx.mono hb
    replace Bly := Bly.mono hb
    replace Blz := Blz.mono hb
    replace Blw := Blw.mono hb
    replace Blo := Blo.mono hb
    replace Bllow := Bllow.mono hb
    replace Bltop := Bltop.mono hb
    replace h1 := h1.mono hb
    replace h2 := h2.mono hb
    replace h3 := h3.mono hb
    replace h4 := h4.mono hb
    replace h5 := h5.mono hb
    replace h6 := h6.mono hb
    replace h9 := h9.mono hb
    replace h16 := h16.mono hb
    replace h17 := h17.mono hb
    replace h20 := h20.mono hb
    replace h21 := h21.mono hb
    replace h22 := h22.mono hb
    replace h23 := h23.mono hb
    replace ctop_0 := cellK ctop_0 hb
    replace ctop_1 := cellK ctop_1 hb
    clear hb
    try go_wp2_with fail
    refine hK.out _ _ ⟨ctop_0, ctop_1⟩ (fun hH => ?_)
    clear hK K
    try simp only [LY]
    refine U_takeN (i := 8) (d := 178) (v := ?_) rfl rfl rfl (by kernel_rfl) (by kernel_rfl) (by kernel_rfl) (fun _ _ _ h => h) (Or.inl ⟨by rfl, ?_⟩) hH ?_
    rotate_left
    · intro w hSw
      try dsimp only at hSw
      go_simp
      try with_reducible rfl
    simp only [LY]
    refine U_takeN (i := 9) (d := 187) (v := ?_) rfl rfl rfl (by kernel_rfl) (by kernel_rfl) (by kernel_rfl) (fun _ _ _ h => h) (Or.inl ⟨by rfl, ?_⟩) hH ?_
    rotate_left
    · intro w hSw
      try dsimp only at hSw
      go_simp
      try with_reducible rfl
    simp only [LY]
    refine U_takeN (i := 10) (d := 188) (v := ?_) rfl rfl rfl (by kernel_rfl) (by kernel_rfl) (by kernel_rfl) (fun _ _ _ h => h) (Or.inl ⟨by rfl, ?_⟩) hH ?_
    rotate_left
    · intro w hSw
      try dsimp only at hSw
      go_simp
      try with_reducible rfl
    simp only [LY]
    refine U_takeN (i := 11) (d := 30) (v := ?_) rfl rfl rfl (by kernel_rfl) (by kernel_rfl) (by kernel_rfl) (fun _ _ _ h => h) (Or.inl ⟨by rfl, ?_⟩) hH ?_
    rotate_left
    · intro w hSw
      try dsimp only at hSw
      go_simp
      try with_reducible rfl
    simp only [LY]
    refine U_takeN (i := 12) (d := 20) (v := ?_) rfl rfl rfl (by kernel_rfl) (by kernel_rfl) (by kernel_rfl) (fun _ _ _ h => h) (Or.inl ⟨by rfl, ?_⟩) hH ?_
    rotate_left
    · intro w hSw
      try dsimp only at hSw
      go_simp
      try with_reducible rfl
    simp only [LY]
    clear hH
    refine U_endN (by kernel_rfl) ?_
    clear ctop_0 ctop_1
    by_cases q24 : e2 = 0
    · have q24b : (e2 == 0) = true := beq_iff_eq.2 (by omega)
      have q24n : (e2 != 0) = false := bne_eq_false_iff_eq.2 (by omega)
      have q24H := Lib.hid q24
      clear q24
      have q25 : e = 0 := (HRK.out.1 q24H.out).1
      have q25b : (e == 0) = true := beq_iff_eq.2 (by omega)
      have q25n : (e != 0) = false := bne_eq_false_iff_eq.2 (by omega)
      have q25H := Lib.hid q25
      clear q25
      have q26 : ¬ (r < r2) := (by have h := (HRK.out.1 q24H.out).2; omega)
      have q26d : (r < r2) = False := eq_false (by omega)
      have q27 : e = 0 := (HRK.out.1 q24H.out).1
      have q27b : (e == 0) = true := beq_iff_eq.2 (by omega)
      have q27n : (e != 0) = false := bne_eq_false_iff_eq.2 (by omega)
      have q27H := Lib.hid q27
      clear q27
      have q28 : ¬ (r < 1) := (by have h := HRK.out.2.1 (HRK.out.1 q24H.out).1; omega)
      have q28d : (r < 1) = False := eq_false (by omega)
      go_upto_region 18 with fail
      refine U_region (S := fun w' => w'.cell? ⟨w19.heap.size, 0, none⟩ = some (.int .i64 (s0 % 9)) ∧ w'.cell? ⟨w19.heap.size, 1, none⟩ = some (.int .i64 (s1 % 9))) (by kernel_rfl) 16 ?_
      refine AnyU.abs ?_
      intro w29 hW
      have hb : Below w28.heap.size w28 w29 := by rw [hW]; exact bDrew _
      replace hs := bStep hs hb
      replace Blshare := Blshare.mono hb
      replace Blhigher := Blhigher.mono hb
      replace Bla := Bla.mono hb
      replace Blb := Blb.mono hb
      replace Blx := Blx.mono hb
      replace Bly := Bly.mono hb
      replace Blz := Blz.mono hb
      replace Blw := Blw.mono hb
      replace Blo := Blo.mono hb
      replace Bllow := Bllow.mono hb
      replace Bltop := Bltop.mono hb
      replace h1 := h1.mono hb
      replace h2 := h2.mono hb
      replace h3 := h3.mono hb
      replace h4 := h4.mono hb
      replace h5 := h5.mono hb
      replace h6 := h6.mono hb
      replace h9 := h9.mono hb
      replace h16 := h16.mono hb
      replace h17 := h17.mono hb
      replace h20 := h20.mono hb
      replace h21 := h21.mono hb
      replace h22 := h22.mono hb
      replace h23 := h23.mono hb
      clear hb hW
      have clow_0 : w29.cell? ⟨w19.heap.size, 0, none⟩ = some (.int .i64 (s0 % 9)) := Bllow.at 0 rfl
      have clow_1 : w29.cell? ⟨w19.heap.size, 1, none⟩ = some (.int .i64 (s1 % 9)) := Bllow.at 1 rfl
      have hH := (show w29.cell? ⟨w19.heap.size, 0, none⟩ = some (.int .i64 (s0 % 9)) ∧ w29.cell? ⟨w19.heap.size, 1, none⟩ = some (.int .i64 (s1 % 9)) from ⟨clow_0, clow_1⟩)
      refine U_takeN (i := 0) (d := 209) (v := ?_) rfl rfl rfl (by kernel_rfl) (by kernel_rfl) (by kernel_rfl) (fun _ _ _ h => h) (Or.inl ⟨by rfl, ?_⟩) hH ?_
      rotate_left
      · intro w hSw
        try dsimp only at hSw
        go_simp
        try with_reducible rfl
      simp only [LY]
      refine U_takeN (i := 1) (d := 210) (v := ?_) rfl rfl rfl (by kernel_rfl) (by kernel_rfl) (by kernel_rfl) (fun _ _ _ h => h) (Or.inl ⟨by rfl, ?_⟩) hH ?_
      rotate_left
      · intro w hSw
        try dsimp only at hSw
        go_simp
        try with_reducible rfl
      simp only [LY]
      refine U_takeN (i := 2) (d := 211) (v := ?_) rfl rfl rfl (by kernel_rfl) (by kernel_rfl) (by kernel_rfl) (fun _ _ _ h => h) (Or.inl ⟨by rfl, ?_⟩) hH ?_
      rotate_left
      · intro w hSw
        try dsimp only at hSw
        go_simp
        try with_reducible rfl
      simp only [LY]
      refine U_takeN (i := 3) (d := 212) (v := ?_) rfl rfl rfl (by kernel_rfl) (by kernel_rfl) (by kernel_rfl) (fun _ _ _ h => h) (Or.inl ⟨by rfl, ?_⟩) hH ?_
      rotate_left
      · intro w hSw
        try dsimp only at hSw
        go_simp
        try with_reducible rfl
      simp only [LY]
      refine U_takeN (i := 4) (d := 213) (v := ?_) rfl rfl rfl (by kernel_rfl) (by kernel_rfl) (by kernel_rfl) (fun _ _ _ h => h) (Or.inl ⟨by rfl, ?_⟩) hH ?_
      rotate_left
      · intro w hSw
        try dsimp only at hSw
        go_simp
        try with_reducible rfl
      simp only [LY]
      refine U_takeN (i := 5) (d := 214) (v := ?_) rfl rfl rfl (by kernel_rfl) (by kernel_rfl) (by kernel_rfl) (fun _ _ _ h => h) (Or.inl ⟨by rfl, ?_⟩) hH ?_
      rotate_left
      · intro w hSw
        try dsimp only at hSw
        go_simp
        try with_reducible rfl
      simp only [LY]
      refine U_takeN (i := 7) (d := 216) (v := ?_) rfl rfl rfl (by kernel_rfl) (by kernel_rfl) (by kernel_rfl) (fun _ _ _ h => h) (Or.inl ⟨by rfl, ?_⟩) hH ?_
      rotate_left
      · intro w hSw
        try dsimp only at hSw
        go_simp
        try with_reducible rfl
      simp only [LY]
      refine U_takeN (i := 8) (d := 217) (v := ?_) rfl rfl rfl (by kernel_rfl) (by kernel_rfl) (by kernel_rfl) (fun _ _ _ h => h) (Or.inl ⟨by rfl, ?_⟩) hH ?_
      rotate_left
      · intro w hSw
        try dsimp only at hSw
        go_simp
        try with_reducible rfl
      simp only [LY]
      clear hH
      refine U_one (i := 6) (by kernel_rfl) rfl (fun K hK => ?_)
      go_simp
      (with_reducible refine (l8_part _ HLA.out (by omega) (by omega) (by decide) (by decide)).mono ?_)
      rintro e w30 ⟨_, rfl, h29, hb⟩
      obtain ⟨sh29, ah29, nh29, ch29, Ah29, Nh29, Ch29, rfl⟩ := h29.shape
      replace hs := bStep hs hb
      replace Blshare := Blshare.mono hb
      replace Blhigher := Blhigher.mono hb
      replace Bla := Bla.mono hb
      replace Blb := Blb.mono hb
      replace Blx := Blx.mono hb
      replace Bly := Bly.mono hb
      replace Blz := Blz.mono hb
      replace Blw := Blw.mono hb
      replace Blo := Blo.mono hb
      replace Bllow := Bllow.mono hb
      replace Bltop := Bltop.mono hb
      replace h1 := h1.mono hb
      replace h2 := h2.mono hb
      replace h3 := h3.mono hb
      replace h4 := h4.mono hb
      replace h5 := h5.mono hb
      replace h6 := h6.mono hb
      replace h9 := h9.mono hb
      replace h16 := h16.mono hb
      replace h17 := h17.mono hb
      replace h20 := h20.mono hb
      replace h21 := h21.mono hb
      replace h22 := h22.mono hb
      replace h23 := h23.mono hb
      replace clow_0 := cellK clow_0 hb
      replace clow_1 := cellK clow_1 hb
      clear hb
      try go_wp2_with fail
      refine hK.out _ _ ⟨clow_0, clow_1⟩ (fun hH => ?_)
      clear hK K
      try simp only [LY]
      clear hH
      refine U_one (i := 9) (by kernel_rfl) rfl (fun K hK => ?_)
      go_simp
      (with_reducible refine (l8_part _ HLB.out (by omega) (by omega) (by decide) (by decide)).mono ?_)
      rintro e w31 ⟨_, rfl, h30, hb⟩
      obtain ⟨sh30, ah30, nh30, ch30, Ah30, Nh30, Ch30, rfl⟩ := h30.shape
      replace hs := bStep hs hb
      replace Blshare := Blshare.mono hb
      replace Blhigher := Blhigher.mono hb
      replace Bla := Bla.mono hb
      replace Blb := Blb.mono hb
      replace Blx := Blx.mono hb
      replace Bly := Bly.mono hb
      replace Blz := Blz.mono hb
      replace Blw := Blw.mono hb
      replace Blo := Blo.mono hb
      replace Bllow := Bllow.mono hb
      replace Bltop := Bltop.mono hb
      replace h1 := h1.mono hb
      replace h2 := h2.mono hb
      replace h3 := h3.mono hb
      replace h4 := h4.mono hb
      replace h5 := h5.mono hb
      replace h6 := h6.mono hb
      replace h9 := h9.mono hb
      replace h16 := h16.mono hb
      replace h17 := h17.mono hb
      replace h20 := h20.mono hb
      replace h21 := h21.mono hb
      replace h22 := h22.mono hb
      replace h23 := h23.mono hb
      replace h29 := h29.mono hb
      replace clow_0 := cellK clow_0 hb
      replace clow_1 := cellK clow_1 hb
      clear hb
      try go_wp2_with fail
      refine hK.out _ _ ⟨clow_0, clow_1⟩ (fun hH => ?_)
      clear hK K
      try simp only [LY]
      clear hH
      refine U_one (i := 10) (by kernel_rfl) rfl (fun K hK => ?_)
      go_simp
      (with_reducible refine (al_Coupons_e (n := kk) _ (by first | exact HKK.out | (rw [Int.tmod_eq_emod_of_nonneg (by omega), IntWalk.i64_in (k % 3) (by omega), IntWalk.i64_in (1 + k % 3) (by omega)]; exact HKK.out)) h29 sla_ CLA.out h30 slb_ CLB.out (by omega) (by omega) HD.out HG.out).mono ?_)
      rintro e w32 ⟨rfl, hb⟩
      replace hs := bStep hs hb
      replace Blshare := Blshare.mono hb
      replace Blhigher := Blhigher.mono hb
      replace Bla := Bla.mono hb
      replace Blb := Blb.mono hb
      replace Blx := Blx.mono hb
      replace Bly := Bly.mono hb
      replace Blz := Blz.mono hb
      replace Blw := Blw.mono hb
      replace Blo := Blo.mono hb
      replace Bllow := Bllow.mono hb
      replace Bltop := Bltop.mono hb
      replace h1 := h1.mono hb
      replace h2 := h2.mono hb
      replace h3 := h3.mono hb
      replace h4 := h4.mono hb
      replace h5 := h5.mono hb
      replace h6 := h6.mono hb
      replace h9 := h9.mono hb
      replace h16 := h16.mono hb
      replace h17 := h17.mono hb
      replace h20 := h20.mono hb
      replace h21 := h21.mono hb
      replace h22 := h22.mono hb
      replace h23 := h23.mono hb
      replace h29 := h29.mono hb
      replace h30 := h30.mono hb
      replace clow_0 := cellK clow_0 hb
      replace clow_1 := cellK clow_1 hb
      clear hb
      try go_wp2_with fail
      refine hK.out _ _ ⟨clow_0, clow_1⟩ (fun hH => ?_)
      clear hK K
      try simp only [LY]
      refine U_takeN (i := 11) (d := 208) (v := ?_) rfl rfl rfl (by kernel_rfl) (by kernel_rfl) (by kernel_rfl) (fun _ _ _ h => h) (Or.inl ⟨by rfl, ?_⟩) hH ?_
      rotate_left
      · intro w hSw
        try dsimp only at hSw
        go_simp
        try with_reducible rfl
      simp only [LY]
      refine U_takeN (i := 12) (d := 220) (v := ?_) rfl rfl rfl (by kernel_rfl) (by kernel_rfl) (by kernel_rfl) (fun _ _ _ h => h) (Or.inl ⟨by rfl, ?_⟩) hH ?_
      rotate_left
      · intro w hSw
        try dsimp only at hSw
        go_simp
        try with_reducible rfl
      simp only [LY]
      refine U_takeN (i := 13) (d := 221) (v := ?_) rfl rfl rfl (by kernel_rfl) (by kernel_rfl) (by kernel_rfl) (fun _ _ _ h => h) (Or.inl ⟨by rfl, ?_⟩) hH ?_
      rotate_left
      · intro w hSw
        try dsimp only at hSw
        go_simp
        try with_reducible rfl
      simp only [LY]
      refine U_takeN (i := 14) (d := 31) (v := ?_) rfl rfl rfl (by kernel_rfl) (by kernel_rfl) (by kernel_rfl) (fun _ _ _ h => h) (Or.inl ⟨by rfl, ?_⟩) hH ?_
      rotate_left
      · intro w hSw
        try dsimp only at hSw
        go_simp
        try with_reducible rfl
      simp only [LY]
      refine U_takeN (i := 15) (d := 22) (v := ?_) rfl rfl rfl (by kernel_rfl) (by kernel_rfl) (by kernel_rfl) (fun _ _ _ h => h) (Or.inl ⟨by rfl, ?_⟩) hH ?_
      rotate_left
      · intro w hSw
        try dsimp only at hSw
        go_simp
        try with_reducible rfl
      simp only [LY]
      clear hH
      refine U_endN (by kernel_rfl) ?_
      clear clow_0 clow_1
      go_upto_region 19 with fail
      refine U_region (S := fun w' => w'.cell? ⟨w19.heap.size + 1, 0, none⟩ = some (.int .i64 (min (s0 % 9 + t0 % 4) 8)) ∧ w'.cell? ⟨w19.heap.size + 1, 1, none⟩ = some (.int .i64 (min (s1 % 9 + t1 % 4) 8))) (by kernel_rfl) 16 ?_
      refine AnyU.abs ?_
      intro w33 hW
      have hb : Below w32.heap.size w32 w33 := by rw [hW]; exact bDrew _
      replace hs := bStep hs hb
      replace Blshare := Blshare.mono hb
      replace Blhigher := Blhigher.mono hb
      replace Bla := Bla.mono hb
      replace Blb := Blb.mono hb
      replace Blx := Blx.mono hb
      replace Bly := Bly.mono hb
      replace Blz := Blz.mono hb
      replace Blw := Blw.mono hb
      replace Blo := Blo.mono hb
      replace Bllow := Bllow.mono hb
      replace Bltop := Bltop.mono hb
      replace h1 := h1.mono hb
      replace h2 := h2.mono hb
      replace h3 := h3.mono hb
      replace h4 := h4.mono hb
      replace h5 := h5.mono hb
      replace h6 := h6.mono hb
      replace h9 := h9.mono hb
      replace h16 := h16.mono hb
      replace h17 := h17.mono hb
      replace h20 := h20.mono hb
      replace h21 := h21.mono hb
      replace h22 := h22.mono hb
      replace h23 := h23.mono hb
      replace h29 := h29.mono hb
      replace h30 := h30.mono hb
      clear hb hW
      have ctop_0 : w33.cell? ⟨w19.heap.size + 1, 0, none⟩ = some (.int .i64 (min (s0 % 9 + t0 % 4) 8)) := Bltop.at 0 rfl
      have ctop_1 : w33.cell? ⟨w19.heap.size + 1, 1, none⟩ = some (.int .i64 (min (s1 % 9 + t1 % 4) 8)) := Bltop.at 1 rfl
      have hH := (show w33.cell? ⟨w19.heap.size + 1, 0, none⟩ = some (.int .i64 (min (s0 % 9 + t0 % 4) 8)) ∧ w33.cell? ⟨w19.heap.size + 1, 1, none⟩ = some (.int .i64 (min (s1 % 9 + t1 % 4) 8)) from ⟨ctop_0, ctop_1⟩)
      refine U_takeN (i := 0) (d := 223) (v := ?_) rfl rfl rfl (by kernel_rfl) (by kernel_rfl) (by kernel_rfl) (fun _ _ _ h => h) (Or.inl ⟨by rfl, ?_⟩) hH ?_
      rotate_left
      · intro w hSw
        try dsimp only at hSw
        go_simp
        try with_reducible rfl
      simp only [LY]
      refine U_takeN (i := 1) (d := 224) (v := ?_) rfl rfl rfl (by kernel_rfl) (by kernel_rfl) (by kernel_rfl) (fun _ _ _ h => h) (Or.inl ⟨by rfl, ?_⟩) hH ?_
      rotate_left
      · intro w hSw
        try dsimp only at hSw
        go_simp
        try with_reducible rfl
      simp only [LY]
      refine U_takeN (i := 2) (d := 225) (v := ?_) rfl rfl rfl (by kernel_rfl) (by kernel_rfl) (by kernel_rfl) (fun _ _ _ h => h) (Or.inl ⟨by rfl, ?_⟩) hH ?_
      rotate_left
      · intro w hSw
        try dsimp only at hSw
        go_simp
        try with_reducible rfl
      simp only [LY]
      refine U_takeN (i := 3) (d := 226) (v := ?_) rfl rfl rfl (by kernel_rfl) (by kernel_rfl) (by kernel_rfl) (fun _ _ _ h => h) (Or.inl ⟨by rfl, ?_⟩) hH ?_
      rotate_left
      · intro w hSw
        try dsimp only at hSw
        go_simp
        try with_reducible rfl
      simp only [LY]
      refine U_takeN (i := 4) (d := 227) (v := ?_) rfl rfl rfl (by kernel_rfl) (by kernel_rfl) (by kernel_rfl) (fun _ _ _ h => h) (Or.inl ⟨by rfl, ?_⟩) hH ?_
      rotate_left
      · intro w hSw
        try dsimp only at hSw
        go_simp
        try with_reducible rfl
      simp only [LY]
      refine U_takeN (i := 5) (d := 228) (v := ?_) rfl rfl rfl (by kernel_rfl) (by kernel_rfl) (by kernel_rfl) (fun _ _ _ h => h) (Or.inl ⟨by rfl, ?_⟩) hH ?_
      rotate_left
      · intro w hSw
        try dsimp only at hSw
        go_simp
        try with_reducible rfl
      simp only [LY]
      refine U_takeN (i := 7) (d := 230) (v := ?_) rfl rfl rfl (by kernel_rfl) (by kernel_rfl) (by kernel_rfl) (fun _ _ _ h => h) (Or.inl ⟨by rfl, ?_⟩) hH ?_
      rotate_left
      · intro w hSw
        try dsimp only at hSw
        go_simp
        try with_reducible rfl
      simp only [LY]
      refine U_takeN (i := 8) (d := 231) (v := ?_) rfl rfl rfl (by kernel_rfl) (by kernel_rfl) (by kernel_rfl) (fun _ _ _ h => h) (Or.inl ⟨by rfl, ?_⟩) hH ?_
      rotate_left
      · intro w hSw
        try dsimp only at hSw
        go_simp
        try with_reducible rfl
      simp only [LY]
      clear hH
      refine U_one (i := 6) (by kernel_rfl) rfl (fun K hK => ?_)
      go_simp
      (with_reducible refine (l8_part _ HTA.out (by omega) (by omega) (by decide) (by decide)).mono ?_)
      rintro e w34 ⟨_, rfl, h31, hb⟩
      obtain ⟨sh31, ah31, nh31, ch31, Ah31, Nh31, Ch31, rfl⟩ := h31.shape
      replace hs := bStep hs hb
      replace Blshare := Blshare.mono hb
      replace Blhigher := Blhigher.mono hb
      replace Bla := Bla.mono hb
      replace Blb := Blb.mono hb
      replace Blx := Blx.mono hb
      replace Bly := Bly.mono hb
      replace Blz := Blz.mono hb
      replace Blw := Blw.mono hb
      replace Blo := Blo.mono hb
      replace Bllow := Bllow.mono hb
      replace Bltop := Bltop.mono hb
      replace h1 := h1.mono hb
      replace h2 := h2.mono hb
      replace h3 := h3.mono hb
      replace h4 := h4.mono hb
      replace h5 := h5.mono hb
      replace h6 := h6.mono hb
      replace h9 := h9.mono hb
      replace h16 := h16.mono hb
      replace h17 := h17.mono hb
      replace h20 := h20.mono hb
      replace h21 := h21.mono hb
      replace h22 := h22.mono hb
      replace h23 := h23.mono hb
      replace h29 := h29.mono hb
      replace h30 := h30.mono hb
      replace ctop_0 := cellK ctop_0 hb
      replace ctop_1 := cellK ctop_1 hb
      clear hb
      try go_wp2_with fail
      refine hK.out _ _ ⟨ctop_0, ctop_1⟩ (fun hH => ?_)
      clear hK K
      try simp only [LY]
      clear hH
      refine U_one (i := 9) (by kernel_rfl) rfl (fun K hK => ?_)
      go_simp
      (with_reducible refine (l8_part _ HTB.out (by omega) (by omega) (by decide) (by decide)).mono ?_)
      rintro e w35 ⟨_, rfl, h32, hb⟩
      obtain ⟨sh32, ah32, nh32, ch32, Ah32, Nh32, Ch32, rfl⟩ := h32.shape
      replace hs := bStep hs hb
      replace Blshare := Blshare.mono hb
      replace Blhigher := Blhigher.mono hb
      replace Bla := Bla.mono hb
      replace Blb := Blb.mono hb
      replace Blx := Blx.mono hb
      replace Bly := Bly.mono hb
      replace Blz := Blz.mono hb
      replace Blw := Blw.mono hb
      replace Blo := Blo.mono hb
      replace Bllow := Bllow.mono hb
      replace Bltop := Bltop.mono hb
      replace h1 := h1.mono hb
      replace h2 := h2.mono hb
      replace h3 := h3.mono hb
      replace h4 := h4.mono hb
      replace h5 := h5.mono hb
      replace h6 := h6.mono hb
      replace h9 := h9.mono hb
      replace h16 := h16.mono hb
      replace h17 := h17.mono hb
      replace h20 := h20.mono hb
      replace h21 := h21.mono hb
      replace h22 := h22.mono hb
      replace h23 := h23.mono hb
      replace h29 := h29.mono hb
      replace h30 := h30.mono hb
      replace h31 := h31.mono hb
      replace ctop_0 := cellK ctop_0 hb
      replace ctop_1 := cellK ctop_1 hb
      clear hb
      try go_wp2_with fail
      refine hK.out _ _ ⟨ctop_0, ctop_1⟩ (fun hH => ?_)
      clear hK K
      try simp only [LY]
      clear hH
      refine U_one (i := 10) (by kernel_rfl) rfl (fun K hK => ?_)
      go_simp
      (with_reducible refine (al_Coupons_e (n := kk) _ (by first | exact HKK.out | (rw [Int.tmod_eq_emod_of_nonneg (by omega), IntWalk.i64_in (k % 3) (by omega), IntWalk.i64_in (1 + k % 3) (by omega)]; exact HKK.out)) h31 sta_ CTA.out h32 stb_ CTB.out (by omega) (by omega) HD2.out HG2.out).mono ?_)
      rintro e w36 ⟨rfl, hb⟩
      replace hs := bStep hs hb
      replace Blshare := Blshare.mono hb
      replace Blhigher := Blhigher.mono hb
      replace Bla := Bla.mono hb
      replace Blb := Blb.mono hb
      replace Blx := Blx.mono hb
      replace Bly := Bly.mono hb
      replace Blz := Blz.mono hb
      replace Blw := Blw.mono hb
      replace Blo := Blo.mono hb
      replace Bllow := Bllow.mono hb
      replace Bltop := Bltop.mono hb
      replace h1 := h1.mono hb
      replace h2 := h2.mono hb
      replace h3 := h3.mono hb
      replace h4 := h4.mono hb
      replace h5 := h5.mono hb
      replace h6 := h6.mono hb
      replace h9 := h9.mono hb
      replace h16 := h16.mono hb
      replace h17 := h17.mono hb
      replace h20 := h20.mono hb
      replace h21 := h21.mono hb
      replace h22 := h22.mono hb
      replace h23 := h23.mono hb
      replace h29 := h29.mono hb
      replace h30 := h30.mono hb
      replace h31 := h31.mono hb
      replace h32 := h32.mono hb
      replace ctop_0 := cellK ctop_0 hb
      replace ctop_1 := cellK ctop_1 hb
      clear hb
      try go_wp2_with fail
      refine hK.out _ _ ⟨ctop_0, ctop_1⟩ (fun hH => ?_)
      clear hK K
      try simp only [LY]
      refine U_takeN (i := 11) (d := 222) (v := ?_) rfl rfl rfl (by kernel_rfl) (by kernel_rfl) (by kernel_rfl) (fun _ _ _ h => h) (Or.inl ⟨by rfl, ?_⟩) hH ?_
      rotate_left
      · intro w hSw
        try dsimp only at hSw
        go_simp
        try with_reducible rfl
      simp only [LY]
      refine U_takeN (i := 12) (d := 234) (v := ?_) rfl rfl rfl (by kernel_rfl) (by kernel_rfl) (by kernel_rfl) (fun _ _ _ h => h) (Or.inl ⟨by rfl, ?_⟩) hH ?_
      rotate_left
      · intro w hSw
        try dsimp only at hSw
        go_simp
        try with_reducible rfl
      simp only [LY]
      refine U_takeN (i := 13) (d := 235) (v := ?_) rfl rfl rfl (by kernel_rfl) (by kernel_rfl) (by kernel_rfl) (fun _ _ _ h => h) (Or.inl ⟨by rfl, ?_⟩) hH ?_
      rotate_left
      · intro w hSw
        try dsimp only at hSw
        go_simp
        try with_reducible rfl
      simp only [LY]
      refine U_takeN (i := 14) (d := 32) (v := ?_) rfl rfl rfl (by kernel_rfl) (by kernel_rfl) (by kernel_rfl) (fun _ _ _ h => h) (Or.inl ⟨by rfl, ?_⟩) hH ?_
      rotate_left
      · intro w hSw
        try dsimp only at hSw
        go_simp
        try with_reducible rfl
      simp only [LY]
      refine U_takeN (i := 15) (d := 24) (v := ?_) rfl rfl rfl (by kernel_rfl) (by kernel_rfl) (by kernel_rfl) (fun _ _ _ h => h) (Or.inl ⟨by rfl, ?_⟩) hH ?_
      rotate_left
      · intro w hSw
        try dsimp only at hSw
        go_simp
        try with_reducible rfl
      simp only [LY]
      clear hH
      refine U_endN (by kernel_rfl) ?_
      clear ctop_0 ctop_1
      by_cases q33 : g2 = 0
      · have q33b : (g2 == 0) = true := beq_iff_eq.2 (by omega)
        have q33n : (g2 != 0) = false := bne_eq_false_iff_eq.2 (by omega)
        have q33H := Lib.hid q33
        clear q33
        have q34 : g = 0 := (HRK.out.2.2 q33H.out).1
        have q34b : (g == 0) = true := beq_iff_eq.2 (by omega)
        have q34n : (g != 0) = false := bne_eq_false_iff_eq.2 (by omega)
        have q34H := Lib.hid q34
        clear q34
        have q35 : d ≤ d2 := (HRK.out.2.2 q33H.out).2
        have q35d : (d ≤ d2) = True := eq_true (by omega)
        go_wp2
        go_ret
        exact ⟨rfl, hs⟩
      · have q33b : (g2 == 0) = false := beq_eq_false_iff_ne.2 (by omega)
        have q33n : (g2 != 0) = true := bne_iff_ne.2 (by omega)
        have q33H := Lib.hid q33
        clear q33
        go_wp2
        go_ret
        exact ⟨rfl, hs⟩
    · have q24b : (e2 == 0) = false := beq_eq_false_iff_ne.2 (by omega)
      have q24n : (e2 != 0) = true := bne_iff_ne.2 (by omega)
      have q24H := Lib.hid q24
      clear q24
      by_cases q25 : e = 0
      · have q25b : (e == 0) = true := beq_iff_eq.2 (by omega)
        have q25n : (e != 0) = false := bne_eq_false_iff_eq.2 (by omega)
        have q25H := Lib.hid q25
        clear q25
        have q26 : ¬ (r < 1) := (by have h := HRK.out.2.1 q25H.out; omega)
        have q26d : (r < 1) = False := eq_false (by omega)
        go_upto_region 18 with fail
        refine U_region (S := fun w' => w'.cell? ⟨w19.heap.size, 0, none⟩ = some (.int .i64 (s0 % 9)) ∧ w'.cell? ⟨w19.heap.size, 1, none⟩ = some (.int .i64 (s1 % 9))) (by kernel_rfl) 16 ?_
        refine AnyU.abs ?_
        intro w29 hW
        have hb : Below w28.heap.size w28 w29 := by rw [hW]; exact bDrew _
        replace hs := bStep hs hb
        replace Blshare := Blshare.mono hb
        replace Blhigher := Blhigher.mono hb
        replace Bla := Bla.mono hb
        replace Blb := Blb.mono hb
        replace Blx := Blx.mono hb
        replace Bly := Bly.mono hb
        replace Blz := Blz.mono hb
        replace Blw := Blw.mono hb
        replace Blo := Blo.mono hb
        replace Bllow := Bllow.mono hb
        replace Bltop := Bltop.mono hb
        replace h1 := h1.mono hb
        replace h2 := h2.mono hb
        replace h3 := h3.mono hb
        replace h4 := h4.mono hb
        replace h5 := h5.mono hb
        replace h6 := h6.mono hb
        replace h9 := h9.mono hb
        replace h16 := h16.mono hb
        replace h17 := h17.mono hb
        replace h20 := h20.mono hb
        replace h21 := h21.mono hb
        replace h22 := h22.mono hb
        replace h23 := h23.mono hb
        clear hb hW
        have clow_0 : w29.cell? ⟨w19.heap.size, 0, none⟩ = some (.int .i64 (s0 % 9)) := Bllow.at 0 rfl
        have clow_1 : w29.cell? ⟨w19.heap.size, 1, none⟩ = some (.int .i64 (s1 % 9)) := Bllow.at 1 rfl
        have hH := (show w29.cell? ⟨w19.heap.size, 0, none⟩ = some (.int .i64 (s0 % 9)) ∧ w29.cell? ⟨w19.heap.size, 1, none⟩ = some (.int .i64 (s1 % 9)) from ⟨clow_0, clow_1⟩)
        refine U_takeN (i := 0) (d := 209) (v := ?_) rfl rfl rfl (by kernel_rfl) (by kernel_rfl) (by kernel_rfl) (fun _ _ _ h => h) (Or.inl ⟨by rfl, ?_⟩) hH ?_
        rotate_left
        · intro w hSw
          try dsimp only at hSw
          go_simp
          try with_reducible rfl
        simp only [LY]
        refine U_takeN (i := 1) (d := 210) (v := ?_) rfl rfl rfl (by kernel_rfl) (by kernel_rfl) (by kernel_rfl) (fun _ _ _ h => h) (Or.inl ⟨by rfl, ?_⟩) hH ?_
        rotate_left
        · intro w hSw
          try dsimp only at hSw
          go_simp
          try with_reducible rfl
        simp only [LY]
        refine U_takeN (i := 2) (d := 211) (v := ?_) rfl rfl rfl (by kernel_rfl) (by kernel_rfl) (by kernel_rfl) (fun _ _ _ h => h) (Or.inl ⟨by rfl, ?_⟩) hH ?_
        rotate_left
        · intro w hSw
          try dsimp only at hSw
          go_simp
          try with_reducible rfl
        simp only [LY]
        refine U_takeN (i := 3) (d := 212) (v := ?_) rfl rfl rfl (by kernel_rfl) (by kernel_rfl) (by kernel_rfl) (fun _ _ _ h => h) (Or.inl ⟨by rfl, ?_⟩) hH ?_
        rotate_left
        · intro w hSw
          try dsimp only at hSw
          go_simp
          try with_reducible rfl
        simp only [LY]
        refine U_takeN (i := 4) (d := 213) (v := ?_) rfl rfl rfl (by kernel_rfl) (by kernel_rfl) (by kernel_rfl) (fun _ _ _ h => h) (Or.inl ⟨by rfl, ?_⟩) hH ?_
        rotate_left
        · intro w hSw
          try dsimp only at hSw
          go_simp
          try with_reducible rfl
        simp only [LY]
        refine U_takeN (i := 5) (d := 214) (v := ?_) rfl rfl rfl (by kernel_rfl) (by kernel_rfl) (by kernel_rfl) (fun _ _ _ h => h) (Or.inl ⟨by rfl, ?_⟩) hH ?_
        rotate_left
        · intro w hSw
          try dsimp only at hSw
          go_simp
          try with_reducible rfl
        simp only [LY]
        refine U_takeN (i := 7) (d := 216) (v := ?_) rfl rfl rfl (by kernel_rfl) (by kernel_rfl) (by kernel_rfl) (fun _ _ _ h => h) (Or.inl ⟨by rfl, ?_⟩) hH ?_
        rotate_left
        · intro w hSw
          try dsimp only at hSw
          go_simp
          try with_reducible rfl
        simp only [LY]
        refine U_takeN (i := 8) (d := 217) (v := ?_) rfl rfl rfl (by kernel_rfl) (by kernel_rfl) (by kernel_rfl) (fun _ _ _ h => h) (Or.inl ⟨by rfl, ?_⟩) hH ?_
        rotate_left
        · intro w hSw
          try dsimp only at hSw
          go_simp
          try with_reducible rfl
        simp only [LY]
        clear hH
        refine U_one (i := 6) (by kernel_rfl) rfl (fun K hK => ?_)
        go_simp
        (with_reducible refine (l8_part _ HLA.out (by omega) (by omega) (by decide) (by decide)).mono ?_)
        rintro e w30 ⟨_, rfl, h27, hb⟩
        obtain ⟨sh27, ah27, nh27, ch27, Ah27, Nh27, Ch27, rfl⟩ := h27.shape
        replace hs := bStep hs hb
        replace Blshare := Blshare.mono hb
        replace Blhigher := Blhigher.mono hb
        replace Bla := Bla.mono hb
        replace Blb := Blb.mono hb
        replace Blx := Blx.mono hb
        replace Bly := Bly.mono hb
        replace Blz := Blz.mono hb
        replace Blw := Blw.mono hb
        replace Blo := Blo.mono hb
        replace Bllow := Bllow.mono hb
        replace Bltop := Bltop.mono hb
        replace h1 := h1.mono hb
        replace h2 := h2.mono hb
        replace h3 := h3.mono hb
        replace h4 := h4.mono hb
        replace h5 := h5.mono hb
        replace h6 := h6.mono hb
        replace h9 := h9.mono hb
        replace h16 := h16.mono hb
        replace h17 := h17.mono hb
        replace h20 := h20.mono hb
        replace h21 := h21.mono hb
        replace h22 := h22.mono hb
        replace h23 := h23.mono hb
        replace clow_0 := cellK clow_0 hb
        replace clow_1 := cellK clow_1 hb
        clear hb
        try go_wp2_with fail
        refine hK.out _ _ ⟨clow_0, clow_1⟩ (fun hH => ?_)
        clear hK K
        try simp only [LY]
        clear hH
        refine U_one (i := 9) (by kernel_rfl) rfl (fun K hK => ?_)
        go_simp
        (with_reducible refine (l8_part _ HLB.out (by omega) (by omega) (by decide) (by decide)).mono ?_)
        rintro e w31 ⟨_, rfl, h28, hb⟩
        obtain ⟨sh28, ah28, nh28, ch28, Ah28, Nh28, Ch28, rfl⟩ := h28.shape
        replace hs := bStep hs hb
        replace Blshare := Blshare.mono hb
        replace Blhigher := Blhigher.mono hb
        replace Bla := Bla.mono hb
        replace Blb := Blb.mono hb
        replace Blx := Blx.mono hb
        replace Bly := Bly.mono hb
        replace Blz := Blz.mono hb
        replace Blw := Blw.mono hb
        replace Blo := Blo.mono hb
        replace Bllow := Bllow.mono hb
        replace Bltop := Bltop.mono hb
        replace h1 := h1.mono hb
        replace h2 := h2.mono hb
        replace h3 := h3.mono hb
        replace h4 := h4.mono hb
        replace h5 := h5.mono hb
        replace h6 := h6.mono hb
        replace h9 := h9.mono hb
        replace h16 := h16.mono hb
        replace h17 := h17.mono hb
        replace h20 := h20.mono hb
        replace h21 := h21.mono hb
        replace h22 := h22.mono hb
        replace h23 := h23.mono hb
        replace h27 := h27.mono hb
        replace clow_0 := cellK clow_0 hb
        replace clow_1 := cellK clow_1 hb
        clear hb
        try go_wp2_with fail
        refine hK.out _ _ ⟨clow_0, clow_1⟩ (fun hH => ?_)
        clear hK K
        try simp only [LY]
        clear hH
        refine U_one (i := 10) (by kernel_rfl) rfl (fun K hK => ?_)
        go_simp
        (with_reducible refine (al_Coupons_e (n := kk) _ (by first | exact HKK.out | (rw [Int.tmod_eq_emod_of_nonneg (by omega), IntWalk.i64_in (k % 3) (by omega), IntWalk.i64_in (1 + k % 3) (by omega)]; exact HKK.out)) h27 sla_ CLA.out h28 slb_ CLB.out (by omega) (by omega) HD.out HG.out).mono ?_)
        rintro e w32 ⟨rfl, hb⟩
        replace hs := bStep hs hb
        replace Blshare := Blshare.mono hb
        replace Blhigher := Blhigher.mono hb
        replace Bla := Bla.mono hb
        replace Blb := Blb.mono hb
        replace Blx := Blx.mono hb
        replace Bly := Bly.mono hb
        replace Blz := Blz.mono hb
        replace Blw := Blw.mono hb
        replace Blo := Blo.mono hb
        replace Bllow := Bllow.mono hb
        replace Bltop := Bltop.mono hb
        replace h1 := h1.mono hb
        replace h2 := h2.mono hb
        replace h3 := h3.mono hb
        replace h4 := h4.mono hb
        replace h5 := h5.mono hb
        replace h6 := h6.mono hb
        replace h9 := h9.mono hb
        replace h16 := h16.mono hb
        replace h17 := h17.mono hb
        replace h20 := h20.mono hb
        replace h21 := h21.mono hb
        replace h22 := h22.mono hb
        replace h23 := h23.mono hb
        replace h27 := h27.mono hb
        replace h28 := h28.mono hb
        replace clow_0 := cellK clow_0 hb
        replace clow_1 := cellK clow_1 hb
        clear hb
        try go_wp2_with fail
        refine hK.out _ _ ⟨clow_0, clow_1⟩ (fun hH => ?_)
        clear hK K
        try simp only [LY]
        refine U_takeN (i := 11) (d := 208) (v := ?_) rfl rfl rfl (by kernel_rfl) (by kernel_rfl) (by kernel_rfl) (fun _ _ _ h => h) (Or.inl ⟨by rfl, ?_⟩) hH ?_
        rotate_left
        · intro w hSw
          try dsimp only at hSw
          go_simp
          try with_reducible rfl
        simp only [LY]
        refine U_takeN (i := 12) (d := 220) (v := ?_) rfl rfl rfl (by kernel_rfl) (by kernel_rfl) (by kernel_rfl) (fun _ _ _ h => h) (Or.inl ⟨by rfl, ?_⟩) hH ?_
        rotate_left
        · intro w hSw
          try dsimp only at hSw
          go_simp
          try with_reducible rfl
        simp only [LY]
        refine U_takeN (i := 13) (d := 221) (v := ?_) rfl rfl rfl (by kernel_rfl) (by kernel_rfl) (by kernel_rfl) (fun _ _ _ h => h) (Or.inl ⟨by rfl, ?_⟩) hH ?_
        rotate_left
        · intro w hSw
          try dsimp only at hSw
          go_simp
          try with_reducible rfl
        simp only [LY]
        refine U_takeN (i := 14) (d := 31) (v := ?_) rfl rfl rfl (by kernel_rfl) (by kernel_rfl) (by kernel_rfl) (fun _ _ _ h => h) (Or.inl ⟨by rfl, ?_⟩) hH ?_
        rotate_left
        · intro w hSw
          try dsimp only at hSw
          go_simp
          try with_reducible rfl
        simp only [LY]
        refine U_takeN (i := 15) (d := 22) (v := ?_) rfl rfl rfl (by kernel_rfl) (by kernel_rfl) (by kernel_rfl) (fun _ _ _ h => h) (Or.inl ⟨by rfl, ?_⟩) hH ?_
        rotate_left
        · intro w hSw
          try dsimp only at hSw
          go_simp
          try with_reducible rfl
        simp only [LY]
        clear hH
        refine U_endN (by kernel_rfl) ?_
        clear clow_0 clow_1
        go_upto_region 19 with fail
        refine U_region (S := fun w' => w'.cell? ⟨w19.heap.size + 1, 0, none⟩ = some (.int .i64 (min (s0 % 9 + t0 % 4) 8)) ∧ w'.cell? ⟨w19.heap.size + 1, 1, none⟩ = some (.int .i64 (min (s1 % 9 + t1 % 4) 8))) (by kernel_rfl) 16 ?_
        refine AnyU.abs ?_
        intro w33 hW
        have hb : Below w32.heap.size w32 w33 := by rw [hW]; exact bDrew _
        replace hs := bStep hs hb
        replace Blshare := Blshare.mono hb
        replace Blhigher := Blhigher.mono hb
        replace Bla := Bla.mono hb
        replace Blb := Blb.mono hb
        replace Blx := Blx.mono hb
        replace Bly := Bly.mono hb
        replace Blz := Blz.mono hb
        replace Blw := Blw.mono hb
        replace Blo := Blo.mono hb
        replace Bllow := Bllow.mono hb
        replace Bltop := Bltop.mono hb
        replace h1 := h1.mono hb
        replace h2 := h2.mono hb
        replace h3 := h3.mono hb
        replace h4 := h4.mono hb
        replace h5 := h5.mono hb
        replace h6 := h6.mono hb
        replace h9 := h9.mono hb
        replace h16 := h16.mono hb
        replace h17 := h17.mono hb
        replace h20 := h20.mono hb
        replace h21 := h21.mono hb
        replace h22 := h22.mono hb
        replace h23 := h23.mono hb
        replace h27 := h27.mono hb
        replace h28 := h28.mono hb
        clear hb hW
        have ctop_0 : w33.cell? ⟨w19.heap.size + 1, 0, none⟩ = some (.int .i64 (min (s0 % 9 + t0 % 4) 8)) := Bltop.at 0 rfl
        have ctop_1 : w33.cell? ⟨w19.heap.size + 1, 1, none⟩ = some (.int .i64 (min (s1 % 9 + t1 % 4) 8)) := Bltop.at 1 rfl
        have hH := (show w33.cell? ⟨w19.heap.size + 1, 0, none⟩ = some (.int .i64 (min (s0 % 9 + t0 % 4) 8)) ∧ w33.cell? ⟨w19.heap.size + 1, 1, none⟩ = some (.int .i64 (min (s1 % 9 + t1 % 4) 8)) from ⟨ctop_0, ctop_1⟩)
        refine U_takeN (i := 0) (d := 223) (v := ?_) rfl rfl rfl (by kernel_rfl) (by kernel_rfl) (by kernel_rfl) (fun _ _ _ h => h) (Or.inl ⟨by rfl, ?_⟩) hH ?_
        rotate_left
        · intro w hSw
          try dsimp only at hSw
          go_simp
          try with_reducible rfl
        simp only [LY]
        refine U_takeN (i := 1) (d := 224) (v := ?_) rfl rfl rfl (by kernel_rfl) (by kernel_rfl) (by kernel_rfl) (fun _ _ _ h => h) (Or.inl ⟨by rfl, ?_⟩) hH ?_
        rotate_left
        · intro w hSw
          try dsimp only at hSw
          go_simp
          try with_reducible rfl
        simp only [LY]
        refine U_takeN (i := 2) (d := 225) (v := ?_) rfl rfl rfl (by kernel_rfl) (by kernel_rfl) (by kernel_rfl) (fun _ _ _ h => h) (Or.inl ⟨by rfl, ?_⟩) hH ?_
        rotate_left
        · intro w hSw
          try dsimp only at hSw
          go_simp
          try with_reducible rfl
        simp only [LY]
        refine U_takeN (i := 3) (d := 226) (v := ?_) rfl rfl rfl (by kernel_rfl) (by kernel_rfl) (by kernel_rfl) (fun _ _ _ h => h) (Or.inl ⟨by rfl, ?_⟩) hH ?_
        rotate_left
        · intro w hSw
          try dsimp only at hSw
          go_simp
          try with_reducible rfl
        simp only [LY]
        refine U_takeN (i := 4) (d := 227) (v := ?_) rfl rfl rfl (by kernel_rfl) (by kernel_rfl) (by kernel_rfl) (fun _ _ _ h => h) (Or.inl ⟨by rfl, ?_⟩) hH ?_
        rotate_left
        · intro w hSw
          try dsimp only at hSw
          go_simp
          try with_reducible rfl
        simp only [LY]
        refine U_takeN (i := 5) (d := 228) (v := ?_) rfl rfl rfl (by kernel_rfl) (by kernel_rfl) (by kernel_rfl) (fun _ _ _ h => h) (Or.inl ⟨by rfl, ?_⟩) hH ?_
        rotate_left
        · intro w hSw
          try dsimp only at hSw
          go_simp
          try with_reducible rfl
        simp only [LY]
        refine U_takeN (i := 7) (d := 230) (v := ?_) rfl rfl rfl (by kernel_rfl) (by kernel_rfl) (by kernel_rfl) (fun _ _ _ h => h) (Or.inl ⟨by rfl, ?_⟩) hH ?_
        rotate_left
        · intro w hSw
          try dsimp only at hSw
          go_simp
          try with_reducible rfl
        simp only [LY]
        refine U_takeN (i := 8) (d := 231) (v := ?_) rfl rfl rfl (by kernel_rfl) (by kernel_rfl) (by kernel_rfl) (fun _ _ _ h => h) (Or.inl ⟨by rfl, ?_⟩) hH ?_
        rotate_left
        · intro w hSw
          try dsimp only at hSw
          go_simp
          try with_reducible rfl
        simp only [LY]
        clear hH
        refine U_one (i := 6) (by kernel_rfl) rfl (fun K hK => ?_)
        go_simp
        (with_reducible refine (l8_part _ HTA.out (by omega) (by omega) (by decide) (by decide)).mono ?_)
        rintro e w34 ⟨_, rfl, h29, hb⟩
        obtain ⟨sh29, ah29, nh29, ch29, Ah29, Nh29, Ch29, rfl⟩ := h29.shape
        replace hs := bStep hs hb
        replace Blshare := Blshare.mono hb
        replace Blhigher := Blhigher.mono hb
        replace Bla := Bla.mono hb
        replace Blb := Blb.mono hb
        replace Blx := Blx.mono hb
        replace Bly := Bly.mono hb
        replace Blz := Blz.mono hb
        replace Blw := Blw.mono hb
        replace Blo := Blo.mono hb
        replace Bllow := Bllow.mono hb
        replace Bltop := Bltop.mono hb
        replace h1 := h1.mono hb
        replace h2 := h2.mono hb
        replace h3 := h3.mono hb
        replace h4 := h4.mono hb
        replace h5 := h5.mono hb
        replace h6 := h6.mono hb
        replace h9 := h9.mono hb
        replace h16 := h16.mono hb
        replace h17 := h17.mono hb
        replace h20 := h20.mono hb
        replace h21 := h21.mono hb
        replace h22 := h22.mono hb
        replace h23 := h23.mono hb
        replace h27 := h27.mono hb
        replace h28 := h28.mono hb
        replace ctop_0 := cellK ctop_0 hb
        replace ctop_1 := cellK ctop_1 hb
        clear hb
        try go_wp2_with fail
        refine hK.out _ _ ⟨ctop_0, ctop_1⟩ (fun hH => ?_)
        clear hK K
        try simp only [LY]
        clear hH
        refine U_one (i := 9) (by kernel_rfl) rfl (fun K hK => ?_)
        go_simp
        (with_reducible refine (l8_part _ HTB.out (by omega) (by omega) (by decide) (by decide)).mono ?_)
        rintro e w35 ⟨_, rfl, h30, hb⟩
        obtain ⟨sh30, ah30, nh30, ch30, Ah30, Nh30, Ch30, rfl⟩ := h30.shape
        replace hs := bStep hs hb
        replace Blshare := Blshare.mono hb
        replace Blhigher := Blhigher.mono hb
        replace Bla := Bla.mono hb
        replace Blb := Blb.mono hb
        replace Blx := Blx.mono hb
        replace Bly := Bly.mono hb
        replace Blz := Blz.mono hb
        replace Blw := Blw.mono hb
        replace Blo := Blo.mono hb
        replace Bllow := Bllow.mono hb
        replace Bltop := Bltop.mono hb
        replace h1 := h1.mono hb
        replace h2 := h2.mono hb
        replace h3 := h3.mono hb
        replace h4 := h4.mono hb
        replace h5 := h5.mono hb
        replace h6 := h6.mono hb
        replace h9 := h9.mono hb
        replace h16 := h16.mono hb
        replace h17 := h17.mono hb
        replace h20 := h20.mono hb
        replace h21 := h21.mono hb
        replace h22 := h22.mono hb
        replace h23 := h23.mono hb
        replace h27 := h27.mono hb
        replace h28 := h28.mono hb
        replace h29 := h29.mono hb
        replace ctop_0 := cellK ctop_0 hb
        replace ctop_1 := cellK ctop_1 hb
        clear hb
        try go_wp2_with fail
        refine hK.out _ _ ⟨ctop_0, ctop_1⟩ (fun hH => ?_)
        clear hK K
        try simp only [LY]
        clear hH
        refine U_one (i := 10) (by kernel_rfl) rfl (fun K hK => ?_)
        go_simp
        (with_reducible refine (al_Coupons_e (n := kk) _ (by first | exact HKK.out | (rw [Int.tmod_eq_emod_of_nonneg (by omega), IntWalk.i64_in (k % 3) (by omega), IntWalk.i64_in (1 + k % 3) (by omega)]; exact HKK.out)) h29 sta_ CTA.out h30 stb_ CTB.out (by omega) (by omega) HD2.out HG2.out).mono ?_)
        rintro e w36 ⟨rfl, hb⟩
        replace hs := bStep hs hb
        replace Blshare := Blshare.mono hb
        replace Blhigher := Blhigher.mono hb
        replace Bla := Bla.mono hb
        replace Blb := Blb.mono hb
        replace Blx := Blx.mono hb
        replace Bly := Bly.mono hb
        replace Blz := Blz.mono hb
        replace Blw := Blw.mono hb
        replace Blo := Blo.mono hb
        replace Bllow := Bllow.mono hb
        replace Bltop := Bltop.mono hb
        replace h1 := h1.mono hb
        replace h2 := h2.mono hb
        replace h3 := h3.mono hb
        replace h4 := h4.mono hb
        replace h5 := h5.mono hb
        replace h6 := h6.mono hb
        replace h9 := h9.mono hb
        replace h16 := h16.mono hb
        replace h17 := h17.mono hb
        replace h20 := h20.mono hb
        replace h21 := h21.mono hb
        replace h22 := h22.mono hb
        replace h23 := h23.mono hb
        replace h27 := h27.mono hb
        replace h28 := h28.mono hb
        replace h29 := h29.mono hb
        replace h30 := h30.mono hb
        replace ctop_0 := cellK ctop_0 hb
        replace ctop_1 := cellK ctop_1 hb
        clear hb
        try go_wp2_with fail
        refine hK.out _ _ ⟨ctop_0, ctop_1⟩ (fun hH => ?_)
        clear hK K
        try simp only [LY]
        refine U_takeN (i := 11) (d := 222) (v := ?_) rfl rfl rfl (by kernel_rfl) (by kernel_rfl) (by kernel_rfl) (fun _ _ _ h => h) (Or.inl ⟨by rfl, ?_⟩) hH ?_
        rotate_left
        · intro w hSw
          try dsimp only at hSw
          go_simp
          try with_reducible rfl
        simp only [LY]
        refine U_takeN (i := 12) (d := 234) (v := ?_) rfl rfl rfl (by kernel_rfl) (by kernel_rfl) (by kernel_rfl) (fun _ _ _ h => h) (Or.inl ⟨by rfl, ?_⟩) hH ?_
        rotate_left
        · intro w hSw
          try dsimp only at hSw
          go_simp
          try with_reducible rfl
        simp only [LY]
        refine U_takeN (i := 13) (d := 235) (v := ?_) rfl rfl rfl (by kernel_rfl) (by kernel_rfl) (by kernel_rfl) (fun _ _ _ h => h) (Or.inl ⟨by rfl, ?_⟩) hH ?_
        rotate_left
        · intro w hSw
          try dsimp only at hSw
          go_simp
          try with_reducible rfl
        simp only [LY]
        refine U_takeN (i := 14) (d := 32) (v := ?_) rfl rfl rfl (by kernel_rfl) (by kernel_rfl) (by kernel_rfl) (fun _ _ _ h => h) (Or.inl ⟨by rfl, ?_⟩) hH ?_
        rotate_left
        · intro w hSw
          try dsimp only at hSw
          go_simp
          try with_reducible rfl
        simp only [LY]
        refine U_takeN (i := 15) (d := 24) (v := ?_) rfl rfl rfl (by kernel_rfl) (by kernel_rfl) (by kernel_rfl) (fun _ _ _ h => h) (Or.inl ⟨by rfl, ?_⟩) hH ?_
        rotate_left
        · intro w hSw
          try dsimp only at hSw
          go_simp
          try with_reducible rfl
        simp only [LY]
        clear hH
        refine U_endN (by kernel_rfl) ?_
        clear ctop_0 ctop_1
        by_cases q31 : g2 = 0
        · have q31b : (g2 == 0) = true := beq_iff_eq.2 (by omega)
          have q31n : (g2 != 0) = false := bne_eq_false_iff_eq.2 (by omega)
          have q31H := Lib.hid q31
          clear q31
          have q32 : g = 0 := (HRK.out.2.2 q31H.out).1
          have q32b : (g == 0) = true := beq_iff_eq.2 (by omega)
          have q32n : (g != 0) = false := bne_eq_false_iff_eq.2 (by omega)
          have q32H := Lib.hid q32
          clear q32
          have q33 : d ≤ d2 := (HRK.out.2.2 q31H.out).2
          have q33d : (d ≤ d2) = True := eq_true (by omega)
          go_wp2
          go_ret
          exact ⟨rfl, hs⟩
        · have q31b : (g2 == 0) = false := beq_eq_false_iff_ne.2 (by omega)
          have q31n : (g2 != 0) = true := bne_iff_ne.2 (by omega)
          have q31H := Lib.hid q31
          clear q31
          go_wp2
          go_ret
          exact ⟨rfl, hs⟩
      · have q25b : (e == 0) = false := beq_eq_false_iff_ne.2 (by omega)
        have q25n : (e != 0) = true := bne_iff_ne.2 (by omega)
        have q25H := Lib.hid q25
        clear q25
        go_upto_region 18 with fail
        refine U_region (S := fun w' => w'.cell? ⟨w19.heap.size, 0, none⟩ = some (.int .i64 (s0 % 9)) ∧ w'.cell? ⟨w19.heap.size, 1, none⟩ = some (.int .i64 (s1 % 9))) (by kernel_rfl) 16 ?_
        refine AnyU.abs ?_
        intro w29 hW
        have hb : Below w28.heap.size w28 w29 := by rw [hW]; exact bDrew _
        replace hs := bStep hs hb
        replace Blshare := Blshare.mono hb
        replace Blhigher := Blhigher.mono hb
        replace Bla := Bla.mono hb
        replace Blb := Blb.mono hb
        replace Blx := Blx.mono hb
        replace Bly := Bly.mono hb
        replace Blz := Blz.mono hb
        replace Blw := Blw.mono hb
        replace Blo := Blo.mono hb
        replace Bllow := Bllow.mono hb
        replace Bltop := Bltop.mono hb
        replace h1 := h1.mono hb
        replace h2 := h2.mono hb
        replace h3 := h3.mono hb
        replace h4 := h4.mono hb
        replace h5 := h5.mono hb
        replace h6 := h6.mono hb
        replace h9 := h9.mono hb
        replace h16 := h16.mono hb
        replace h17 := h17.mono hb
        replace h20 := h20.mono hb
        replace h21 := h21.mono hb
        replace h22 := h22.mono hb
        replace h23 := h23.mono hb
        clear hb hW
        have clow_0 : w29.cell? ⟨w19.heap.size, 0, none⟩ = some (.int .i64 (s0 % 9)) := Bllow.at 0 rfl
        have clow_1 : w29.cell? ⟨w19.heap.size, 1, none⟩ = some (.int .i64 (s1 % 9)) := Bllow.at 1 rfl
        have hH := (show w29.cell? ⟨w19.heap.size, 0, none⟩ = some (.int .i64 (s0 % 9)) ∧ w29.cell? ⟨w19.heap.size, 1, none⟩ = some (.int .i64 (s1 % 9)) from ⟨clow_0, clow_1⟩)
        refine U_takeN (i := 0) (d := 209) (v := ?_) rfl rfl rfl (by kernel_rfl) (by kernel_rfl) (by kernel_rfl) (fun _ _ _ h => h) (Or.inl ⟨by rfl, ?_⟩) hH ?_
        rotate_left
        · intro w hSw
          try dsimp only at hSw
          go_simp
          try with_reducible rfl
        simp only [LY]
        refine U_takeN (i := 1) (d := 210) (v := ?_) rfl rfl rfl (by kernel_rfl) (by kernel_rfl) (by kernel_rfl) (fun _ _ _ h => h) (Or.inl ⟨by rfl, ?_⟩) hH ?_
        rotate_left
        · intro w hSw
          try dsimp only at hSw
          go_simp
          try with_reducible rfl
        simp only [LY]
        refine U_takeN (i := 2) (d := 211) (v := ?_) rfl rfl rfl (by kernel_rfl) (by kernel_rfl) (by kernel_rfl) (fun _ _ _ h => h) (Or.inl ⟨by rfl, ?_⟩) hH ?_
        rotate_left
        · intro w hSw
          try dsimp only at hSw
          go_simp
          try with_reducible rfl
        simp only [LY]
        refine U_takeN (i := 3) (d := 212) (v := ?_) rfl rfl rfl (by kernel_rfl) (by kernel_rfl) (by kernel_rfl) (fun _ _ _ h => h) (Or.inl ⟨by rfl, ?_⟩) hH ?_
        rotate_left
        · intro w hSw
          try dsimp only at hSw
          go_simp
          try with_reducible rfl
        simp only [LY]
        refine U_takeN (i := 4) (d := 213) (v := ?_) rfl rfl rfl (by kernel_rfl) (by kernel_rfl) (by kernel_rfl) (fun _ _ _ h => h) (Or.inl ⟨by rfl, ?_⟩) hH ?_
        rotate_left
        · intro w hSw
          try dsimp only at hSw
          go_simp
          try with_reducible rfl
        simp only [LY]
        refine U_takeN (i := 5) (d := 214) (v := ?_) rfl rfl rfl (by kernel_rfl) (by kernel_rfl) (by kernel_rfl) (fun _ _ _ h => h) (Or.inl ⟨by rfl, ?_⟩) hH ?_
        rotate_left
        · intro w hSw
          try dsimp only at hSw
          go_simp
          try with_reducible rfl
        simp only [LY]
        refine U_takeN (i := 7) (d := 216) (v := ?_) rfl rfl rfl (by kernel_rfl) (by kernel_rfl) (by kernel_rfl) (fun _ _ _ h => h) (Or.inl ⟨by rfl, ?_⟩) hH ?_
        rotate_left
        · intro w hSw
          try dsimp only at hSw
          go_simp
          try with_reducible rfl
        simp only [LY]
        refine U_takeN (i := 8) (d := 217) (v := ?_) rfl rfl rfl (by kernel_rfl) (by kernel_rfl) (by kernel_rfl) (fun _ _ _ h => h) (Or.inl ⟨by rfl, ?_⟩) hH ?_
        rotate_left
        · intro w hSw
          try dsimp only at hSw
          go_simp
          try with_reducible rfl
        simp only [LY]
        clear hH
        refine U_one (i := 6) (by kernel_rfl) rfl (fun K hK => ?_)
        go_simp
        (with_reducible refine (l8_part _ HLA.out (by omega) (by omega) (by decide) (by decide)).mono ?_)
        rintro e w30 ⟨_, rfl, h26, hb⟩
        obtain ⟨sh26, ah26, nh26, ch26, Ah26, Nh26, Ch26, rfl⟩ := h26.shape
        replace hs := bStep hs hb
        replace Blshare := Blshare.mono hb
        replace Blhigher := Blhigher.mono hb
        replace Bla := Bla.mono hb
        replace Blb := Blb.mono hb
        replace Blx := Blx.mono hb
        replace Bly := Bly.mono hb
        replace Blz := Blz.mono hb
        replace Blw := Blw.mono hb
        replace Blo := Blo.mono hb
        replace Bllow := Bllow.mono hb
        replace Bltop := Bltop.mono hb
        replace h1 := h1.mono hb
        replace h2 := h2.mono hb
        replace h3 := h3.mono hb
        replace h4 := h4.mono hb
        replace h5 := h5.mono hb
        replace h6 := h6.mono hb
        replace h9 := h9.mono hb
        replace h16 := h16.mono hb
        replace h17 := h17.mono hb
        replace h20 := h20.mono hb
        replace h21 := h21.mono hb
        replace h22 := h22.mono hb
        replace h23 := h23.mono hb
        replace clow_0 := cellK clow_0 hb
        replace clow_1 := cellK clow_1 hb
        clear hb
        try go_wp2_with fail
        refine hK.out _ _ ⟨clow_0, clow_1⟩ (fun hH => ?_)
        clear hK K
        try simp only [LY]
        clear hH
        refine U_one (i := 9) (by kernel_rfl) rfl (fun K hK => ?_)
        go_simp
        (with_reducible refine (l8_part _ HLB.out (by omega) (by omega) (by decide) (by decide)).mono ?_)
        rintro e w31 ⟨_, rfl, h27, hb⟩
        obtain ⟨sh27, ah27, nh27, ch27, Ah27, Nh27, Ch27, rfl⟩ := h27.shape
        replace hs := bStep hs hb
        replace Blshare := Blshare.mono hb
        replace Blhigher := Blhigher.mono hb
        replace Bla := Bla.mono hb
        replace Blb := Blb.mono hb
        replace Blx := Blx.mono hb
        replace Bly := Bly.mono hb
        replace Blz := Blz.mono hb
        replace Blw := Blw.mono hb
        replace Blo := Blo.mono hb
        replace Bllow := Bllow.mono hb
        replace Bltop := Bltop.mono hb
        replace h1 := h1.mono hb
        replace h2 := h2.mono hb
        replace h3 := h3.mono hb
        replace h4 := h4.mono hb
        replace h5 := h5.mono hb
        replace h6 := h6.mono hb
        replace h9 := h9.mono hb
        replace h16 := h16.mono hb
        replace h17 := h17.mono hb
        replace h20 := h20.mono hb
        replace h21 := h21.mono hb
        replace h22 := h22.mono hb
        replace h23 := h23.mono hb
        replace h26 := h26.mono hb
        replace clow_0 := cellK clow_0 hb
        replace clow_1 := cellK clow_1 hb
        clear hb
        try go_wp2_with fail
        refine hK.out _ _ ⟨clow_0, clow_1⟩ (fun hH => ?_)
        clear hK K
        try simp only [LY]
        clear hH
        refine U_one (i := 10) (by kernel_rfl) rfl (fun K hK => ?_)
        go_simp
        (with_reducible refine (al_Coupons_e (n := kk) _ (by first | exact HKK.out | (rw [Int.tmod_eq_emod_of_nonneg (by omega), IntWalk.i64_in (k % 3) (by omega), IntWalk.i64_in (1 + k % 3) (by omega)]; exact HKK.out)) h26 sla_ CLA.out h27 slb_ CLB.out (by omega) (by omega) HD.out HG.out).mono ?_)
        rintro e w32 ⟨rfl, hb⟩
        replace hs := bStep hs hb
        replace Blshare := Blshare.mono hb
        replace Blhigher := Blhigher.mono hb
        replace Bla := Bla.mono hb
        replace Blb := Blb.mono hb
        replace Blx := Blx.mono hb
        replace Bly := Bly.mono hb
        replace Blz := Blz.mono hb
        replace Blw := Blw.mono hb
        replace Blo := Blo.mono hb
        replace Bllow := Bllow.mono hb
        replace Bltop := Bltop.mono hb
        replace h1 := h1.mono hb
        replace h2 := h2.mono hb
        replace h3 := h3.mono hb
        replace h4 := h4.mono hb
        replace h5 := h5.mono hb
        replace h6 := h6.mono hb
        replace h9 := h9.mono hb
        replace h16 := h16.mono hb
        replace h17 := h17.mono hb
        replace h20 := h20.mono hb
        replace h21 := h21.mono hb
        replace h22 := h22.mono hb
        replace h23 := h23.mono hb
        replace h26 := h26.mono hb
        replace h27 := h27.mono hb
        replace clow_0 := cellK clow_0 hb
        replace clow_1 := cellK clow_1 hb
        clear hb
        try go_wp2_with fail
        refine hK.out _ _ ⟨clow_0, clow_1⟩ (fun hH => ?_)
        clear hK K
        try simp only [LY]
        refine U_takeN (i := 11) (d := 208) (v := ?_) rfl rfl rfl (by kernel_rfl) (by kernel_rfl) (by kernel_rfl) (fun _ _ _ h => h) (Or.inl ⟨by rfl, ?_⟩) hH ?_
        rotate_left
        · intro w hSw
          try dsimp only at hSw
          go_simp
          try with_reducible rfl
        simp only [LY]
        refine U_takeN (i := 12) (d := 220) (v := ?_) rfl rfl rfl (by kernel_rfl) (by kernel_rfl) (by kernel_rfl) (fun _ _ _ h => h) (Or.inl ⟨by rfl, ?_⟩) hH ?_
        rotate_left
        · intro w hSw
          try dsimp only at hSw
          go_simp
          try with_reducible rfl
        simp only [LY]
        refine U_takeN (i := 13) (d := 221) (v := ?_) rfl rfl rfl (by kernel_rfl) (by kernel_rfl) (by kernel_rfl) (fun _ _ _ h => h) (Or.inl ⟨by rfl, ?_⟩) hH ?_
        rotate_left
        · intro w hSw
          try dsimp only at hSw
          go_simp
          try with_reducible rfl
        simp only [LY]
        refine U_takeN (i := 14) (d := 31) (v := ?_) rfl rfl rfl (by kernel_rfl) (by kernel_rfl) (by kernel_rfl) (fun _ _ _ h => h) (Or.inl ⟨by rfl, ?_⟩) hH ?_
        rotate_left
        · intro w hSw
          try dsimp only at hSw
          go_simp
          try with_reducible rfl
        simp only [LY]
        refine U_takeN (i := 15) (d := 22) (v := ?_) rfl rfl rfl (by kernel_rfl) (by kernel_rfl) (by kernel_rfl) (fun _ _ _ h => h) (Or.inl ⟨by rfl, ?_⟩) hH ?_
        rotate_left
        · intro w hSw
          try dsimp only at hSw
          go_simp
          try with_reducible rfl
        simp only [LY]
        clear hH
        refine U_endN (by kernel_rfl) ?_
        clear clow_0 clow_1
        go_upto_region 19 with fail
        refine U_region (S := fun w' => w'.cell? ⟨w19.heap.size + 1, 0, none⟩ = some (.int .i64 (min (s0 % 9 + t0 % 4) 8)) ∧ w'.cell? ⟨w19.heap.size + 1, 1, none⟩ = some (.int .i64 (min (s1 % 9 + t1 % 4) 8))) (by kernel_rfl) 16 ?_
        refine AnyU.abs ?_
        intro w33 hW
        have hb : Below w32.heap.size w32 w33 := by rw [hW]; exact bDrew _
        replace hs := bStep hs hb
        replace Blshare := Blshare.mono hb
        replace Blhigher := Blhigher.mono hb
        replace Bla := Bla.mono hb
        replace Blb := Blb.mono hb
        replace Blx := Blx.mono hb
        replace Bly := Bly.mono hb
        replace Blz := Blz.mono hb
        replace Blw := Blw.mono hb
        replace Blo := Blo.mono hb
        replace Bllow := Bllow.mono hb
        replace Bltop := Bltop.mono hb
        replace h1 := h1.mono hb
        replace h2 := h2.mono hb
        replace h3 := h3.mono hb
        replace h4 := h4.mono hb
        replace h5 := h5.mono hb
        replace h6 := h6.mono hb
        replace h9 := h9.mono hb
        replace h16 := h16.mono hb
        replace h17 := h17.mono hb
        replace h20 := h20.mono hb
        replace h21 := h21.mono hb
        replace h22 := h22.mono hb
        replace h23 := h23.mono hb
        replace h26 := h26.mono hb
        replace h27 := h27.mono hb
        clear hb hW
        have ctop_0 : w33.cell? ⟨w19.heap.size + 1, 0, none⟩ = some (.int .i64 (min (s0 % 9 + t0 % 4) 8)) := Bltop.at 0 rfl
        have ctop_1 : w33.cell? ⟨w19.heap.size + 1, 1, none⟩ = some (.int .i64 (min (s1 % 9 + t1 % 4) 8)) := Bltop.at 1 rfl
        have hH := (show w33.cell? ⟨w19.heap.size + 1, 0, none⟩ = some (.int .i64 (min (s0 % 9 + t0 % 4) 8)) ∧ w33.cell? ⟨w19.heap.size + 1, 1, none⟩ = some (.int .i64 (min (s1 % 9 + t1 % 4) 8)) from ⟨ctop_0, ctop_1⟩)
        refine U_takeN (i := 0) (d := 223) (v := ?_) rfl rfl rfl (by kernel_rfl) (by kernel_rfl) (by kernel_rfl) (fun _ _ _ h => h) (Or.inl ⟨by rfl, ?_⟩) hH ?_
        rotate_left
        · intro w hSw
          try dsimp only at hSw
          go_simp
          try with_reducible rfl
        simp only [LY]
        refine U_takeN (i := 1) (d := 224) (v := ?_) rfl rfl rfl (by kernel_rfl) (by kernel_rfl) (by kernel_rfl) (fun _ _ _ h => h) (Or.inl ⟨by rfl, ?_⟩) hH ?_
        rotate_left
        · intro w hSw
          try dsimp only at hSw
          go_simp
          try with_reducible rfl
        simp only [LY]
        refine U_takeN (i := 2) (d := 225) (v := ?_) rfl rfl rfl (by kernel_rfl) (by kernel_rfl) (by kernel_rfl) (fun _ _ _ h => h) (Or.inl ⟨by rfl, ?_⟩) hH ?_
        rotate_left
        · intro w hSw
          try dsimp only at hSw
          go_simp
          try with_reducible rfl
        simp only [LY]
        refine U_takeN (i := 3) (d := 226) (v := ?_) rfl rfl rfl (by kernel_rfl) (by kernel_rfl) (by kernel_rfl) (fun _ _ _ h => h) (Or.inl ⟨by rfl, ?_⟩) hH ?_
        rotate_left
        · intro w hSw
          try dsimp only at hSw
          go_simp
          try with_reducible rfl
        simp only [LY]
        refine U_takeN (i := 4) (d := 227) (v := ?_) rfl rfl rfl (by kernel_rfl) (by kernel_rfl) (by kernel_rfl) (fun _ _ _ h => h) (Or.inl ⟨by rfl, ?_⟩) hH ?_
        rotate_left
        · intro w hSw
          try dsimp only at hSw
          go_simp
          try with_reducible rfl
        simp only [LY]
        refine U_takeN (i := 5) (d := 228) (v := ?_) rfl rfl rfl (by kernel_rfl) (by kernel_rfl) (by kernel_rfl) (fun _ _ _ h => h) (Or.inl ⟨by rfl, ?_⟩) hH ?_
        rotate_left
        · intro w hSw
          try dsimp only at hSw
          go_simp
          try with_reducible rfl
        simp only [LY]
        refine U_takeN (i := 7) (d := 230) (v := ?_) rfl rfl rfl (by kernel_rfl) (by kernel_rfl) (by kernel_rfl) (fun _ _ _ h => h) (Or.inl ⟨by rfl, ?_⟩) hH ?_
        rotate_left
        · intro w hSw
          try dsimp only at hSw
          go_simp
          try with_reducible rfl
        simp only [LY]
        refine U_takeN (i := 8) (d := 231) (v := ?_) rfl rfl rfl (by kernel_rfl) (by kernel_rfl) (by kernel_rfl) (fun _ _ _ h => h) (Or.inl ⟨by rfl, ?_⟩) hH ?_
        rotate_left
        · intro w hSw
          try dsimp only at hSw
          go_simp
          try with_reducible rfl
        simp only [LY]
        clear hH
        refine U_one (i := 6) (by kernel_rfl) rfl (fun K hK => ?_)
        go_simp
        (with_reducible refine (l8_part _ HTA.out (by omega) (by omega) (by decide) (by decide)).mono ?_)
        rintro e w34 ⟨_, rfl, h28, hb⟩
        obtain ⟨sh28, ah28, nh28, ch28, Ah28, Nh28, Ch28, rfl⟩ := h28.shape
        replace hs := bStep hs hb
        replace Blshare := Blshare.mono hb
        replace Blhigher := Blhigher.mono hb
        replace Bla := Bla.mono hb
        replace Blb := Blb.mono hb
        replace Blx := Blx.mono hb
        replace Bly := Bly.mono hb
        replace Blz := Blz.mono hb
        replace Blw := Blw.mono hb
        replace Blo := Blo.mono hb
        replace Bllow := Bllow.mono hb
        replace Bltop := Bltop.mono hb
        replace h1 := h1.mono hb
        replace h2 := h2.mono hb
        replace h3 := h3.mono hb
        replace h4 := h4.mono hb
        replace h5 := h5.mono hb
        replace h6 := h6.mono hb
        replace h9 := h9.mono hb
        replace h16 := h16.mono hb
        replace h17 := h17.mono hb
        replace h20 := h20.mono hb
        replace h21 := h21.mono hb
        replace h22 := h22.mono hb
        replace h23 := h23.mono hb
        replace h26 := h26.mono hb
        replace h27 := h27.mono hb
        replace ctop_0 := cellK ctop_0 hb
        replace ctop_1 := cellK ctop_1 hb
        clear hb
        try go_wp2_with fail
        refine hK.out _ _ ⟨ctop_0, ctop_1⟩ (fun hH => ?_)
        clear hK K
        try simp only [LY]
        clear hH
        refine U_one (i := 9) (by kernel_rfl) rfl (fun K hK => ?_)
        go_simp
        (with_reducible refine (l8_part _ HTB.out (by omega) (by omega) (by decide) (by decide)).mono ?_)
        rintro e w35 ⟨_, rfl, h29, hb⟩
        obtain ⟨sh29, ah29, nh29, ch29, Ah29, Nh29, Ch29, rfl⟩ := h29.shape
        replace hs := bStep hs hb
        replace Blshare := Blshare.mono hb
        replace Blhigher := Blhigher.mono hb
        replace Bla := Bla.mono hb
        replace Blb := Blb.mono hb
        replace Blx := Blx.mono hb
        replace Bly := Bly.mono hb
        replace Blz := Blz.mono hb
        replace Blw := Blw.mono hb
        replace Blo := Blo.mono hb
        replace Bllow := Bllow.mono hb
        replace Bltop := Bltop.mono hb
        replace h1 := h1.mono hb
        replace h2 := h2.mono hb
        replace h3 := h3.mono hb
        replace h4 := h4.mono hb
        replace h5 := h5.mono hb
        replace h6 := h6.mono hb
        replace h9 := h9.mono hb
        replace h16 := h16.mono hb
        replace h17 := h17.mono hb
        replace h20 := h20.mono hb
        replace h21 := h21.mono hb
        replace h22 := h22.mono hb
        replace h23 := h23.mono hb
        replace h26 := h26.mono hb
        replace h27 := h27.mono hb
        replace h28 := h28.mono hb
        replace ctop_0 := cellK ctop_0 hb
        replace ctop_1 := cellK ctop_1 hb
        clear hb
        try go_wp2_with fail
        refine hK.out _ _ ⟨ctop_0, ctop_1⟩ (fun hH => ?_)
        clear hK K
        try simp only [LY]
        clear hH
        refine U_one (i := 10) (by kernel_rfl) rfl (fun K hK => ?_)
        go_simp
        (with_reducible refine (al_Coupons_e (n := kk) _ (by first | exact HKK.out | (rw [Int.tmod_eq_emod_of_nonneg (by omega), IntWalk.i64_in (k % 3) (by omega), IntWalk.i64_in (1 + k % 3) (by omega)]; exact HKK.out)) h28 sta_ CTA.out h29 stb_ CTB.out (by omega) (by omega) HD2.out HG2.out).mono ?_)
        rintro e w36 ⟨rfl, hb⟩
        replace hs := bStep hs hb
        replace Blshare := Blshare.mono hb
        replace Blhigher := Blhigher.mono hb
        replace Bla := Bla.mono hb
        replace Blb := Blb.mono hb
        replace Blx := Blx.mono hb
        replace Bly := Bly.mono hb
        replace Blz := Blz.mono hb
        replace Blw := Blw.mono hb
        replace Blo := Blo.mono hb
        replace Bllow := Bllow.mono hb
        replace Bltop := Bltop.mono hb
        replace h1 := h1.mono hb
        replace h2 := h2.mono hb
        replace h3 := h3.mono hb
        replace h4 := h4.mono hb
        replace h5 := h5.mono hb
        replace h6 := h6.mono hb
        replace h9 := h9.mono hb
        replace h16 := h16.mono hb
        replace h17 := h17.mono hb
        replace h20 := h20.mono hb
        replace h21 := h21.mono hb
        replace h22 := h22.mono hb
        replace h23 := h23.mono hb
        replace h26 := h26.mono hb
        replace h27 := h27.mono hb
        replace h28 := h28.mono hb
        replace h29 := h29.mono hb
        replace ctop_0 := cellK ctop_0 hb
        replace ctop_1 := cellK ctop_1 hb
        clear hb
        try go_wp2_with fail
        refine hK.out _ _ ⟨ctop_0, ctop_1⟩ (fun hH => ?_)
        clear hK K
        try simp only [LY]
        refine U_takeN (i := 11) (d := 222) (v := ?_) rfl rfl rfl (by kernel_rfl) (by kernel_rfl) (by kernel_rfl) (fun _ _ _ h => h) (Or.inl ⟨by rfl, ?_⟩) hH ?_
        rotate_left
        · intro w hSw
          try dsimp only at hSw
          go_simp
          try with_reducible rfl
        simp only [LY]
        refine U_takeN (i := 12) (d := 234) (v := ?_) rfl rfl rfl (by kernel_rfl) (by kernel_rfl) (by kernel_rfl) (fun _ _ _ h => h) (Or.inl ⟨by rfl, ?_⟩) hH ?_
        rotate_left
        · intro w hSw
          try dsimp only at hSw
          go_simp
          try with_reducible rfl
        simp only [LY]
        refine U_takeN (i := 13) (d := 235) (v := ?_) rfl rfl rfl (by kernel_rfl) (by kernel_rfl) (by kernel_rfl) (fun _ _ _ h => h) (Or.inl ⟨by rfl, ?_⟩) hH ?_
        rotate_left
        · intro w hSw
          try dsimp only at hSw
          go_simp
          try with_reducible rfl
        simp only [LY]
        refine U_takeN (i := 14) (d := 32) (v := ?_) rfl rfl rfl (by kernel_rfl) (by kernel_rfl) (by kernel_rfl) (fun _ _ _ h => h) (Or.inl ⟨by rfl, ?_⟩) hH ?_
        rotate_left
        · intro w hSw
          try dsimp only at hSw
          go_simp
          try with_reducible rfl
        simp only [LY]
        refine U_takeN (i := 15) (d := 24) (v := ?_) rfl rfl rfl (by kernel_rfl) (by kernel_rfl) (by kernel_rfl) (fun _ _ _ h => h) (Or.inl ⟨by rfl, ?_⟩) hH ?_
        rotate_left
        · intro w hSw
          try dsimp only at hSw
          go_simp
          try with_reducible rfl
        simp only [LY]
        clear hH
        refine U_endN (by kernel_rfl) ?_
        clear ctop_0 ctop_1
        by_cases q30 : g2 = 0
        · have q30b : (g2 == 0) = true := beq_iff_eq.2 (by omega)
          have q30n : (g2 != 0) = false := bne_eq_false_iff_eq.2 (by omega)
          have q30H := Lib.hid q30
          clear q30
          have q31 : g = 0 := (HRK.out.2.2 q30H.out).1
          have q31b : (g == 0) = true := beq_iff_eq.2 (by omega)
          have q31n : (g != 0) = false := bne_eq_false_iff_eq.2 (by omega)
          have q31H := Lib.hid q31
          clear q31
          have q32 : d ≤ d2 := (HRK.out.2.2 q30H.out).2
          have q32d : (d ≤ d2) = True := eq_true (by omega)
          go_wp2
          go_ret
          exact ⟨rfl, hs⟩
        · have q30b : (g2 == 0) = false := beq_eq_false_iff_ne.2 (by omega)
          have q30n : (g2 != 0) = true := bne_iff_ne.2 (by omega)
          have q30H := Lib.hid q30
          clear q30
          go_wp2
          go_ret
          exact ⟨rfl, hs⟩

theorem sums_le {mm : Nat} {k : Int} {a b x y z u o : Rat} (k0 : 0 ≤ k) (ca : 0 ≤ a) (hab : a ≤ b) (cb : b ≤ 1)
    (hx : tailQ mm k a = x) (hy : tailQ mm (k + 1) a = y) (hz : tailQ mm k b = z) (hu : tailQ (mm + 1) k a = u) (ho : tailQ mm ((mm : Int) - k + 1) (1 - a) = o) : ¬ x < y ∧ ¬ z < x ∧ ¬ u < x ∧ x + o = 1 := by
  subst hx hy hz hu ho
  obtain ⟨j, rfl⟩ : ∃ j : Nat, k = j := ⟨k.toNat, by omega⟩
  have ca1 : a ≤ 1 := Rat.le_trans hab cb
  rw [show ((j : Int) + 1) = ((j + 1 : Nat) : Int) by omega]
  simp only [tailQ_nat]
  refine ⟨Rat.not_lt.2 (tlQ_bd ca ca1 mm j).2.2, Rat.not_lt.2 (tlQ_mono ca hab cb mm j), Rat.not_lt.2 (tlQ_more ca ca1 mm j), ?_⟩
  by_cases h : j ≤ mm + 1
  · rw [show ((mm : Int) - j + 1) = ((mm + 1 - j : Nat) : Int) by omega, tailQ_nat]
    exact tails_one a mm j h
  · rw [tailQ_le (show ((mm : Int) - j + 1) ≤ 0 by omega), tlQ_far a mm j (by omega)]; grind
theorem rank_ok {p q c d : Rat} {n : Nat} (h0 : 0 ≤ q) (h1 : q ≤ p) (h2 : p ≤ 1) (hc : c ≤ d) {r e r2 e2 : Int} (hr : (rkF p n c n : Int) = r) (he : rkE (rkF p n c n) = e) (hr2 : (rkF q n d n : Int) = r2) (he2 : rkE (rkF q n d n) = e2) : (e2 = 0 → e = 0 ∧ ¬ r < r2) ∧ (e = 0 → ¬ r < 1) := by
  have a := rkF_mono h0 h1 h2 hc n n
  subst hr hr2 he he2
  unfold rkE
  refine ⟨fun h => ?_, fun h => ?_⟩
  · split at h
    · cases h
    · exact ⟨if_neg (by omega), by omega⟩
  · split at h
    · cases h
    · omega
theorem coup_ok {p q c d : Rat} {n : Nat} (hn : 0 < n) (h0 : 0 ≤ q) (h1 : q ≤ p) (h2 : p ≤ 1) (hc : c ≤ d) {r e r2 e2 : Int} (hr : (cpF p n c (65 - n) n : Int) = r) (he : cpE (cpF p n c (65 - n) n) = e) (hr2 : (cpF q n d (65 - n) n : Int) = r2) (he2 : cpE (cpF q n d (65 - n) n) = e2) : e2 = 0 → e = 0 ∧ r ≤ r2 := by
  have a := cpF_mono h0 h1 h2 hc n (65 - n) n hn
  subst hr hr2 he he2
  unfold cpE
  intro h
  split at h
  · cases h
  · rename_i h'
    have := a h'
    exact ⟨if_neg this.1, by omega⟩
theorem l8_AllowSums (n k p m s0 s1 t0 t1 : Int) (w : World) (bn : 0 ≤ n ∧ n ≤ 255) (bk : 0 ≤ k ∧ k ≤ 255) (bp : 0 ≤ p ∧ p ≤ 255) (bm : 0 ≤ m ∧ m ≤ 255) (bs0 : 0 ≤ s0 ∧ s0 ≤ 255) (bs1 : 0 ≤ s1 ∧ s1 ≤ 255) (bt0 : 0 ≤ t0 ∧ t0 ≤ 255) (bt1 : 0 ≤ t1 ∧ t1 ≤ 255) :
    Calls Try.prog 3 #[.int .u8 n, .int .u8 k, .int .u8 p, .int .u8 m, .agg #[.int .u8 s0, .int .u8 s1], .agg #[.int .u8 t0, .int .u8 t1]] w (RetV w (.bool true)) := by
  obtain ⟨mm, hmm⟩ : ∃ mm : Nat, 1 + n % 12 = (mm : Int) := ⟨(1 + n % 12).toNat, by omega⟩
  obtain ⟨kk, hkk⟩ : ∃ kk : Nat, 1 + k % 3 = (kk : Int) := ⟨(1 + k % 3).toNat, by omega⟩
  obtain ⟨a, ha⟩ : ∃ q : Rat, ((p % 17 : Int) : Rat) / ((16 : Int) : Rat) = q := ⟨_, rfl⟩
  have sa : SzQ 1 a := ha ▸ szQ_frac (by omega) (by decide) (by decide)
  have ca := div_bd ha (by omega) (by omega) (by decide)
  obtain ⟨b, hb⟩ : ∃ q : Rat, ((min (p % 17 + m % 5) 16 : Int) : Rat) / ((16 : Int) : Rat) = q := ⟨_, rfl⟩
  have sb : SzQ 1 b := hb ▸ szQ_frac (by omega) (by decide) (by decide)
  have cb := div_bd hb (by omega) (by omega) (by decide)
  obtain ⟨la, hla⟩ : ∃ q : Rat, ((s0 % 9 : Int) : Rat) / ((8 : Int) : Rat) = q := ⟨_, rfl⟩
  have sla : SzQ 1 la := hla ▸ szQ_frac (by omega) (by decide) (by decide)
  have cla := div_bd hla (by omega) (by omega) (by decide)
  obtain ⟨lb, hlb⟩ : ∃ q : Rat, ((s1 % 9 : Int) : Rat) / ((8 : Int) : Rat) = q := ⟨_, rfl⟩
  have slb : SzQ 1 lb := hlb ▸ szQ_frac (by omega) (by decide) (by decide)
  have clb := div_bd hlb (by omega) (by omega) (by decide)
  obtain ⟨ta, hta⟩ : ∃ q : Rat, ((min (s0 % 9 + t0 % 4) 8 : Int) : Rat) / ((8 : Int) : Rat) = q := ⟨_, rfl⟩
  have sta : SzQ 1 ta := hta ▸ szQ_frac (by omega) (by decide) (by decide)
  have cta := div_bd hta (by omega) (by omega) (by decide)
  obtain ⟨tb, htb⟩ : ∃ q : Rat, ((min (s1 % 9 + t1 % 4) 8 : Int) : Rat) / ((8 : Int) : Rat) = q := ⟨_, rfl⟩
  have stb : SzQ 1 tb := htb ▸ szQ_frac (by omega) (by decide) (by decide)
  have ctb := div_bd htb (by omega) (by omega) (by decide)
  have hab : a ≤ b := div_le ha hb (by omega) (by decide)
  have kla : la ≤ ta := div_le hla hta (by omega) (by decide)
  have klb : lb ≤ tb := div_le hlb htb (by omega) (by decide)
  have sca := less_sz ca.1 ca.2 sa
  have cca : 0 ≤ 1 - a ∧ 1 - a ≤ 1 := ⟨by have := ca.2; grind, by have := ca.1; grind⟩
  refine l8_Sums_walk n k p m s0 s1 t0 t1 w bn bk bp bm bs0 bs1 bt0 bt1 mm kk hmm (by omega) (by omega) hkk (by omega) (by omega) a ha sa ca b hb sb cb la hla sla cla lb hlb slb clb ta hta sta cta tb htb stb ctb
    sca cca _ rfl ((tail_sz ca.1 ca.2 sa _ _).mono (by omega)) _ rfl ((tail_sz ca.1 ca.2 sa _ _).mono (by omega)) _ rfl ((tail_sz cb.1 cb.2 sb _ _).mono (by omega)) _ rfl ((tail_sz ca.1 ca.2 sa _ _).mono (by omega)) _ rfl ((tail_sz cca.1 cca.2 sca _ _).mono (by omega)) (sums_le (by omega) ca.1 hab cb.2 rfl rfl rfl rfl (by rw [← hmm])) _ _ rfl rfl _ _ rfl rfl _ _ rfl rfl _ _ rfl rfl ?_
  have r := rank_ok (n := mm) (show 0 ≤ 1 - ta by have := cta.2; grind) (show 1 - ta ≤ 1 - la by grind) (show 1 - la ≤ 1 by have := cla.1; grind) klb rfl rfl rfl rfl
  have c := coup_ok (n := kk) (by omega) (show 0 ≤ 1 - ta by have := cta.2; grind) (show 1 - ta ≤ 1 - la by grind) (show 1 - la ≤ 1 by have := cla.1; grind) klb rfl rfl rfl rfl
  exact ⟨r.1, r.2, c⟩
end Go.Proofs.Ytmnipggjjcmjkaa
