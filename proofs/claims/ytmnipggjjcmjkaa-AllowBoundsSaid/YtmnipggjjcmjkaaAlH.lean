/-
  Law 08: AllowBounds.
-/
import Derived.Test.YtmnipggjjcmjkaaAlAw
import Derived.Test.YtmnipggjjcmjkaaAlG
set_option linter.unusedSimpArgs false
set_option linter.unusedVariables false
namespace Go.Proofs.Ytmnipggjjcmjkaa
open Go.RowKit Dg
attribute [local go_sem ↓] Go.wp_at_zero Go.wp_at_succ

/-- Both ends of the bound of a class. -/
def dLo (n f : Nat) (u : Rat) (s : Nat) : Rat := if f = 0 then 0 else if u = 0 then 1 else atQs s (detQ n f u s)
def dHi (n f : Nat) (u : Rat) (s : Nat) : Rat := if f = 0 then 0 else if u = 0 then 1 else atQs s (detQ n f u s + 1)
theorem al_Det_e {v : Value} {u : Rat} {n f : Nat} {ni fi k : Int} (w : World) (hn : ni = n) (hf : fi = f) (h1 : 1 ≤ n) (h2 : n ≤ 64) (h3 : f ≤ n) (hu : PV w v u) (su : SzQ 1 u) (u0 : 0 ≤ u) (u1 : u ≤ 1) (hk : k ≤ 20) {S : Nat} (hS : (2 : Int) ^ (min (max k 0) 20).toNat = (S : Int)) (hS0 : 0 < S) (hS1 : S ≤ 2000000) {x y : Rat} (hx : dLo n f u S = x) (hy : dHi n f u S = y) :
    Calls Try.prog 23 #[.agg #[.int .i64 ni, .int .i64 fi], v, .int .i64 k] w (Ret2 (fun w v => PV2 w v x y) (fun _ v => v = .int .i64 0) w) := by
  subst hn hf hx hy
  by_cases a : f = 0
  · unfold dLo dHi
    rw [if_pos a, if_pos a]
    exact al_Det_nil k w h1 h2 h3 hu su u0 u1 a
  · by_cases b : u = 0
    · unfold dLo dHi
      rw [if_neg a, if_neg a, if_pos b, if_pos b]
      exact al_Det_sure k w h1 h2 h3 hu su u0 u1 a b
    · unfold dLo dHi
      rw [if_neg a, if_neg a, if_neg b, if_neg b]
      exact al_Det_ok k w h1 h2 h3 hu su u0 u1 a b hk hS hS0 hS1 rfl
theorem d_sz {n f s : Nat} {u : Rat} (hs : 0 < s) (h2 : s ≤ 2000000) : (SzQ 1 (dLo n f u s) ∧ SzQ 1 (dHi n f u s)) ∧ (0 ≤ dLo n f u s ∧ dLo n f u s ≤ 1) ∧ (0 ≤ dHi n f u s ∧ dHi n f u s ≤ 1) := by
  have a := det_lt (n := n) (f := f) (c := u) hs
  unfold dLo dHi
  split
  · exact ⟨⟨szQ_zero, szQ_zero⟩, by decide +kernel, by decide +kernel⟩
  · split
    · exact ⟨⟨szQ_one, szQ_one⟩, by decide +kernel, by decide +kernel⟩
    · exact ⟨⟨atQs_sz hs (by omega) h2, atQs_sz hs (by omega) h2⟩, atQs_bd hs (by omega), atQs_bd hs (by omega)⟩
theorem bounds_ok {n f g s : Nat} {u xl xh yl : Rat} (hs : 0 < s) (hfg : f ≤ g) (hg : g ≤ n) (u0 : 0 ≤ u) (u1 : u ≤ 1) (hxl : dLo n f u s = xl) (hxh : dHi n f u s = xh) (hyl : dLo n g u s = yl) :
    (¬ yl < xl) ∧ (xh - xl = 0 → f = 0 → xl = 0) ∧ (xh - xl = 0 → ¬ f = 0 → u = 0 ∧ xl = 1) ∧ (¬ xh - xl = 0 → tlQ xl n f ≤ 1 - u ∧ 1 - u < tlQ xh n f) := by
  subst hxl hxh hyl
  by_cases a : f = 0
  · unfold dLo dHi
    rw [if_pos a, if_pos a]
    refine ⟨Rat.not_lt.2 ?_, fun _ _ => rfl, fun _ h => absurd a h, fun h => absurd (by grind) h⟩
    exact ((d_sz (n := n) (f := g) (u := u) (s := 1) (by decide) (by decide)).2.1.1 |> fun _ => by
      split
      · exact Rat.le_refl
      · split
        · decide +kernel
        · exact (atQs_bd hs (Nat.le_of_lt (det_lt hs))).1)
  · have b : ¬ g = 0 := by omega
    by_cases c : u = 0
    · unfold dLo dHi
      rw [if_neg a, if_neg a, if_neg b, if_pos c, if_pos c, if_pos c]
      exact ⟨Rat.not_lt.2 Rat.le_refl, fun _ h => absurd h a, fun _ _ => ⟨c, rfl⟩, fun h => absurd (by grind) h⟩
    · unfold dLo dHi
      rw [if_neg a, if_neg a, if_neg b, if_neg c, if_neg c, if_neg c]
      have l := atQs_lt (i := detQ n f u s) hs
      refine ⟨Rat.not_lt.2 (atQs_mono hs (det_mono hs (by omega) hfg u1)), fun h => absurd h (by grind), fun h => absurd h (by grind), fun _ => ⟨det_lo hs (by omega) u1, det_hi hs (by omega) (by grind)⟩⟩
theorem al_Tail_e2 {v : Value} {p : Rat} {n f : Nat} {ni k : Int} (w : World) (hn : ni = n) (hk : k = f) (hp : PV w v p) (sp : SzQ 1 p) (h0 : 0 ≤ p) (h1 : p ≤ 1) (h64 : n ≤ 64) {q : Rat} (hq : tlQ p n f = q) : Calls Try.prog 9 #[.int .i64 ni, .int .i64 k, v] w (RetPE w q 0) := by
  subst hn hk
  exact al_Tail_ok w hp sp h0 h1 h64 ((tailQ_nat n f p).trans hq)

set_option maxRecDepth 100000 in
set_option maxHeartbeats 16000000 in
theorem l8_Bounds_walk (t o m c k : Int) (w : World) (bt : 0 ≤ t ∧ t ≤ 255) (bo : 0 ≤ o ∧ o ≤ 255) (bm : 0 ≤ m ∧ m ≤ 255) (bc : 0 ≤ c ∧ c ≤ 255) (bk : 0 ≤ k ∧ k ≤ 255)
    (n f g S : Nat) (hn : 1 + t % 10 = (n : Int)) (hn0 : 1 ≤ n) (hn1 : n ≤ 10) (hf : o % (1 + t % 10 + 1) = (f : Int)) (hf1 : f ≤ n) (hfa : 0 ≤ o % (1 + t % 10 + 1)) (hfb : o % (1 + t % 10 + 1) ≤ 11) (hg : min (1 + t % 10) (o % (1 + t % 10 + 1) + m % 4) = (g : Int)) (hg1 : g ≤ n) (hfg : f ≤ g) (hS : (2 : Int) ^ (min (max (k % 8) 0) 20).toNat = (S : Int)) (hS0 : 0 < S) (hS1 : S ≤ 2000000)
    (u : Rat) (hu : ((c % 17 : Int) : Rat) / ((16 : Int) : Rat) = u) (su : SzQ 1 u) (cu : 0 ≤ u ∧ u ≤ 1) (xl xh yl yh tl th : Rat) (hxl : dLo n f u S = xl) (hxh : dHi n f u S = xh) (hyl : dLo n g u S = yl) (hyh : dHi n g u S = yh)
    (sxl : SzQ 1 xl) (sxh : SzQ 1 xh) (syl : SzQ 1 yl) (syh : SzQ 1 yh) (cxl : 0 ≤ xl ∧ xl ≤ 1) (cxh : 0 ≤ xh ∧ xh ≤ 1) (htl : tlQ xl n f = tl) (hth : tlQ xh n f = th) (stl : SzQ 100 tl) (sth : SzQ 100 th)
    (hok : (¬ yl < xl) ∧ (xh - xl = 0 → f = 0 → xl = 0) ∧ (xh - xl = 0 → ¬ f = 0 → u = 0 ∧ xl = 1) ∧ (¬ xh - xl = 0 → tl ≤ 1 - u ∧ 1 - u < th)) :
    Calls Try.prog 5 #[.int .u8 t, .int .u8 o, .int .u8 m, .int .u8 c, .int .u8 k] w (RetV w (.bool true)) := by
  have hs := Below.refl w.heap.size w
  obtain ⟨bt0, bt1⟩ := bt
  obtain ⟨bo0, bo1⟩ := bo
  obtain ⟨bm0, bm1⟩ := bm
  obtain ⟨bc0, bc1⟩ := bc
  obtain ⟨bk0, bk1⟩ := bk
  have HN := Lib.hid hn
  have HF := Lib.hid hf
  have HG := Lib.hid hg
  have HS := Lib.hid hS
  have HU := Lib.hid hu
  have CU := Lib.hid cu
  have HXL := Lib.hid hxl
  have HXH := Lib.hid hxh
  have HYL := Lib.hid hyl
  have HYH := Lib.hid hyh
  have CXL := Lib.hid cxl
  have CXH := Lib.hid cxh
  have HTL := Lib.hid htl
  have HTH := Lib.hid hth
  have HOK := Lib.hid hok
  clear hn hf hg hS hu cu hxl hxh hyl hyh cxl cxh htl hth hok
  go_enter Try.func5, Try.ntmps5
  go_wp2_with fail
  refine Calls.abs ?_
  intro w1 hW
  have hG : Gr [] w w1 := by rw [hW]; exact (Gr.refl _ _).alloc.alloc
  have hbw : Below w.heap.size w w1 := hG.below0 hs.size
  have hk : KeepD w w1 := hG.keep True.intro
  have sz_w1 : w.heap.size ≤ w.heap.size := hs.size
  have Blc : Bx w1 (w.heap.size) 48 #[.int .i64 (1 + t % 10), .int .i64 (o % (1 + t % 10 + 1))] := by rw [hW]; exact ((Bx.new0 _ _ _).alloc _)
  have Bld : Bx w1 (w.heap.size + 1) 48 #[.int .i64 (1 + t % 10), .int .i64 (min (1 + t % 10) (o % (1 + t % 10 + 1) + m % 4))] := by rw [hW]; exact (Bx.new0 _ _ _)
  replace hs := hs.trans hbw
  clear hW hG hk hbw
  have hz_w1 : w.heap.size + 1 < w1.heap.size := Bld.lt
  with_reducible refine (l8_part _ HU.out (by omega) (by omega) (by decide) (by decide)).mono ?_
  rintro e w2 ⟨_, rfl, h1, hb⟩
  obtain ⟨sh1, ah1, nh1, ch1, Ah1, Nh1, Ch1, rfl⟩ := h1.shape
  replace hs := bStep hs hb
  replace Blc := Blc.mono hb
  replace Bld := Bld.mono hb
  clear hb
  have cc_0 : w2.cell? ⟨w.heap.size, 0, none⟩ = some (.int .i64 (1 + t % 10)) := Blc.at 0 rfl
  have cc_1 : w2.cell? ⟨w.heap.size, 1, none⟩ = some (.int .i64 (o % (1 + t % 10 + 1))) := Blc.at 1 rfl
  have Lc : w.heap.size < w2.heap.size := Blc.lt
  go_wp2_with fail
  clear cc_0 cc_1 Lc
  refine Calls.abs ?_
  intro w3 hW
  have hG : Gr [] w2 w3 := by rw [hW]; exact (Gr.refl _ _).alloc
  have hbw : Below w.heap.size w2 w3 := hG.below0 hs.size
  have hk : KeepD w2 w3 := hG.keep True.intro
  have sz_w3 : w.heap.size ≤ w2.heap.size := hs.size
  have nc_w3 : w.heap.size < w2.heap.size := Blc.lt
  have nd_w3 : w.heap.size + 1 < w2.heap.size := Bld.lt
  have Blsure : Bx w3 (w2.heap.size) 26 #[.bool sh1, .slice ah1 nh1 ch1, .slice Ah1 Nh1 Ch1] := by rw [hW]; exact (Bx.new0 _ _ _)
  replace hs := hs.trans hbw
  replace Blc := hG.bx Blc notMem0
  replace Bld := hG.bx Bld notMem0
  replace h1 := h1.keep hk
  clear hW hG hk hbw
  have hz_w3 : w2.heap.size < w3.heap.size := Blsure.lt
  with_reducible refine (al_Det_e _ HN.out HF.out (by omega) (by omega) (by omega) h1 su CU.out.1 CU.out.2 (by omega) HS.out (by omega) (by omega) HXL.out HXH.out).mono ?_
  rintro e w4 ⟨_, _, rfl, h2, rfl, hb⟩
  obtain ⟨sh2a, ah2a, nh2a, ch2a, Ah2a, Nh2a, Ch2a, sh2b, ah2b, nh2b, ch2b, Ah2b, Nh2b, Ch2b, rfl, h2a, h2b⟩ := h2.shape
  replace hs := bStep hs hb
  replace Blc := Blc.mono hb
  replace Bld := Bld.mono hb
  replace Blsure := Blsure.mono hb
  replace h1 := h1.mono hb
  clear hb
  have cd_0 : w4.cell? ⟨w.heap.size + 1, 0, none⟩ = some (.int .i64 (1 + t % 10)) := Bld.at 0 rfl
  have cd_1 : w4.cell? ⟨w.heap.size + 1, 1, none⟩ = some (.int .i64 (min (1 + t % 10) (o % (1 + t % 10 + 1) + m % 4))) := Bld.at 1 rfl
  have Ld : w.heap.size + 1 < w4.heap.size := Bld.lt
  have csure_0 : w4.cell? ⟨w2.heap.size, 0, none⟩ = some (.bool sh1) := Blsure.at 0 rfl
  have csure_1 : w4.cell? ⟨w2.heap.size, 1, none⟩ = some (.slice ah1 nh1 ch1) := Blsure.at 1 rfl
  have csure_2 : w4.cell? ⟨w2.heap.size, 2, none⟩ = some (.slice Ah1 Nh1 Ch1) := Blsure.at 2 rfl
  have Lsure : w2.heap.size < w4.heap.size := Blsure.lt
  have Ld_0 : w.heap.size < w4.heap.size := by omega
  go_wp2_with fail
  clear cd_0 cd_1 csure_0 csure_1 csure_2 Ld Lsure Ld_0
  refine Calls.abs ?_
  intro w5 hW
  have hG : Gr [] w4 w5 := by rw [hW]; exact (Gr.refl _ _).alloc
  have hbw : Below w.heap.size w4 w5 := hG.below0 hs.size
  have hk : KeepD w4 w5 := hG.keep True.intro
  have sz_w5 : w.heap.size ≤ w4.heap.size := hs.size
  have nc_w5 : w.heap.size < w4.heap.size := Blc.lt
  have nd_w5 : w.heap.size + 1 < w4.heap.size := Bld.lt
  have nsure_w5 : w2.heap.size < w4.heap.size := Blsure.lt
  have Blx : Bx w5 (w4.heap.size) 50 #[.bool sh2a, .slice ah2a nh2a ch2a, .slice Ah2a Nh2a Ch2a, .bool sh2b, .slice ah2b nh2b ch2b, .slice Ah2b Nh2b Ch2b] := by rw [hW]; exact (Bx.new0 _ _ _)
  replace hs := hs.trans hbw
  replace Blc := hG.bx Blc notMem0
  replace Bld := hG.bx Bld notMem0
  replace Blsure := hG.bx Blsure notMem0
  replace h1 := h1.keep hk
  replace h2a := h2a.keep hk
  replace h2b := h2b.keep hk
  clear hW hG hk hbw
  have hz_w5 : w4.heap.size < w5.heap.size := Blx.lt
  with_reducible refine (al_Det_e _ HN.out HG.out (by omega) (by omega) (by omega) h1 su CU.out.1 CU.out.2 (by omega) HS.out (by omega) (by omega) HYL.out HYH.out).mono ?_
  rintro e w6 ⟨_, _, rfl, h3, rfl, hb⟩
  obtain ⟨sh3a, ah3a, nh3a, ch3a, Ah3a, Nh3a, Ch3a, sh3b, ah3b, nh3b, ch3b, Ah3b, Nh3b, Ch3b, rfl, h3a, h3b⟩ := h3.shape
  replace hs := bStep hs hb
  replace Blc := Blc.mono hb
  replace Bld := Bld.mono hb
  replace Blsure := Blsure.mono hb
  replace Blx := Blx.mono hb
  replace h1 := h1.mono hb
  replace h2a := h2a.mono hb
  replace h2b := h2b.mono hb
  clear hb
  go_upto_region 7 with fail
  refine Code.abs ?_
  intro w7 hW
  have hG : Gr [] w6 w7 := by rw [hW]; exact (Gr.refl _ _).alloc
  have hbw : Below w.heap.size w6 w7 := hG.below0 hs.size
  have hk : KeepD w6 w7 := hG.keep True.intro
  have sz_w7 : w.heap.size ≤ w6.heap.size := hs.size
  have nc_w7 : w.heap.size < w6.heap.size := Blc.lt
  have nd_w7 : w.heap.size + 1 < w6.heap.size := Bld.lt
  have nsure_w7 : w2.heap.size < w6.heap.size := Blsure.lt
  have nx_w7 : w4.heap.size < w6.heap.size := Blx.lt
  have Bly : Bx w7 (w6.heap.size) 50 #[.bool sh3a, .slice ah3a nh3a ch3a, .slice Ah3a Nh3a Ch3a, .bool sh3b, .slice ah3b nh3b ch3b, .slice Ah3b Nh3b Ch3b] := by rw [hW]; exact (Bx.new0 _ _ _)
  replace hs := hs.trans hbw
  replace Blc := hG.bx Blc notMem0
  replace Bld := hG.bx Bld notMem0
  replace Blsure := hG.bx Blsure notMem0
  replace Blx := hG.bx Blx notMem0
  replace h1 := h1.keep hk
  replace h2a := h2a.keep hk
  replace h2b := h2b.keep hk
  replace h3a := h3a.keep hk
  replace h3b := h3b.keep hk
  clear hW hG hk hbw
  have hz_w7 : w6.heap.size < w7.heap.size := Bly.lt
  obtain ⟨sg6, Hsg6⟩ : ∃ s : Int, s = sgQ (yl - xl) := ⟨_, rfl⟩
  replace Hsg6 := Lib.hid Hsg6
  refine U_region (S := fun w' => w'.cell? ⟨w6.heap.size, 0, none⟩ = some (.bool sh3a) ∧ w'.cell? ⟨w6.heap.size, 1, none⟩ = some (.slice ah3a nh3a ch3a) ∧ w'.cell? ⟨w6.heap.size, 2, none⟩ = some (.slice Ah3a Nh3a Ch3a) ∧ w'.cell? ⟨w6.heap.size, 3, none⟩ = some (.bool sh3b) ∧ w'.cell? ⟨w6.heap.size, 4, none⟩ = some (.slice ah3b nh3b ch3b) ∧ w'.cell? ⟨w6.heap.size, 5, none⟩ = some (.slice Ah3b Nh3b Ch3b) ∧ w'.cell? ⟨w4.heap.size, 0, none⟩ = some (.bool sh2a) ∧ w'.cell? ⟨w4.heap.size, 1, none⟩ = some (.slice ah2a nh2a ch2a) ∧ w'.cell? ⟨w4.heap.size, 2, none⟩ = some (.slice Ah2a Nh2a Ch2a) ∧ w'.cell? ⟨w4.heap.size, 3, none⟩ = some (.bool sh2b) ∧ w'.cell? ⟨w4.heap.size, 4, none⟩ = some (.slice ah2b nh2b ch2b) ∧ w'.cell? ⟨w4.heap.size, 5, none⟩ = some (.slice Ah2b Nh2b Ch2b)) (by kernel_rfl) 18 ?_
  refine AnyU.abs ?_
  intro w8 hW
  have hb : Below w7.heap.size w7 w8 := by rw [hW]; exact bDrew _
  replace hs := bStep hs hb
  replace Blc := Blc.mono hb
  replace Bld := Bld.mono hb
  replace Blsure := Blsure.mono hb
  replace Blx := Blx.mono hb
  replace Bly := Bly.mono hb
  replace h1 := h1.mono hb
  replace h2a := h2a.mono hb
  replace h2b := h2b.mono hb
  replace h3a := h3a.mono hb
  replace h3b := h3b.mono hb
  clear hb hW
  have cy_0 : w8.cell? ⟨w6.heap.size, 0, none⟩ = some (.bool sh3a) := Bly.at 0 rfl
  have cy_1 : w8.cell? ⟨w6.heap.size, 1, none⟩ = some (.slice ah3a nh3a ch3a) := Bly.at 1 rfl
  have cy_2 : w8.cell? ⟨w6.heap.size, 2, none⟩ = some (.slice Ah3a Nh3a Ch3a) := Bly.at 2 rfl
  have cy_3 : w8.cell? ⟨w6.heap.size, 3, none⟩ = some (.bool sh3b) := Bly.at 3 rfl
  have cy_4 : w8.cell? ⟨w6.heap.size, 4, none⟩ = some (.slice ah3b nh3b ch3b) := Bly.at 4 rfl
  have cy_5 : w8.cell? ⟨w6.heap.size, 5, none⟩ = some (.slice Ah3b Nh3b Ch3b) := Bly.at 5 rfl
  have cx_0 : w8.cell? ⟨w4.heap.size, 0, none⟩ = some (.bool sh2a) := Blx.at 0 rfl
  have cx_1 : w8.cell? ⟨w4.heap.size, 1, none⟩ = some (.slice ah2a nh2a ch2a) := Blx.at 1 rfl
  have cx_2 : w8.cell? ⟨w4.heap.size, 2, none⟩ = some (.slice Ah2a Nh2a Ch2a) := Blx.at 2 rfl
  have cx_3 : w8.cell? ⟨w4.heap.size, 3, none⟩ = some (.bool sh2b) := Blx.at 3 rfl
  have cx_4 : w8.cell? ⟨w4.heap.size, 4, none⟩ = some (.slice ah2b nh2b ch2b) := Blx.at 4 rfl
  have cx_5 : w8.cell? ⟨w4.heap.size, 5, none⟩ = some (.slice Ah2b Nh2b Ch2b) := Blx.at 5 rfl
  have hH := (show w8.cell? ⟨w6.heap.size, 0, none⟩ = some (.bool sh3a) ∧ w8.cell? ⟨w6.heap.size, 1, none⟩ = some (.slice ah3a nh3a ch3a) ∧ w8.cell? ⟨w6.heap.size, 2, none⟩ = some (.slice Ah3a Nh3a Ch3a) ∧ w8.cell? ⟨w6.heap.size, 3, none⟩ = some (.bool sh3b) ∧ w8.cell? ⟨w6.heap.size, 4, none⟩ = some (.slice ah3b nh3b ch3b) ∧ w8.cell? ⟨w6.heap.size, 5, none⟩ = some (.slice Ah3b Nh3b Ch3b) ∧ w8.cell? ⟨w4.heap.size, 0, none⟩ = some (.bool sh2a) ∧ w8.cell? ⟨w4.heap.size, 1, none⟩ = some (.slice ah2a nh2a ch2a) ∧ w8.cell? ⟨w4.heap.size, 2, none⟩ = some (.slice Ah2a Nh2a Ch2a) ∧ w8.cell? ⟨w4.heap.size, 3, none⟩ = some (.bool sh2b) ∧ w8.cell? ⟨w4.heap.size, 4, none⟩ = some (.slice ah2b nh2b ch2b) ∧ w8.cell? ⟨w4.heap.size, 5, none⟩ = some (.slice Ah2b Nh2b Ch2b) from ⟨cy_0, cy_1, cy_2, cy_3, cy_4, cy_5, cx_0, cx_1, cx_2, cx_3, cx_4, cx_5⟩)
  clear hH
  refine U_one (i := 0) (by kernel_rfl) rfl (fun K hK => ?_)
  go_simp
  (with_reducible refine (l8_awake _).mono ?_)
  rintro e w9 ⟨rfl, hb⟩
  replace hs := bStep hs hb
  replace Blc := Blc.mono hb
  replace Bld := Bld.mono hb
  replace Blsure := Blsure.mono hb
  replace Blx := Blx.mono hb
  replace Bly := Bly.mono hb
  replace h1 := h1.mono hb
  replace h2a := h2a.mono hb
  replace h2b := h2b.mono hb
  replace h3a := h3a.mono hb
  replace h3b := h3b.mono hb
  replace cy_0 := cellK cy_0 hb
  replace cy_1 := cellK cy_1 hb
  replace cy_2 := cellK cy_2 hb
  replace cy_3 := cellK cy_3 hb
  replace cy_4 := cellK cy_4 hb
  replace cy_5 := cellK cy_5 hb
  replace cx_0 := cellK cx_0 hb
  replace cx_1 := cellK cx_1 hb
  replace cx_2 := cellK cx_2 hb
  replace cx_3 := cellK cx_3 hb
  replace cx_4 := cellK cx_4 hb
  replace cx_5 := cellK cx_5 hb
  clear hb
  try go_wp2_with fail
  refine hK.out _ _ ⟨cy_0, cy_1, cy_2, cy_3, cy_4, cy_5, cx_0, cx_1, cx_2, cx_3, cx_4, cx_5⟩ (fun hH => ?_)
  clear hK K
  try simp only [LY]
  refine U_takeN (i := 1) (d := 66) (v := ?_) rfl rfl rfl (by kernel_rfl) (by kernel_rfl) (by kernel_rfl) (fun _ _ _ h => h) (Or.inl ⟨by rfl, ?_⟩) hH ?_
  rotate_left
  · intro w hSw
    try dsimp only at hSw
    go_simp
    try with_reducible rfl
  simp only [LY]
  refine U_takeN (i := 2) (d := 67) (v := ?_) rfl rfl rfl (by kernel_rfl) (by kernel_rfl) (by kernel_rfl) (fun _ _ _ h => h) (Or.inl ⟨by rfl, ?_⟩) hH ?_
  rotate_left
  · intro w hSw
    try dsimp only at hSw
    go_simp
    try with_reducible rfl
  simp only [LY]
  refine U_takeN (i := 3) (d := 68) (v := ?_) rfl rfl rfl (by kernel_rfl) (by kernel_rfl) (by kernel_rfl) (fun _ _ _ h => h) (Or.inl ⟨by rfl, ?_⟩) hH ?_
  rotate_left
  · intro w hSw
    try dsimp only at hSw
    go_simp
    try with_reducible rfl
  simp only [LY]
  refine U_takeN (i := 4) (d := 69) (v := ?_) rfl rfl rfl (by kernel_rfl) (by kernel_rfl) (by kernel_rfl) (fun _ _ _ h => h) (Or.inl ⟨by rfl, ?_⟩) hH ?_
  rotate_left
  · intro w hSw
    try dsimp only at hSw
    go_simp
    try with_reducible rfl
  simp only [LY]
  refine U_takeN (i := 5) (d := 70) (v := ?_) rfl rfl rfl (by kernel_rfl) (by kernel_rfl) (by kernel_rfl) (fun _ _ _ h => h) (Or.inl ⟨by rfl, ?_⟩) hH ?_
  rotate_left
  · intro w hSw
    try dsimp only at hSw
    go_simp
    try with_reducible rfl
  simp only [LY]
  refine U_takeN (i := 6) (d := 71) (v := ?_) rfl rfl rfl (by kernel_rfl) (by kernel_rfl) (by kernel_rfl) (fun _ _ _ h => h) (Or.inl ⟨by rfl, ?_⟩) hH ?_
  rotate_left
  · intro w hSw
    try dsimp only at hSw
    go_simp
    try with_reducible rfl
  simp only [LY]
  refine U_takeN (i := 7) (d := 72) (v := ?_) rfl rfl rfl (by kernel_rfl) (by kernel_rfl) (by kernel_rfl) (fun _ _ _ h => h) (Or.inl ⟨by rfl, ?_⟩) hH ?_
  rotate_left
  · intro w hSw
    try dsimp only at hSw
    go_simp
    try with_reducible rfl
  simp only [LY]
  refine U_takeN (i := 8) (d := 73) (v := ?_) rfl rfl rfl (by kernel_rfl) (by kernel_rfl) (by kernel_rfl) (fun _ _ _ h => h) (Or.inl ⟨by rfl, ?_⟩) hH ?_
  rotate_left
  · intro w hSw
    try dsimp only at hSw
    go_simp
    try with_reducible rfl
  simp only [LY]
  refine U_takeN (i := 9) (d := 74) (v := ?_) rfl rfl rfl (by kernel_rfl) (by kernel_rfl) (by kernel_rfl) (fun _ _ _ h => h) (Or.inl ⟨by rfl, ?_⟩) hH ?_
  rotate_left
  · intro w hSw
    try dsimp only at hSw
    go_simp
    try with_reducible rfl
  simp only [LY]
  refine U_takeN (i := 10) (d := 75) (v := ?_) rfl rfl rfl (by kernel_rfl) (by kernel_rfl) (by kernel_rfl) (fun _ _ _ h => h) (Or.inl ⟨by rfl, ?_⟩) hH ?_
  rotate_left
  · intro w hSw
    try dsimp only at hSw
    go_simp
    try with_reducible rfl
  simp only [LY]
  refine U_takeN (i := 11) (d := 76) (v := ?_) rfl rfl rfl (by kernel_rfl) (by kernel_rfl) (by kernel_rfl) (fun _ _ _ h => h) (Or.inl ⟨by rfl, ?_⟩) hH ?_
  rotate_left
  · intro w hSw
    try dsimp only at hSw
    go_simp
    try with_reducible rfl
  simp only [LY]
  refine U_takeN (i := 13) (d := 78) (v := ?_) rfl rfl rfl (by kernel_rfl) (by kernel_rfl) (by kernel_rfl) (fun _ _ _ h => h) (Or.inl ⟨by rfl, ?_⟩) hH ?_
  rotate_left
  · intro w hSw
    try dsimp only at hSw
    go_simp
    try with_reducible rfl
  simp only [LY]
  clear hH
  refine U_one (i := 12) (by kernel_rfl) rfl (fun K hK => ?_)
  go_simp
  (with_reducible refine (p_Lo _ _ _ _ (PV2.mk h3a h3b)).mono ?_)
  rintro e w10 ⟨_, rfl, h4, hb⟩
  obtain ⟨sh4, ah4, nh4, ch4, Ah4, Nh4, Ch4, rfl⟩ := h4.shape
  replace hs := bStep hs hb
  replace Blc := Blc.mono hb
  replace Bld := Bld.mono hb
  replace Blsure := Blsure.mono hb
  replace Blx := Blx.mono hb
  replace Bly := Bly.mono hb
  replace h1 := h1.mono hb
  replace h2a := h2a.mono hb
  replace h2b := h2b.mono hb
  replace h3a := h3a.mono hb
  replace h3b := h3b.mono hb
  replace cy_0 := cellK cy_0 hb
  replace cy_1 := cellK cy_1 hb
  replace cy_2 := cellK cy_2 hb
  replace cy_3 := cellK cy_3 hb
  replace cy_4 := cellK cy_4 hb
  replace cy_5 := cellK cy_5 hb
  replace cx_0 := cellK cx_0 hb
  replace cx_1 := cellK cx_1 hb
  replace cx_2 := cellK cx_2 hb
  replace cx_3 := cellK cx_3 hb
  replace cx_4 := cellK cx_4 hb
  replace cx_5 := cellK cx_5 hb
  clear hb
  try go_wp2_with fail
  refine hK.out _ _ ⟨cy_0, cy_1, cy_2, cy_3, cy_4, cy_5, cx_0, cx_1, cx_2, cx_3, cx_4, cx_5⟩ (fun hH => ?_)
  clear hK K
  try simp only [LY]
  clear hH
  refine U_one (i := 14) (by kernel_rfl) rfl (fun K hK => ?_)
  go_simp
  (with_reducible refine (p_Lo _ _ _ _ (PV2.mk h2a h2b)).mono ?_)
  rintro e w11 ⟨_, rfl, h5, hb⟩
  obtain ⟨sh5, ah5, nh5, ch5, Ah5, Nh5, Ch5, rfl⟩ := h5.shape
  replace hs := bStep hs hb
  replace Blc := Blc.mono hb
  replace Bld := Bld.mono hb
  replace Blsure := Blsure.mono hb
  replace Blx := Blx.mono hb
  replace Bly := Bly.mono hb
  replace h1 := h1.mono hb
  replace h2a := h2a.mono hb
  replace h2b := h2b.mono hb
  replace h3a := h3a.mono hb
  replace h3b := h3b.mono hb
  replace h4 := h4.mono hb
  replace cy_0 := cellK cy_0 hb
  replace cy_1 := cellK cy_1 hb
  replace cy_2 := cellK cy_2 hb
  replace cy_3 := cellK cy_3 hb
  replace cy_4 := cellK cy_4 hb
  replace cy_5 := cellK cy_5 hb
  replace cx_0 := cellK cx_0 hb
  replace cx_1 := cellK cx_1 hb
  replace cx_2 := cellK cx_2 hb
  replace cx_3 := cellK cx_3 hb
  replace cx_4 := cellK cx_4 hb
  replace cx_5 := cellK cx_5 hb
  clear hb
  try go_wp2_with fail
  refine hK.out _ _ ⟨cy_0, cy_1, cy_2, cy_3, cy_4, cy_5, cx_0, cx_1, cx_2, cx_3, cx_4, cx_5⟩ (fun hH => ?_)
  clear hK K
  try simp only [LY]
  clear hH
  refine U_one (i := 15) (by kernel_rfl) rfl (fun K hK => ?_)
  go_simp
  (with_reducible refine (pCmp h4 h5 (SzQ.fit syl) (SzQ.fit sxl)).mono ?_)
  rintro e w12 ⟨rfl, hb⟩
  replace hs := bStep hs hb
  replace Blc := Blc.mono hb
  replace Bld := Bld.mono hb
  replace Blsure := Blsure.mono hb
  replace Blx := Blx.mono hb
  replace Bly := Bly.mono hb
  replace h1 := h1.mono hb
  replace h2a := h2a.mono hb
  replace h2b := h2b.mono hb
  replace h3a := h3a.mono hb
  replace h3b := h3b.mono hb
  replace h4 := h4.mono hb
  replace h5 := h5.mono hb
  replace cy_0 := cellK cy_0 hb
  replace cy_1 := cellK cy_1 hb
  replace cy_2 := cellK cy_2 hb
  replace cy_3 := cellK cy_3 hb
  replace cy_4 := cellK cy_4 hb
  replace cy_5 := cellK cy_5 hb
  replace cx_0 := cellK cx_0 hb
  replace cx_1 := cellK cx_1 hb
  replace cx_2 := cellK cx_2 hb
  replace cx_3 := cellK cx_3 hb
  replace cx_4 := cellK cx_4 hb
  replace cx_5 := cellK cx_5 hb
  clear hb
  rw [← Hsg6.out]
  try go_wp2_with fail
  refine hK.out _ _ ⟨cy_0, cy_1, cy_2, cy_3, cy_4, cy_5, cx_0, cx_1, cx_2, cx_3, cx_4, cx_5⟩ (fun hH => ?_)
  clear hK K
  try simp only [LY]
  refine U_takeN (i := 16) (d := 81) (v := ?_) rfl rfl rfl (by kernel_rfl) (by kernel_rfl) (by kernel_rfl) (fun _ _ _ h => h) (Or.inl ⟨by rfl, ?_⟩) hH ?_
  rotate_left
  · intro w hSw
    try dsimp only at hSw
    go_simp
    try with_reducible rfl
  simp only [LY]
  refine U_takeN (i := 17) (d := 82) (v := ?_) rfl rfl rfl (by kernel_rfl) (by kernel_rfl) (by kernel_rfl) (fun _ _ _ h => h) (Or.inl ⟨by rfl, ?_⟩) hH ?_
  rotate_left
  · intro w hSw
    try dsimp only at hSw
    go_simp
    try with_reducible rfl
  simp only [LY]
  clear hH
  refine U_endN (by kernel_rfl) ?_
  clear cy_0 cy_1 cy_2 cy_3 cy_4 cy_5 cx_0 cx_1 cx_2 cx_3 cx_4 cx_5
  have q7 : ¬ (yl < xl) := HOK.out.1
  have q7_ : ¬ (sg6 < 0) := by have h := sq_lt yl xl; rw [← Hsg6.out] at h; exact fun h1 => q7 (h.1 h1)
  have q7H := Lib.hid q7
  clear q7
  have q7d : decide (sg6 < 0) = false := decide_eq_false q7_
  have cx_0 : w12.cell? ⟨w4.heap.size, 0, none⟩ = some (.bool sh2a) := Blx.at 0 rfl
  have cx_1 : w12.cell? ⟨w4.heap.size, 1, none⟩ = some (.slice ah2a nh2a ch2a) := Blx.at 1 rfl
  have cx_2 : w12.cell? ⟨w4.heap.size, 2, none⟩ = some (.slice Ah2a Nh2a Ch2a) := Blx.at 2 rfl
  have cx_3 : w12.cell? ⟨w4.heap.size, 3, none⟩ = some (.bool sh2b) := Blx.at 3 rfl
  have cx_4 : w12.cell? ⟨w4.heap.size, 4, none⟩ = some (.slice ah2b nh2b ch2b) := Blx.at 4 rfl
  have cx_5 : w12.cell? ⟨w4.heap.size, 5, none⟩ = some (.slice Ah2b Nh2b Ch2b) := Blx.at 5 rfl
  have Lx : w4.heap.size < w12.heap.size := Blx.lt
  go_wp2_with fail
  clear cx_0 cx_1 cx_2 cx_3 cx_4 cx_5 Lx
  with_reducible refine (p_Width _ _ _ _ (PV2.mk h2a h2b) (SzQ.mid sxl) (SzQ.mid sxh)).mono ?_
  rintro e w13 ⟨_, rfl, h8, hb⟩
  obtain ⟨sh8, ah8, nh8, ch8, Ah8, Nh8, Ch8, rfl⟩ := h8.shape
  replace hs := bStep hs hb
  replace Blc := Blc.mono hb
  replace Bld := Bld.mono hb
  replace Blsure := Blsure.mono hb
  replace Blx := Blx.mono hb
  replace Bly := Bly.mono hb
  replace h1 := h1.mono hb
  replace h2a := h2a.mono hb
  replace h2b := h2b.mono hb
  replace h3a := h3a.mono hb
  replace h3b := h3b.mono hb
  replace h4 := h4.mono hb
  replace h5 := h5.mono hb
  clear hb
  go_wp2_with fail
  with_reducible refine (p_Zero_calls _ _ _ h8).mono ?_
  rintro e w14 ⟨rfl, hb⟩
  replace hs := bStep hs hb
  replace Blc := Blc.mono hb
  replace Bld := Bld.mono hb
  replace Blsure := Blsure.mono hb
  replace Blx := Blx.mono hb
  replace Bly := Bly.mono hb
  replace h1 := h1.mono hb
  replace h2a := h2a.mono hb
  replace h2b := h2b.mono hb
  replace h3a := h3a.mono hb
  replace h3b := h3b.mono hb
  replace h4 := h4.mono hb
  replace h5 := h5.mono hb
  replace h8 := h8.mono hb
  clear hb
  obtain ⟨b9, Hb9⟩ : ∃ b : Bool, b = decide (xh - xl = 0) := ⟨_, rfl⟩
  rw [← Hb9]
  replace Hb9 := Lib.hid Hb9
  by_cases q10 : xh - xl = 0
  · obtain rfl : b9 = true := by rw [Hb9.out]; exact decide_eq_true q10
    have q10H := Lib.hid q10
    clear q10
    by_cases q11 : o % (1 + t % 10 + 1) = 0
    · have q11b : (o % (1 + t % 10 + 1) == 0) = true := beq_iff_eq.2 (by omega)
      have q11n : (o % (1 + t % 10 + 1) != 0) = false := bne_eq_false_iff_eq.2 (by omega)
      have q11H := Lib.hid q11
      clear q11
      have cc_0 : w14.cell? ⟨w.heap.size, 0, none⟩ = some (.int .i64 (1 + t % 10)) := Blc.at 0 rfl
      have cc_1 : w14.cell? ⟨w.heap.size, 1, none⟩ = some (.int .i64 (o % (1 + t % 10 + 1))) := Blc.at 1 rfl
      have Lc : w.heap.size < w14.heap.size := Blc.lt
      have cx_0 : w14.cell? ⟨w4.heap.size, 0, none⟩ = some (.bool sh2a) := Blx.at 0 rfl
      have cx_1 : w14.cell? ⟨w4.heap.size, 1, none⟩ = some (.slice ah2a nh2a ch2a) := Blx.at 1 rfl
      have cx_2 : w14.cell? ⟨w4.heap.size, 2, none⟩ = some (.slice Ah2a Nh2a Ch2a) := Blx.at 2 rfl
      have cx_3 : w14.cell? ⟨w4.heap.size, 3, none⟩ = some (.bool sh2b) := Blx.at 3 rfl
      have cx_4 : w14.cell? ⟨w4.heap.size, 4, none⟩ = some (.slice ah2b nh2b ch2b) := Blx.at 4 rfl
      have cx_5 : w14.cell? ⟨w4.heap.size, 5, none⟩ = some (.slice Ah2b Nh2b Ch2b) := Blx.at 5 rfl
      have Lx : w4.heap.size < w14.heap.size := Blx.lt
      go_wp2_with fail
      clear cc_0 cc_1 cx_0 cx_1 cx_2 cx_3 cx_4 cx_5 Lc Lx
      with_reducible refine (p_Lo _ _ _ _ (PV2.mk h2a h2b)).mono ?_
      rintro e w15 ⟨_, rfl, h12, hb⟩
      obtain ⟨sh12, ah12, nh12, ch12, Ah12, Nh12, Ch12, rfl⟩ := h12.shape
      replace hs := bStep hs hb
      replace Blc := Blc.mono hb
      replace Bld := Bld.mono hb
      replace Blsure := Blsure.mono hb
      replace Blx := Blx.mono hb
      replace Bly := Bly.mono hb
      replace h1 := h1.mono hb
      replace h2a := h2a.mono hb
      replace h2b := h2b.mono hb
      replace h3a := h3a.mono hb
      replace h3b := h3b.mono hb
      replace h4 := h4.mono hb
      replace h5 := h5.mono hb
      replace h8 := h8.mono hb
      clear hb
      go_wp2_with fail
      with_reducible refine (p_Zero_calls _ _ _ h12).mono ?_
      rintro e w16 ⟨rfl, hb⟩
      replace hs := bStep hs hb
      replace Blc := Blc.mono hb
      replace Bld := Bld.mono hb
      replace Blsure := Blsure.mono hb
      replace Blx := Blx.mono hb
      replace Bly := Bly.mono hb
      replace h1 := h1.mono hb
      replace h2a := h2a.mono hb
      replace h2b := h2b.mono hb
      replace h3a := h3a.mono hb
      replace h3b := h3b.mono hb
      replace h4 := h4.mono hb
      replace h5 := h5.mono hb
      replace h8 := h8.mono hb
      replace h12 := h12.mono hb
      clear hb
      obtain ⟨b13, Hb13⟩ : ∃ b : Bool, b = decide (xl = 0) := ⟨_, rfl⟩
      rw [← Hb13]
      replace Hb13 := Lib.hid Hb13
      have q14 : xl = 0 := (HOK.out.2.1 q10H.out (by have h := q11H.out; have := HF.out; omega))
      obtain rfl : b13 = true := by rw [Hb13.out]; exact decide_eq_true q14
      have q14H := Lib.hid q14
      clear q14
      go_wp2
      go_ret
      exact ⟨rfl, hs⟩
    · have q11b : (o % (1 + t % 10 + 1) == 0) = false := beq_eq_false_iff_ne.2 (by omega)
      have q11n : (o % (1 + t % 10 + 1) != 0) = true := bne_iff_ne.2 (by omega)
      have q11H := Lib.hid q11
      clear q11
      have cc_0 : w14.cell? ⟨w.heap.size, 0, none⟩ = some (.int .i64 (1 + t % 10)) := Blc.at 0 rfl
      have cc_1 : w14.cell? ⟨w.heap.size, 1, none⟩ = some (.int .i64 (o % (1 + t % 10 + 1))) := Blc.at 1 rfl
      have Lc : w.heap.size < w14.heap.size := Blc.lt
      have csure_0 : w14.cell? ⟨w2.heap.size, 0, none⟩ = some (.bool sh1) := Blsure.at 0 rfl
      have csure_1 : w14.cell? ⟨w2.heap.size, 1, none⟩ = some (.slice ah1 nh1 ch1) := Blsure.at 1 rfl
      have csure_2 : w14.cell? ⟨w2.heap.size, 2, none⟩ = some (.slice Ah1 Nh1 Ch1) := Blsure.at 2 rfl
      have Lsure : w2.heap.size < w14.heap.size := Blsure.lt
      go_wp2_with fail
      clear cc_0 cc_1 csure_0 csure_1 csure_2 Lc Lsure
      with_reducible refine (p_Zero_calls _ _ _ h1).mono ?_
      rintro e w15 ⟨rfl, hb⟩
      replace hs := bStep hs hb
      replace Blc := Blc.mono hb
      replace Bld := Bld.mono hb
      replace Blsure := Blsure.mono hb
      replace Blx := Blx.mono hb
      replace Bly := Bly.mono hb
      replace h1 := h1.mono hb
      replace h2a := h2a.mono hb
      replace h2b := h2b.mono hb
      replace h3a := h3a.mono hb
      replace h3b := h3b.mono hb
      replace h4 := h4.mono hb
      replace h5 := h5.mono hb
      replace h8 := h8.mono hb
      clear hb
      obtain ⟨b12, Hb12⟩ : ∃ b : Bool, b = decide (u = 0) := ⟨_, rfl⟩
      rw [← Hb12]
      replace Hb12 := Lib.hid Hb12
      have q13 : u = 0 := (HOK.out.2.2.1 q10H.out (by have h := q11H.out; have := HF.out; omega)).1
      obtain rfl : b12 = true := by rw [Hb12.out]; exact decide_eq_true q13
      have q13H := Lib.hid q13
      clear q13
      have cx_0 : w15.cell? ⟨w4.heap.size, 0, none⟩ = some (.bool sh2a) := Blx.at 0 rfl
      have cx_1 : w15.cell? ⟨w4.heap.size, 1, none⟩ = some (.slice ah2a nh2a ch2a) := Blx.at 1 rfl
      have cx_2 : w15.cell? ⟨w4.heap.size, 2, none⟩ = some (.slice Ah2a Nh2a Ch2a) := Blx.at 2 rfl
      have cx_3 : w15.cell? ⟨w4.heap.size, 3, none⟩ = some (.bool sh2b) := Blx.at 3 rfl
      have cx_4 : w15.cell? ⟨w4.heap.size, 4, none⟩ = some (.slice ah2b nh2b ch2b) := Blx.at 4 rfl
      have cx_5 : w15.cell? ⟨w4.heap.size, 5, none⟩ = some (.slice Ah2b Nh2b Ch2b) := Blx.at 5 rfl
      have Lx : w4.heap.size < w15.heap.size := Blx.lt
      go_wp2_with fail
      clear cx_0 cx_1 cx_2 cx_3 cx_4 cx_5 Lx
      with_reducible refine (p_Lo _ _ _ _ (PV2.mk h2a h2b)).mono ?_
      rintro e w16 ⟨_, rfl, h14, hb⟩
      obtain ⟨sh14, ah14, nh14, ch14, Ah14, Nh14, Ch14, rfl⟩ := h14.shape
      replace hs := bStep hs hb
      replace Blc := Blc.mono hb
      replace Bld := Bld.mono hb
      replace Blsure := Blsure.mono hb
      replace Blx := Blx.mono hb
      replace Bly := Bly.mono hb
      replace h1 := h1.mono hb
      replace h2a := h2a.mono hb
      replace h2b := h2b.mono hb
      replace h3a := h3a.mono hb
      replace h3b := h3b.mono hb
      replace h4 := h4.mono hb
      replace h5 := h5.mono hb
      replace h8 := h8.mono hb
      clear hb
      go_wp2_with fail
      with_reducible refine (p_one _).mono ?_
      rintro e w17 ⟨_, rfl, h15, hb⟩
      obtain ⟨sh15, ah15, nh15, ch15, Ah15, Nh15, Ch15, rfl⟩ := h15.shape
      replace hs := bStep hs hb
      replace Blc := Blc.mono hb
      replace Bld := Bld.mono hb
      replace Blsure := Blsure.mono hb
      replace Blx := Blx.mono hb
      replace Bly := Bly.mono hb
      replace h1 := h1.mono hb
      replace h2a := h2a.mono hb
      replace h2b := h2b.mono hb
      replace h3a := h3a.mono hb
      replace h3b := h3b.mono hb
      replace h4 := h4.mono hb
      replace h5 := h5.mono hb
      replace h8 := h8.mono hb
      replace h14 := h14.mono hb
      clear hb
      go_wp2_with fail
      with_reducible refine (p_Same_calls _ _ _ _ _ h14 h15).mono ?_
      rintro e w18 ⟨rfl, hb⟩
      replace hs := bStep hs hb
      replace Blc := Blc.mono hb
      replace Bld := Bld.mono hb
      replace Blsure := Blsure.mono hb
      replace Blx := Blx.mono hb
      replace Bly := Bly.mono hb
      replace h1 := h1.mono hb
      replace h2a := h2a.mono hb
      replace h2b := h2b.mono hb
      replace h3a := h3a.mono hb
      replace h3b := h3b.mono hb
      replace h4 := h4.mono hb
      replace h5 := h5.mono hb
      replace h8 := h8.mono hb
      replace h14 := h14.mono hb
      replace h15 := h15.mono hb
      clear hb
      obtain ⟨b16, Hb16⟩ : ∃ b : Bool, b = decide (xl = 1) := ⟨_, rfl⟩
      rw [← Hb16]
      replace Hb16 := Lib.hid Hb16
      have q17 : xl = 1 := (HOK.out.2.2.1 q10H.out (by have h := q11H.out; have := HF.out; omega)).2
      obtain rfl : b16 = true := by rw [Hb16.out]; exact decide_eq_true q17
      have q17H := Lib.hid q17
      clear q17
      go_wp2
      go_ret
      exact ⟨rfl, hs⟩
  · obtain rfl : b9 = false := by rw [Hb9.out]; exact decide_eq_false q10
    have q10H := Lib.hid q10
    clear q10
    go_upto_region 11 with fail
    go_cut [19] (fun kv0 wz => ∃ gleft sh12 ah12 nh12 ch12 Ah12 Nh12 Ch12, kv0 = .pointer (some ⟨gleft, 0, none⟩) ∧ w.heap.size ≤ gleft ∧ gleft ≠ w.heap.size ∧ gleft ≠ (w.heap.size + 1) ∧ gleft ≠ w2.heap.size ∧ gleft ≠ w4.heap.size ∧ gleft ≠ w6.heap.size ∧ Bx wz gleft 26 #[.bool sh12, .slice ah12 nh12 ch12, .slice Ah12 Nh12 Ch12] ∧ Below w.heap.size w wz ∧ Bx wz (w.heap.size) 48 #[.int .i64 (1 + t % 10), .int .i64 (o % (1 + t % 10 + 1))] ∧ Bx wz (w.heap.size + 1) 48 #[.int .i64 (1 + t % 10), .int .i64 (min (1 + t % 10) (o % (1 + t % 10 + 1) + m % 4))] ∧ Bx wz (w2.heap.size) 26 #[.bool sh1, .slice ah1 nh1 ch1, .slice Ah1 Nh1 Ch1] ∧ Bx wz (w4.heap.size) 50 #[.bool sh2a, .slice ah2a nh2a ch2a, .slice Ah2a Nh2a Ch2a, .bool sh2b, .slice ah2b nh2b ch2b, .slice Ah2b Nh2b Ch2b] ∧ Bx wz (w6.heap.size) 50 #[.bool sh3a, .slice ah3a nh3a ch3a, .slice Ah3a Nh3a Ch3a, .bool sh3b, .slice ah3b nh3b ch3b, .slice Ah3b Nh3b Ch3b] ∧ PV wz (.agg #[.bool sh1, .slice ah1 nh1 ch1, .slice Ah1 Nh1 Ch1]) (u) ∧ PV wz (.agg #[.bool sh2a, .slice ah2a nh2a ch2a, .slice Ah2a Nh2a Ch2a]) (xl) ∧ PV wz (.agg #[.bool sh2b, .slice ah2b nh2b ch2b, .slice Ah2b Nh2b Ch2b]) (xh) ∧ PV wz (.agg #[.bool sh3a, .slice ah3a nh3a ch3a, .slice Ah3a Nh3a Ch3a]) (yl) ∧ PV wz (.agg #[.bool sh3b, .slice ah3b nh3b ch3b, .slice Ah3b Nh3b Ch3b]) (yh) ∧ PV wz (.agg #[.bool sh4, .slice ah4 nh4 ch4, .slice Ah4 Nh4 Ch4]) (yl) ∧ PV wz (.agg #[.bool sh5, .slice ah5 nh5 ch5, .slice Ah5 Nh5 Ch5]) (xl) ∧ PV wz (.agg #[.bool sh8, .slice ah8 nh8 ch8, .slice Ah8 Nh8 Ch8]) (xh - xl) ∧ PV wz (.agg #[.bool sh12, .slice ah12 nh12 ch12, .slice Ah12 Nh12 Ch12]) (1 - u))
    case first =>
      refine U_region (S := fun w' => w'.cell? ⟨w2.heap.size, 0, none⟩ = some (.bool sh1) ∧ w'.cell? ⟨w2.heap.size, 1, none⟩ = some (.slice ah1 nh1 ch1) ∧ w'.cell? ⟨w2.heap.size, 2, none⟩ = some (.slice Ah1 Nh1 Ch1)) (by kernel_rfl) 4 ?_
      refine AnyU.abs ?_
      intro w15 hW
      have hb : Below w14.heap.size w14 w15 := by rw [hW]; exact bDrew _
      replace hs := bStep hs hb
      replace Blc := Blc.mono hb
      replace Bld := Bld.mono hb
      replace Blsure := Blsure.mono hb
      replace Blx := Blx.mono hb
      replace Bly := Bly.mono hb
      replace h1 := h1.mono hb
      replace h2a := h2a.mono hb
      replace h2b := h2b.mono hb
      replace h3a := h3a.mono hb
      replace h3b := h3b.mono hb
      replace h4 := h4.mono hb
      replace h5 := h5.mono hb
      replace h8 := h8.mono hb
      clear hb hW
      have csure_0 : w15.cell? ⟨w2.heap.size, 0, none⟩ = some (.bool sh1) := Blsure.at 0 rfl
      have csure_1 : w15.cell? ⟨w2.heap.size, 1, none⟩ = some (.slice ah1 nh1 ch1) := Blsure.at 1 rfl
      have csure_2 : w15.cell? ⟨w2.heap.size, 2, none⟩ = some (.slice Ah1 Nh1 Ch1) := Blsure.at 2 rfl
      have hH := (show w15.cell? ⟨w2.heap.size, 0, none⟩ = some (.bool sh1) ∧ w15.cell? ⟨w2.heap.size, 1, none⟩ = some (.slice ah1 nh1 ch1) ∧ w15.cell? ⟨w2.heap.size, 2, none⟩ = some (.slice Ah1 Nh1 Ch1) from ⟨csure_0, csure_1, csure_2⟩)
      refine U_take (i := 1) (v := ?_) rfl (by kernel_rfl) (by kernel_rfl) (by kernel_rfl) (by kernel_rfl) (fun _ _ _ h => h) (Or.inl ⟨by rfl, ?_⟩) hH ?_
      rotate_left
      · intro w hSw
        try dsimp only at hSw
        go_simp
        try with_reducible rfl
      try simp only [Act.put, List.setIfInBounds_toArray, List.set_cons_zero, List.set_cons_succ]
      refine U_two (i := 0) (j := 3) (by kernel_rfl) rfl rfl (fun K hK => ?_) (fun K hK => ?_)
      · clear hH
        go_simp
        (with_reducible refine (p_one _).mono ?_)
        rintro e w16 ⟨_, rfl, h11, hb⟩
        obtain ⟨sh11, ah11, nh11, ch11, Ah11, Nh11, Ch11, rfl⟩ := h11.shape
        replace hs := bStep hs hb
        replace Blc := Blc.mono hb
        replace Bld := Bld.mono hb
        replace Blsure := Blsure.mono hb
        replace Blx := Blx.mono hb
        replace Bly := Bly.mono hb
        replace h1 := h1.mono hb
        replace h2a := h2a.mono hb
        replace h2b := h2b.mono hb
        replace h3a := h3a.mono hb
        replace h3b := h3b.mono hb
        replace h4 := h4.mono hb
        replace h5 := h5.mono hb
        replace h8 := h8.mono hb
        replace csure_0 := cellK csure_0 hb
        replace csure_1 := cellK csure_1 hb
        replace csure_2 := cellK csure_2 hb
        clear hb
        try go_wp2_with fail
        refine hK.out _ _ ⟨csure_0, csure_1, csure_2⟩ (fun hH => ?_)
        clear hK K
        try simp only [Act.put, List.setIfInBounds_toArray, List.set_cons_zero, List.set_cons_succ]
        refine U_two (i := 2) (j := 3) (by kernel_rfl) rfl rfl (fun K hK => ?_) (fun K hK => ?_)
        · clear hH
          go_simp
          (with_reducible refine (pSub h11 h1 (SzQ.fit szQ_one) (SzQ.fit su)).mono ?_)
          rintro e w17 ⟨_, rfl, h12, hb⟩
          obtain ⟨sh12, ah12, nh12, ch12, Ah12, Nh12, Ch12, rfl⟩ := h12.shape
          replace hs := bStep hs hb
          replace Blc := Blc.mono hb
          replace Bld := Bld.mono hb
          replace Blsure := Blsure.mono hb
          replace Blx := Blx.mono hb
          replace Bly := Bly.mono hb
          replace h1 := h1.mono hb
          replace h2a := h2a.mono hb
          replace h2b := h2b.mono hb
          replace h3a := h3a.mono hb
          replace h3b := h3b.mono hb
          replace h4 := h4.mono hb
          replace h5 := h5.mono hb
          replace h8 := h8.mono hb
          replace h11 := h11.mono hb
          replace csure_0 := cellK csure_0 hb
          replace csure_1 := cellK csure_1 hb
          replace csure_2 := cellK csure_2 hb
          clear hb
          try go_wp2_with fail
          refine hK.out _ _ ⟨csure_0, csure_1, csure_2⟩ (fun hH => ?_)
          clear hK K
          try simp only [Act.put, List.setIfInBounds_toArray, List.set_cons_zero, List.set_cons_succ]
          clear hH
          refine U_one (i := 3) (by kernel_rfl) rfl (fun K hK => ?_)
          go_simp
          generalize hWn : (w17.alloc (.cells #[.bool false, .slice none 0 0, .slice none 0 0] 26)) = w18
          have hb : Below w17.heap.size w17 w18 := by rw [← hWn]; exact (Below.refl _ _).alloc (Nat.le_refl _) _
          have Blleft : Bx w18 (w17.heap.size) 26 #[.bool false, .slice none 0 0, .slice none 0 0] := by rw [← hWn]; exact Bx.new _ _ _
          have nc_left : w.heap.size ≠ w17.heap.size := by have := Blc.lt; omega
          have nd_left : w.heap.size + 1 ≠ w17.heap.size := by have := Bld.lt; omega
          have nsure_left : w2.heap.size ≠ w17.heap.size := by have := Blsure.lt; omega
          have nx_left : w4.heap.size ≠ w17.heap.size := by have := Blx.lt; omega
          have ny_left : w6.heap.size ≠ w17.heap.size := by have := Bly.lt; omega
          have sz_left : w.heap.size ≤ w17.heap.size := hs.size
          replace hs := bStep hs hb
          replace Blc := Blc.mono hb
          replace Bld := Bld.mono hb
          replace Blsure := Blsure.mono hb
          replace Blx := Blx.mono hb
          replace Bly := Bly.mono hb
          replace h1 := h1.mono hb
          replace h2a := h2a.mono hb
          replace h2b := h2b.mono hb
          replace h3a := h3a.mono hb
          replace h3b := h3b.mono hb
          replace h4 := h4.mono hb
          replace h5 := h5.mono hb
          replace h8 := h8.mono hb
          replace h11 := h11.mono hb
          replace h12 := h12.mono hb
          replace csure_0 := cellK csure_0 hb
          replace csure_1 := cellK csure_1 hb
          replace csure_2 := cellK csure_2 hb
          clear hb hWn
          refine hK.out _ _ ⟨csure_0, csure_1, csure_2⟩ (fun hH => ?_)
          clear hK K
          try simp only [Act.put, List.setIfInBounds_toArray, List.set_cons_zero, List.set_cons_succ]
          clear hH
          have cleft_0 : w18.cell? ⟨w17.heap.size, 0, none⟩ = some (.bool false) := Blleft.at 0 rfl
          have cleft_1 : w18.cell? ⟨w17.heap.size, 1, none⟩ = some (.slice none 0 0) := Blleft.at 1 rfl
          have cleft_2 : w18.cell? ⟨w17.heap.size, 2, none⟩ = some (.slice none 0 0) := Blleft.at 2 rfl
          have fleft := Blleft.free
          have Lleft : w17.heap.size < w18.heap.size := Blleft.lt
          refine U_last (by kernel_rfl) rfl (by kernel_rfl) (fun K hK => ?_)
          go_simp
          refine hK.out _ _ ?_
          clear hK K
          intro w19 hW
          have hG : Gr [w17.heap.size] w18 w19 := by rw [hW]; exact (Gr.refl _ _).set.set.set
          have hsz := hs.size
          have lleft := Blleft.lt
          have hbw : Below w.heap.size w18 w19 := hG.below1 hs.size (by first | omega | assumption)
          have hk : KeepD w18 w19 := hG.keep ⟨⟨_, Blleft.ty, by decide⟩, True.intro⟩
          have Bl1left : Bx w19 (w17.heap.size) 26 #[.bool sh12, .slice ah12 nh12 ch12, .slice Ah12 Nh12 Ch12] := by rw [hW]; exact Blleft.set3
          replace hs := hs.trans hbw
          replace Blc := hG.bx Blc (notMem1 (by omega))
          replace Bld := hG.bx Bld (notMem1 (by omega))
          replace Blsure := hG.bx Blsure (notMem1 (by omega))
          replace Blx := hG.bx Blx (notMem1 (by omega))
          replace Bly := hG.bx Bly (notMem1 (by omega))
          replace Blleft := Bl1left
          clear Bl1left
          replace h1 := h1.keep hk
          replace h2a := h2a.keep hk
          replace h2b := h2b.keep hk
          replace h3a := h3a.keep hk
          replace h3b := h3b.keep hk
          replace h4 := h4.keep hk
          replace h5 := h5.keep hk
          replace h8 := h8.keep hk
          replace h11 := h11.keep hk
          replace h12 := h12.keep hk
          clear hW hG hk hbw hsz lleft
          try simp only [Act.put, List.setIfInBounds_toArray, List.set_cons_zero, List.set_cons_succ]
          clear csure_0 csure_1 csure_2
          go_wp2_with fail
          go_meet
          exact ⟨w17.heap.size, _, _, _, _, _, _, _, rfl, (by first | exact sz_left | omega), (by omega), (by omega), (by omega), (by omega), (by omega), Blleft, hs, Blc, Bld, Blsure, Blx, Bly, h1, h2a, h2b, h3a, h3b, h4, h5, h8, h12⟩
        · clear hH
          go_simp
          generalize hWn : (w16.alloc (.cells #[.bool false, .slice none 0 0, .slice none 0 0] 26)) = w17
          have hb : Below w16.heap.size w16 w17 := by rw [← hWn]; exact (Below.refl _ _).alloc (Nat.le_refl _) _
          have Blleft : Bx w17 (w16.heap.size) 26 #[.bool false, .slice none 0 0, .slice none 0 0] := by rw [← hWn]; exact Bx.new _ _ _
          have nc_left : w.heap.size ≠ w16.heap.size := by have := Blc.lt; omega
          have nd_left : w.heap.size + 1 ≠ w16.heap.size := by have := Bld.lt; omega
          have nsure_left : w2.heap.size ≠ w16.heap.size := by have := Blsure.lt; omega
          have nx_left : w4.heap.size ≠ w16.heap.size := by have := Blx.lt; omega
          have ny_left : w6.heap.size ≠ w16.heap.size := by have := Bly.lt; omega
          have sz_left : w.heap.size ≤ w16.heap.size := hs.size
          replace hs := bStep hs hb
          replace Blc := Blc.mono hb
          replace Bld := Bld.mono hb
          replace Blsure := Blsure.mono hb
          replace Blx := Blx.mono hb
          replace Bly := Bly.mono hb
          replace h1 := h1.mono hb
          replace h2a := h2a.mono hb
          replace h2b := h2b.mono hb
          replace h3a := h3a.mono hb
          replace h3b := h3b.mono hb
          replace h4 := h4.mono hb
          replace h5 := h5.mono hb
          replace h8 := h8.mono hb
          replace h11 := h11.mono hb
          replace csure_0 := cellK csure_0 hb
          replace csure_1 := cellK csure_1 hb
          replace csure_2 := cellK csure_2 hb
          clear hb hWn
          refine hK.out _ _ ⟨csure_0, csure_1, csure_2⟩ (fun hH => ?_)
          clear hK K
          try simp only [Act.put, List.setIfInBounds_toArray, List.set_cons_zero, List.set_cons_succ]
          clear hH
          refine U_one (i := 2) (by kernel_rfl) rfl (fun K hK => ?_)
          go_simp
          (with_reducible refine (pSub h11 h1 (SzQ.fit szQ_one) (SzQ.fit su)).mono ?_)
          rintro e w18 ⟨_, rfl, h12, hb⟩
          obtain ⟨sh12, ah12, nh12, ch12, Ah12, Nh12, Ch12, rfl⟩ := h12.shape
          replace hs := bStep hs hb
          replace Blc := Blc.mono hb
          replace Bld := Bld.mono hb
          replace Blsure := Blsure.mono hb
          replace Blx := Blx.mono hb
          replace Bly := Bly.mono hb
          replace Blleft := Blleft.mono hb
          replace h1 := h1.mono hb
          replace h2a := h2a.mono hb
          replace h2b := h2b.mono hb
          replace h3a := h3a.mono hb
          replace h3b := h3b.mono hb
          replace h4 := h4.mono hb
          replace h5 := h5.mono hb
          replace h8 := h8.mono hb
          replace h11 := h11.mono hb
          replace csure_0 := cellK csure_0 hb
          replace csure_1 := cellK csure_1 hb
          replace csure_2 := cellK csure_2 hb
          clear hb
          try go_wp2_with fail
          refine hK.out _ _ ⟨csure_0, csure_1, csure_2⟩ (fun hH => ?_)
          clear hK K
          try simp only [Act.put, List.setIfInBounds_toArray, List.set_cons_zero, List.set_cons_succ]
          clear hH
          have cleft_0 : w18.cell? ⟨w16.heap.size, 0, none⟩ = some (.bool false) := Blleft.at 0 rfl
          have cleft_1 : w18.cell? ⟨w16.heap.size, 1, none⟩ = some (.slice none 0 0) := Blleft.at 1 rfl
          have cleft_2 : w18.cell? ⟨w16.heap.size, 2, none⟩ = some (.slice none 0 0) := Blleft.at 2 rfl
          have fleft := Blleft.free
          have Lleft : w16.heap.size < w18.heap.size := Blleft.lt
          refine U_last (by kernel_rfl) rfl (by kernel_rfl) (fun K hK => ?_)
          go_simp
          refine hK.out _ _ ?_
          clear hK K
          intro w19 hW
          have hG : Gr [w16.heap.size] w18 w19 := by rw [hW]; exact (Gr.refl _ _).set.set.set
          have hsz := hs.size
          have lleft := Blleft.lt
          have hbw : Below w.heap.size w18 w19 := hG.below1 hs.size (by first | omega | assumption)
          have hk : KeepD w18 w19 := hG.keep ⟨⟨_, Blleft.ty, by decide⟩, True.intro⟩
          have Bl1left : Bx w19 (w16.heap.size) 26 #[.bool sh12, .slice ah12 nh12 ch12, .slice Ah12 Nh12 Ch12] := by rw [hW]; exact Blleft.set3
          replace hs := hs.trans hbw
          replace Blc := hG.bx Blc (notMem1 (by omega))
          replace Bld := hG.bx Bld (notMem1 (by omega))
          replace Blsure := hG.bx Blsure (notMem1 (by omega))
          replace Blx := hG.bx Blx (notMem1 (by omega))
          replace Bly := hG.bx Bly (notMem1 (by omega))
          replace Blleft := Bl1left
          clear Bl1left
          replace h1 := h1.keep hk
          replace h2a := h2a.keep hk
          replace h2b := h2b.keep hk
          replace h3a := h3a.keep hk
          replace h3b := h3b.keep hk
          replace h4 := h4.keep hk
          replace h5 := h5.keep hk
          replace h8 := h8.keep hk
          replace h11 := h11.keep hk
          replace h12 := h12.keep hk
          clear hW hG hk hbw hsz lleft
          try simp only [Act.put, List.setIfInBounds_toArray, List.set_cons_zero, List.set_cons_succ]
          clear csure_0 csure_1 csure_2
          go_wp2_with fail
          go_meet
          exact ⟨w16.heap.size, _, _, _, _, _, _, _, rfl, (by first | exact sz_left | omega), (by omega), (by omega), (by omega), (by omega), (by omega), Blleft, hs, Blc, Bld, Blsure, Blx, Bly, h1, h2a, h2b, h3a, h3b, h4, h5, h8, h12⟩
      · clear hH
        go_simp
        generalize hWn : (w15.alloc (.cells #[.bool false, .slice none 0 0, .slice none 0 0] 26)) = w16
        have hb : Below w15.heap.size w15 w16 := by rw [← hWn]; exact (Below.refl _ _).alloc (Nat.le_refl _) _
        have Blleft : Bx w16 (w15.heap.size) 26 #[.bool false, .slice none 0 0, .slice none 0 0] := by rw [← hWn]; exact Bx.new _ _ _
        have nc_left : w.heap.size ≠ w15.heap.size := by have := Blc.lt; omega
        have nd_left : w.heap.size + 1 ≠ w15.heap.size := by have := Bld.lt; omega
        have nsure_left : w2.heap.size ≠ w15.heap.size := by have := Blsure.lt; omega
        have nx_left : w4.heap.size ≠ w15.heap.size := by have := Blx.lt; omega
        have ny_left : w6.heap.size ≠ w15.heap.size := by have := Bly.lt; omega
        have sz_left : w.heap.size ≤ w15.heap.size := hs.size
        replace hs := bStep hs hb
        replace Blc := Blc.mono hb
        replace Bld := Bld.mono hb
        replace Blsure := Blsure.mono hb
        replace Blx := Blx.mono hb
        replace Bly := Bly.mono hb
        replace h1 := h1.mono hb
        replace h2a := h2a.mono hb
        replace h2b := h2b.mono hb
        replace h3a := h3a.mono hb
        replace h3b := h3b.mono hb
        replace h4 := h4.mono hb
        replace h5 := h5.mono hb
        replace h8 := h8.mono hb
        replace csure_0 := cellK csure_0 hb
        replace csure_1 := cellK csure_1 hb
        replace csure_2 := cellK csure_2 hb
        clear hb hWn
        refine hK.out _ _ ⟨csure_0, csure_1, csure_2⟩ (fun hH => ?_)
        clear hK K
        try simp only [Act.put, List.setIfInBounds_toArray, List.set_cons_zero, List.set_cons_succ]
        clear hH
        refine U_one (i := 0) (by kernel_rfl) rfl (fun K hK => ?_)
        go_simp
        (with_reducible refine (p_one _).mono ?_)
        rintro e w17 ⟨_, rfl, h11, hb⟩
        obtain ⟨sh11, ah11, nh11, ch11, Ah11, Nh11, Ch11, rfl⟩ := h11.shape
        replace hs := bStep hs hb
        replace Blc := Blc.mono hb
        replace Bld := Bld.mono hb
        replace Blsure := Blsure.mono hb
        replace Blx := Blx.mono hb
        replace Bly := Bly.mono hb
        replace Blleft := Blleft.mono hb
        replace h1 := h1.mono hb
        replace h2a := h2a.mono hb
        replace h2b := h2b.mono hb
        replace h3a := h3a.mono hb
        replace h3b := h3b.mono hb
        replace h4 := h4.mono hb
        replace h5 := h5.mono hb
        replace h8 := h8.mono hb
        replace csure_0 := cellK csure_0 hb
        replace csure_1 := cellK csure_1 hb
        replace csure_2 := cellK csure_2 hb
        clear hb
        try go_wp2_with fail
        refine hK.out _ _ ⟨csure_0, csure_1, csure_2⟩ (fun hH => ?_)
        clear hK K
        try simp only [Act.put, List.setIfInBounds_toArray, List.set_cons_zero, List.set_cons_succ]
        clear hH
        refine U_one (i := 2) (by kernel_rfl) rfl (fun K hK => ?_)
        go_simp
        (with_reducible refine (pSub h11 h1 (SzQ.fit szQ_one) (SzQ.fit su)).mono ?_)
        rintro e w18 ⟨_, rfl, h12, hb⟩
        obtain ⟨sh12, ah12, nh12, ch12, Ah12, Nh12, Ch12, rfl⟩ := h12.shape
        replace hs := bStep hs hb
        replace Blc := Blc.mono hb
        replace Bld := Bld.mono hb
        replace Blsure := Blsure.mono hb
        replace Blx := Blx.mono hb
        replace Bly := Bly.mono hb
        replace Blleft := Blleft.mono hb
        replace h1 := h1.mono hb
        replace h2a := h2a.mono hb
        replace h2b := h2b.mono hb
        replace h3a := h3a.mono hb
        replace h3b := h3b.mono hb
        replace h4 := h4.mono hb
        replace h5 := h5.mono hb
        replace h8 := h8.mono hb
        replace h11 := h11.mono hb
        replace csure_0 := cellK csure_0 hb
        replace csure_1 := cellK csure_1 hb
        replace csure_2 := cellK csure_2 hb
        clear hb
        try go_wp2_with fail
        refine hK.out _ _ ⟨csure_0, csure_1, csure_2⟩ (fun hH => ?_)
        clear hK K
        try simp only [Act.put, List.setIfInBounds_toArray, List.set_cons_zero, List.set_cons_succ]
        clear hH
        have cleft_0 : w18.cell? ⟨w15.heap.size, 0, none⟩ = some (.bool false) := Blleft.at 0 rfl
        have cleft_1 : w18.cell? ⟨w15.heap.size, 1, none⟩ = some (.slice none 0 0) := Blleft.at 1 rfl
        have cleft_2 : w18.cell? ⟨w15.heap.size, 2, none⟩ = some (.slice none 0 0) := Blleft.at 2 rfl
        have fleft := Blleft.free
        have Lleft : w15.heap.size < w18.heap.size := Blleft.lt
        refine U_last (by kernel_rfl) rfl (by kernel_rfl) (fun K hK => ?_)
        go_simp
        refine hK.out _ _ ?_
        clear hK K
        intro w19 hW
        have hG : Gr [w15.heap.size] w18 w19 := by rw [hW]; exact (Gr.refl _ _).set.set.set
        have hsz := hs.size
        have lleft := Blleft.lt
        have hbw : Below w.heap.size w18 w19 := hG.below1 hs.size (by first | omega | assumption)
        have hk : KeepD w18 w19 := hG.keep ⟨⟨_, Blleft.ty, by decide⟩, True.intro⟩
        have Bl1left : Bx w19 (w15.heap.size) 26 #[.bool sh12, .slice ah12 nh12 ch12, .slice Ah12 Nh12 Ch12] := by rw [hW]; exact Blleft.set3
        replace hs := hs.trans hbw
        replace Blc := hG.bx Blc (notMem1 (by omega))
        replace Bld := hG.bx Bld (notMem1 (by omega))
        replace Blsure := hG.bx Blsure (notMem1 (by omega))
        replace Blx := hG.bx Blx (notMem1 (by omega))
        replace Bly := hG.bx Bly (notMem1 (by omega))
        replace Blleft := Bl1left
        clear Bl1left
        replace h1 := h1.keep hk
        replace h2a := h2a.keep hk
        replace h2b := h2b.keep hk
        replace h3a := h3a.keep hk
        replace h3b := h3b.keep hk
        replace h4 := h4.keep hk
        replace h5 := h5.keep hk
        replace h8 := h8.keep hk
        replace h11 := h11.keep hk
        replace h12 := h12.keep hk
        clear hW hG hk hbw hsz lleft
        try simp only [Act.put, List.setIfInBounds_toArray, List.set_cons_zero, List.set_cons_succ]
        clear csure_0 csure_1 csure_2
        go_wp2_with fail
        go_meet
        exact ⟨w15.heap.size, _, _, _, _, _, _, _, rfl, (by first | exact sz_left | omega), (by omega), (by omega), (by omega), (by omega), (by omega), Blleft, hs, Blc, Bld, Blsure, Blx, Bly, h1, h2a, h2b, h3a, h3b, h4, h5, h8, h12⟩
    case rest =>
      clear hs Blc Bld Blsure Blx Bly h1 h2a h2b h3a h3b h4 h5 h8
      obtain ⟨gleft, sh12, ah12, nh12, ch12, Ah12, Nh12, Ch12, rfl, hg_left, ng_left_c, ng_left_d, ng_left_sure, ng_left_x, ng_left_y, Blleft, hs, Blc, Bld, Blsure, Blx, Bly, h1, h2a, h2b, h3a, h3b, h4, h5, h8, h12⟩ := hcut
      go_upto_region 12 with fail
      go_cut [20, 16] (fun kv0 kx0 wz => ∃ glow sh14 ah14 nh14 ch14 Ah14 Nh14 Ch14, kv0 = .pointer (some ⟨glow, 0, none⟩) ∧ kx0 = .int .i64 0 ∧ w.heap.size ≤ glow ∧ glow ≠ w.heap.size ∧ glow ≠ (w.heap.size + 1) ∧ glow ≠ w2.heap.size ∧ glow ≠ w4.heap.size ∧ glow ≠ w6.heap.size ∧ glow ≠ gleft ∧ Bx wz glow 26 #[.bool sh14, .slice ah14 nh14 ch14, .slice Ah14 Nh14 Ch14] ∧ Below w.heap.size w wz ∧ Bx wz (w.heap.size) 48 #[.int .i64 (1 + t % 10), .int .i64 (o % (1 + t % 10 + 1))] ∧ Bx wz (w.heap.size + 1) 48 #[.int .i64 (1 + t % 10), .int .i64 (min (1 + t % 10) (o % (1 + t % 10 + 1) + m % 4))] ∧ Bx wz (w2.heap.size) 26 #[.bool sh1, .slice ah1 nh1 ch1, .slice Ah1 Nh1 Ch1] ∧ Bx wz (w4.heap.size) 50 #[.bool sh2a, .slice ah2a nh2a ch2a, .slice Ah2a Nh2a Ch2a, .bool sh2b, .slice ah2b nh2b ch2b, .slice Ah2b Nh2b Ch2b] ∧ Bx wz (w6.heap.size) 50 #[.bool sh3a, .slice ah3a nh3a ch3a, .slice Ah3a Nh3a Ch3a, .bool sh3b, .slice ah3b nh3b ch3b, .slice Ah3b Nh3b Ch3b] ∧ Bx wz (gleft) 26 #[.bool sh12, .slice ah12 nh12 ch12, .slice Ah12 Nh12 Ch12] ∧ PV wz (.agg #[.bool sh1, .slice ah1 nh1 ch1, .slice Ah1 Nh1 Ch1]) (u) ∧ PV wz (.agg #[.bool sh2a, .slice ah2a nh2a ch2a, .slice Ah2a Nh2a Ch2a]) (xl) ∧ PV wz (.agg #[.bool sh2b, .slice ah2b nh2b ch2b, .slice Ah2b Nh2b Ch2b]) (xh) ∧ PV wz (.agg #[.bool sh3a, .slice ah3a nh3a ch3a, .slice Ah3a Nh3a Ch3a]) (yl) ∧ PV wz (.agg #[.bool sh3b, .slice ah3b nh3b ch3b, .slice Ah3b Nh3b Ch3b]) (yh) ∧ PV wz (.agg #[.bool sh4, .slice ah4 nh4 ch4, .slice Ah4 Nh4 Ch4]) (yl) ∧ PV wz (.agg #[.bool sh5, .slice ah5 nh5 ch5, .slice Ah5 Nh5 Ch5]) (xl) ∧ PV wz (.agg #[.bool sh8, .slice ah8 nh8 ch8, .slice Ah8 Nh8 Ch8]) (xh - xl) ∧ PV wz (.agg #[.bool sh12, .slice ah12 nh12 ch12, .slice Ah12 Nh12 Ch12]) (1 - u) ∧ PV wz (.agg #[.bool sh14, .slice ah14 nh14 ch14, .slice Ah14 Nh14 Ch14]) (tl))
      case first =>
        refine U_region (S := fun w' => w'.cell? ⟨w.heap.size, 0, none⟩ = some (.int .i64 (1 + t % 10)) ∧ w'.cell? ⟨w.heap.size, 1, none⟩ = some (.int .i64 (o % (1 + t % 10 + 1))) ∧ w'.cell? ⟨w4.heap.size, 0, none⟩ = some (.bool sh2a) ∧ w'.cell? ⟨w4.heap.size, 1, none⟩ = some (.slice ah2a nh2a ch2a) ∧ w'.cell? ⟨w4.heap.size, 2, none⟩ = some (.slice Ah2a Nh2a Ch2a) ∧ w'.cell? ⟨w4.heap.size, 3, none⟩ = some (.bool sh2b) ∧ w'.cell? ⟨w4.heap.size, 4, none⟩ = some (.slice ah2b nh2b ch2b) ∧ w'.cell? ⟨w4.heap.size, 5, none⟩ = some (.slice Ah2b Nh2b Ch2b)) (by kernel_rfl) 11 ?_
        refine AnyU.abs ?_
        intro w15 hW
        have hb : Below wc.heap.size wc w15 := by rw [hW]; exact bDrew _
        replace hs := bStep hs hb
        replace Blc := Blc.mono hb
        replace Bld := Bld.mono hb
        replace Blsure := Blsure.mono hb
        replace Blx := Blx.mono hb
        replace Bly := Bly.mono hb
        replace Blleft := Blleft.mono hb
        replace h1 := h1.mono hb
        replace h2a := h2a.mono hb
        replace h2b := h2b.mono hb
        replace h3a := h3a.mono hb
        replace h3b := h3b.mono hb
        replace h4 := h4.mono hb
        replace h5 := h5.mono hb
        replace h8 := h8.mono hb
        replace h12 := h12.mono hb
        clear hb hW
        have cc_0 : w15.cell? ⟨w.heap.size, 0, none⟩ = some (.int .i64 (1 + t % 10)) := Blc.at 0 rfl
        have cc_1 : w15.cell? ⟨w.heap.size, 1, none⟩ = some (.int .i64 (o % (1 + t % 10 + 1))) := Blc.at 1 rfl
        have cx_0 : w15.cell? ⟨w4.heap.size, 0, none⟩ = some (.bool sh2a) := Blx.at 0 rfl
        have cx_1 : w15.cell? ⟨w4.heap.size, 1, none⟩ = some (.slice ah2a nh2a ch2a) := Blx.at 1 rfl
        have cx_2 : w15.cell? ⟨w4.heap.size, 2, none⟩ = some (.slice Ah2a Nh2a Ch2a) := Blx.at 2 rfl
        have cx_3 : w15.cell? ⟨w4.heap.size, 3, none⟩ = some (.bool sh2b) := Blx.at 3 rfl
        have cx_4 : w15.cell? ⟨w4.heap.size, 4, none⟩ = some (.slice ah2b nh2b ch2b) := Blx.at 4 rfl
        have cx_5 : w15.cell? ⟨w4.heap.size, 5, none⟩ = some (.slice Ah2b Nh2b Ch2b) := Blx.at 5 rfl
        have hH := (show w15.cell? ⟨w.heap.size, 0, none⟩ = some (.int .i64 (1 + t % 10)) ∧ w15.cell? ⟨w.heap.size, 1, none⟩ = some (.int .i64 (o % (1 + t % 10 + 1))) ∧ w15.cell? ⟨w4.heap.size, 0, none⟩ = some (.bool sh2a) ∧ w15.cell? ⟨w4.heap.size, 1, none⟩ = some (.slice ah2a nh2a ch2a) ∧ w15.cell? ⟨w4.heap.size, 2, none⟩ = some (.slice Ah2a Nh2a Ch2a) ∧ w15.cell? ⟨w4.heap.size, 3, none⟩ = some (.bool sh2b) ∧ w15.cell? ⟨w4.heap.size, 4, none⟩ = some (.slice ah2b nh2b ch2b) ∧ w15.cell? ⟨w4.heap.size, 5, none⟩ = some (.slice Ah2b Nh2b Ch2b) from ⟨cc_0, cc_1, cx_0, cx_1, cx_2, cx_3, cx_4, cx_5⟩)
        refine U_take (i := 0) (v := ?_) rfl (by kernel_rfl) (by kernel_rfl) (by kernel_rfl) (by kernel_rfl) (fun _ _ _ h => h) (Or.inl ⟨by rfl, ?_⟩) hH ?_
        rotate_left
        · intro w hSw
          try dsimp only at hSw
          go_simp
          try with_reducible rfl
        try simp only [Act.put, List.setIfInBounds_toArray, List.set_cons_zero, List.set_cons_succ]
        refine U_take (i := 1) (v := ?_) rfl (by kernel_rfl) (by kernel_rfl) (by kernel_rfl) (by kernel_rfl) (fun _ _ _ h => h) (Or.inl ⟨by rfl, ?_⟩) hH ?_
        rotate_left
        · intro w hSw
          try dsimp only at hSw
          go_simp
          try with_reducible rfl
        try simp only [Act.put, List.setIfInBounds_toArray, List.set_cons_zero, List.set_cons_succ]
        refine U_take (i := 2) (v := ?_) rfl (by kernel_rfl) (by kernel_rfl) (by kernel_rfl) (by kernel_rfl) (fun _ _ _ h => h) (Or.inl ⟨by rfl, ?_⟩) hH ?_
        rotate_left
        · intro w hSw
          try dsimp only at hSw
          go_simp
          try with_reducible rfl
        try simp only [Act.put, List.setIfInBounds_toArray, List.set_cons_zero, List.set_cons_succ]
        refine U_take (i := 3) (v := ?_) rfl (by kernel_rfl) (by kernel_rfl) (by kernel_rfl) (by kernel_rfl) (fun _ _ _ h => h) (Or.inl ⟨by rfl, ?_⟩) hH ?_
        rotate_left
        · intro w hSw
          try dsimp only at hSw
          go_simp
          try with_reducible rfl
        try simp only [Act.put, List.setIfInBounds_toArray, List.set_cons_zero, List.set_cons_succ]
        refine U_two (i := 4) (j := 9) (by kernel_rfl) rfl rfl (fun K hK => ?_) (fun K hK => ?_)
        · clear hH
          go_simp
          (with_reducible refine (p_Lo _ _ _ _ (PV2.mk h2a h2b)).mono ?_)
          rintro e w16 ⟨_, rfl, h13, hb⟩
          obtain ⟨sh13, ah13, nh13, ch13, Ah13, Nh13, Ch13, rfl⟩ := h13.shape
          replace hs := bStep hs hb
          replace Blc := Blc.mono hb
          replace Bld := Bld.mono hb
          replace Blsure := Blsure.mono hb
          replace Blx := Blx.mono hb
          replace Bly := Bly.mono hb
          replace Blleft := Blleft.mono hb
          replace h1 := h1.mono hb
          replace h2a := h2a.mono hb
          replace h2b := h2b.mono hb
          replace h3a := h3a.mono hb
          replace h3b := h3b.mono hb
          replace h4 := h4.mono hb
          replace h5 := h5.mono hb
          replace h8 := h8.mono hb
          replace h12 := h12.mono hb
          replace cc_0 := cellK cc_0 hb
          replace cc_1 := cellK cc_1 hb
          replace cx_0 := cellK cx_0 hb
          replace cx_1 := cellK cx_1 hb
          replace cx_2 := cellK cx_2 hb
          replace cx_3 := cellK cx_3 hb
          replace cx_4 := cellK cx_4 hb
          replace cx_5 := cellK cx_5 hb
          clear hb
          try go_wp2_with fail
          refine hK.out _ _ ⟨cc_0, cc_1, cx_0, cx_1, cx_2, cx_3, cx_4, cx_5⟩ (fun hH => ?_)
          clear hK K
          try simp only [Act.put, List.setIfInBounds_toArray, List.set_cons_zero, List.set_cons_succ]
          refine U_two (i := 5) (j := 9) (by kernel_rfl) rfl rfl (fun K hK => ?_) (fun K hK => ?_)
          · clear hH
            go_simp
            (with_reducible refine (al_Tail_e2 _ HN.out HF.out h13 sxl CXL.out.1 CXL.out.2 (by omega) HTL.out).mono ?_)
            rintro e w17 ⟨_, rfl, h14, hb⟩
            obtain ⟨sh14, ah14, nh14, ch14, Ah14, Nh14, Ch14, rfl⟩ := h14.shape
            replace hs := bStep hs hb
            replace Blc := Blc.mono hb
            replace Bld := Bld.mono hb
            replace Blsure := Blsure.mono hb
            replace Blx := Blx.mono hb
            replace Bly := Bly.mono hb
            replace Blleft := Blleft.mono hb
            replace h1 := h1.mono hb
            replace h2a := h2a.mono hb
            replace h2b := h2b.mono hb
            replace h3a := h3a.mono hb
            replace h3b := h3b.mono hb
            replace h4 := h4.mono hb
            replace h5 := h5.mono hb
            replace h8 := h8.mono hb
            replace h12 := h12.mono hb
            replace h13 := h13.mono hb
            replace cc_0 := cellK cc_0 hb
            replace cc_1 := cellK cc_1 hb
            replace cx_0 := cellK cx_0 hb
            replace cx_1 := cellK cx_1 hb
            replace cx_2 := cellK cx_2 hb
            replace cx_3 := cellK cx_3 hb
            replace cx_4 := cellK cx_4 hb
            replace cx_5 := cellK cx_5 hb
            clear hb
            try go_wp2_with fail
            refine hK.out _ _ ⟨cc_0, cc_1, cx_0, cx_1, cx_2, cx_3, cx_4, cx_5⟩ (fun hH => ?_)
            clear hK K
            try simp only [Act.put, List.setIfInBounds_toArray, List.set_cons_zero, List.set_cons_succ]
            refine U_take (i := 6) (v := ?_) rfl (by kernel_rfl) (by kernel_rfl) (by kernel_rfl) (by kernel_rfl) (fun _ _ _ h => h) (Or.inl ⟨by rfl, ?_⟩) hH ?_
            rotate_left
            · intro w hSw
              try dsimp only at hSw
              go_simp
              try with_reducible rfl
            try simp only [Act.put, List.setIfInBounds_toArray, List.set_cons_zero, List.set_cons_succ]
            refine U_take (i := 7) (v := ?_) rfl (by kernel_rfl) (by kernel_rfl) (by kernel_rfl) (by kernel_rfl) (fun _ _ _ h => h) (Or.inl ⟨by rfl, ?_⟩) hH ?_
            rotate_left
            · intro w hSw
              try dsimp only at hSw
              go_simp
              try with_reducible rfl
            try simp only [Act.put, List.setIfInBounds_toArray, List.set_cons_zero, List.set_cons_succ]
            refine U_take (i := 8) (v := ?_) rfl (by kernel_rfl) (by kernel_rfl) (by kernel_rfl) (by kernel_rfl) (fun _ _ _ h => h) (Or.inl ⟨by rfl, ?_⟩) hH ?_
            rotate_left
            · intro w hSw
              try dsimp only at hSw
              go_simp
              try with_reducible rfl
            try simp only [Act.put, List.setIfInBounds_toArray, List.set_cons_zero, List.set_cons_succ]
            clear hH
            refine U_one (i := 9) (by kernel_rfl) rfl (fun K hK => ?_)
            go_simp
            generalize hWn : (w17.alloc (.cells #[.bool false, .slice none 0 0, .slice none 0 0] 26)) = w18
            have hb : Below w17.heap.size w17 w18 := by rw [← hWn]; exact (Below.refl _ _).alloc (Nat.le_refl _) _
            have Bllow : Bx w18 (w17.heap.size) 26 #[.bool false, .slice none 0 0, .slice none 0 0] := by rw [← hWn]; exact Bx.new _ _ _
            have nc_low : w.heap.size ≠ w17.heap.size := by have := Blc.lt; omega
            have nd_low : w.heap.size + 1 ≠ w17.heap.size := by have := Bld.lt; omega
            have nsure_low : w2.heap.size ≠ w17.heap.size := by have := Blsure.lt; omega
            have nx_low : w4.heap.size ≠ w17.heap.size := by have := Blx.lt; omega
            have ny_low : w6.heap.size ≠ w17.heap.size := by have := Bly.lt; omega
            have nleft_low : gleft ≠ w17.heap.size := by have := Blleft.lt; omega
            have sz_low : w.heap.size ≤ w17.heap.size := hs.size
            replace hs := bStep hs hb
            replace Blc := Blc.mono hb
            replace Bld := Bld.mono hb
            replace Blsure := Blsure.mono hb
            replace Blx := Blx.mono hb
            replace Bly := Bly.mono hb
            replace Blleft := Blleft.mono hb
            replace h1 := h1.mono hb
            replace h2a := h2a.mono hb
            replace h2b := h2b.mono hb
            replace h3a := h3a.mono hb
            replace h3b := h3b.mono hb
            replace h4 := h4.mono hb
            replace h5 := h5.mono hb
            replace h8 := h8.mono hb
            replace h12 := h12.mono hb
            replace h13 := h13.mono hb
            replace h14 := h14.mono hb
            replace cc_0 := cellK cc_0 hb
            replace cc_1 := cellK cc_1 hb
            replace cx_0 := cellK cx_0 hb
            replace cx_1 := cellK cx_1 hb
            replace cx_2 := cellK cx_2 hb
            replace cx_3 := cellK cx_3 hb
            replace cx_4 := cellK cx_4 hb
            replace cx_5 := cellK cx_5 hb
            clear hb hWn
            refine hK.out _ _ ⟨cc_0, cc_1, cx_0, cx_1, cx_2, cx_3, cx_4, cx_5⟩ (fun hH => ?_)
            clear hK K
            try simp only [Act.put, List.setIfInBounds_toArray, List.set_cons_zero, List.set_cons_succ]
            clear hH
            have clow_0 : w18.cell? ⟨w17.heap.size, 0, none⟩ = some (.bool false) := Bllow.at 0 rfl
            have clow_1 : w18.cell? ⟨w17.heap.size, 1, none⟩ = some (.slice none 0 0) := Bllow.at 1 rfl
            have clow_2 : w18.cell? ⟨w17.heap.size, 2, none⟩ = some (.slice none 0 0) := Bllow.at 2 rfl
            have flow := Bllow.free
            have Llow : w17.heap.size < w18.heap.size := Bllow.lt
            refine U_one (i := 10) (by kernel_rfl) rfl (fun K hK => ?_)
            go_simp
            generalize hW_ : (((w18.setCell ⟨w17.heap.size, 0, none⟩ (.bool sh14)).setCell ⟨w17.heap.size, 1, none⟩ (.slice ah14 nh14 ch14)).setCell ⟨w17.heap.size, 2, none⟩ (.slice Ah14 Nh14 Ch14)) = w19
            have hW := hW_.symm
            clear hW_
            have hG : Gr [w17.heap.size] w18 w19 := by rw [hW]; exact (Gr.refl _ _).set.set.set
            have hsz := hs.size
            have llow := Bllow.lt
            have hbw : Below w.heap.size w18 w19 := hG.below1 hs.size (by first | omega | assumption)
            have hk : KeepD w18 w19 := hG.keep ⟨⟨_, Bllow.ty, by decide⟩, True.intro⟩
            have Bl1low : Bx w19 (w17.heap.size) 26 #[.bool sh14, .slice ah14 nh14 ch14, .slice Ah14 Nh14 Ch14] := by rw [hW]; exact Bllow.set3
            replace hs := hs.trans hbw
            replace Blc := hG.bx Blc (notMem1 (by omega))
            replace Bld := hG.bx Bld (notMem1 (by omega))
            replace Blsure := hG.bx Blsure (notMem1 (by omega))
            replace Blx := hG.bx Blx (notMem1 (by omega))
            replace Bly := hG.bx Bly (notMem1 (by omega))
            replace Blleft := hG.bx Blleft (notMem1 (by omega))
            replace Bllow := Bl1low
            clear Bl1low
            replace h1 := h1.keep hk
            replace h2a := h2a.keep hk
            replace h2b := h2b.keep hk
            replace h3a := h3a.keep hk
            replace h3b := h3b.keep hk
            replace h4 := h4.keep hk
            replace h5 := h5.keep hk
            replace h8 := h8.keep hk
            replace h12 := h12.keep hk
            replace h13 := h13.keep hk
            replace h14 := h14.keep hk
            replace cc_0 := hG.cell cc_0 (notMem1 (by dsimp only; omega))
            replace cc_1 := hG.cell cc_1 (notMem1 (by dsimp only; omega))
            replace cx_0 := hG.cell cx_0 (notMem1 (by dsimp only; omega))
            replace cx_1 := hG.cell cx_1 (notMem1 (by dsimp only; omega))
            replace cx_2 := hG.cell cx_2 (notMem1 (by dsimp only; omega))
            replace cx_3 := hG.cell cx_3 (notMem1 (by dsimp only; omega))
            replace cx_4 := hG.cell cx_4 (notMem1 (by dsimp only; omega))
            replace cx_5 := hG.cell cx_5 (notMem1 (by dsimp only; omega))
            clear hW hG hk hbw hsz llow
            refine hK.out _ _ ⟨cc_0, cc_1, cx_0, cx_1, cx_2, cx_3, cx_4, cx_5⟩ (fun hH => ?_)
            clear hK K
            try simp only [Act.put, List.setIfInBounds_toArray, List.set_cons_zero, List.set_cons_succ]
            clear hH
            refine U_last (by kernel_rfl) rfl (by kernel_rfl) (fun K hK => ?_)
            go_simp
            refine hK.out _ _ ?_
            clear hK K
            intro wl hW
            rw [hW]
            clear hW wl
            try simp only [Act.put, List.setIfInBounds_toArray, List.set_cons_zero, List.set_cons_succ]
            clear cc_0 cc_1 cx_0 cx_1 cx_2 cx_3 cx_4 cx_5
            go_wp2_with fail
            go_meet
            exact ⟨w17.heap.size, _, _, _, _, _, _, _, rfl, rfl, (by first | exact sz_low | omega), (by omega), (by omega), (by omega), (by omega), (by omega), (by omega), Bllow, hs, Blc, Bld, Blsure, Blx, Bly, Blleft, h1, h2a, h2b, h3a, h3b, h4, h5, h8, h12, h14⟩
          · clear hH
            go_simp
            generalize hWn : (w16.alloc (.cells #[.bool false, .slice none 0 0, .slice none 0 0] 26)) = w17
            have hb : Below w16.heap.size w16 w17 := by rw [← hWn]; exact (Below.refl _ _).alloc (Nat.le_refl _) _
            have Bllow : Bx w17 (w16.heap.size) 26 #[.bool false, .slice none 0 0, .slice none 0 0] := by rw [← hWn]; exact Bx.new _ _ _
            have nc_low : w.heap.size ≠ w16.heap.size := by have := Blc.lt; omega
            have nd_low : w.heap.size + 1 ≠ w16.heap.size := by have := Bld.lt; omega
            have nsure_low : w2.heap.size ≠ w16.heap.size := by have := Blsure.lt; omega
            have nx_low : w4.heap.size ≠ w16.heap.size := by have := Blx.lt; omega
            have ny_low : w6.heap.size ≠ w16.heap.size := by have := Bly.lt; omega
            have nleft_low : gleft ≠ w16.heap.size := by have := Blleft.lt; omega
            have sz_low : w.heap.size ≤ w16.heap.size := hs.size
            replace hs := bStep hs hb
            replace Blc := Blc.mono hb
            replace Bld := Bld.mono hb
            replace Blsure := Blsure.mono hb
            replace Blx := Blx.mono hb
            replace Bly := Bly.mono hb
            replace Blleft := Blleft.mono hb
            replace h1 := h1.mono hb
            replace h2a := h2a.mono hb
            replace h2b := h2b.mono hb
            replace h3a := h3a.mono hb
            replace h3b := h3b.mono hb
            replace h4 := h4.mono hb
            replace h5 := h5.mono hb
            replace h8 := h8.mono hb
            replace h12 := h12.mono hb
            replace h13 := h13.mono hb
            replace cc_0 := cellK cc_0 hb
            replace cc_1 := cellK cc_1 hb
            replace cx_0 := cellK cx_0 hb
            replace cx_1 := cellK cx_1 hb
            replace cx_2 := cellK cx_2 hb
            replace cx_3 := cellK cx_3 hb
            replace cx_4 := cellK cx_4 hb
            replace cx_5 := cellK cx_5 hb
            clear hb hWn
            refine hK.out _ _ ⟨cc_0, cc_1, cx_0, cx_1, cx_2, cx_3, cx_4, cx_5⟩ (fun hH => ?_)
            clear hK K
            try simp only [Act.put, List.setIfInBounds_toArray, List.set_cons_zero, List.set_cons_succ]
            clear hH
            refine U_one (i := 5) (by kernel_rfl) rfl (fun K hK => ?_)
            go_simp
            (with_reducible refine (al_Tail_e2 _ HN.out HF.out h13 sxl CXL.out.1 CXL.out.2 (by omega) HTL.out).mono ?_)
            rintro e w18 ⟨_, rfl, h14, hb⟩
            obtain ⟨sh14, ah14, nh14, ch14, Ah14, Nh14, Ch14, rfl⟩ := h14.shape
            replace hs := bStep hs hb
            replace Blc := Blc.mono hb
            replace Bld := Bld.mono hb
            replace Blsure := Blsure.mono hb
            replace Blx := Blx.mono hb
            replace Bly := Bly.mono hb
            replace Blleft := Blleft.mono hb
            replace Bllow := Bllow.mono hb
            replace h1 := h1.mono hb
            replace h2a := h2a.mono hb
            replace h2b := h2b.mono hb
            replace h3a := h3a.mono hb
            replace h3b := h3b.mono hb
            replace h4 := h4.mono hb
            replace h5 := h5.mono hb
            replace h8 := h8.mono hb
            replace h12 := h12.mono hb
            replace h13 := h13.mono hb
            replace cc_0 := cellK cc_0 hb
            replace cc_1 := cellK cc_1 hb
            replace cx_0 := cellK cx_0 hb
            replace cx_1 := cellK cx_1 hb
            replace cx_2 := cellK cx_2 hb
            replace cx_3 := cellK cx_3 hb
            replace cx_4 := cellK cx_4 hb
            replace cx_5 := cellK cx_5 hb
            clear hb
            try go_wp2_with fail
            refine hK.out _ _ ⟨cc_0, cc_1, cx_0, cx_1, cx_2, cx_3, cx_4, cx_5⟩ (fun hH => ?_)
            clear hK K
            try simp only [Act.put, List.setIfInBounds_toArray, List.set_cons_zero, List.set_cons_succ]
            refine U_take (i := 6) (v := ?_) rfl (by kernel_rfl) (by kernel_rfl) (by kernel_rfl) (by kernel_rfl) (fun _ _ _ h => h) (Or.inl ⟨by rfl, ?_⟩) hH ?_
            rotate_left
            · intro w hSw
              try dsimp only at hSw
              go_simp
              try with_reducible rfl
            try simp only [Act.put, List.setIfInBounds_toArray, List.set_cons_zero, List.set_cons_succ]
            refine U_take (i := 7) (v := ?_) rfl (by kernel_rfl) (by kernel_rfl) (by kernel_rfl) (by kernel_rfl) (fun _ _ _ h => h) (Or.inl ⟨by rfl, ?_⟩) hH ?_
            rotate_left
            · intro w hSw
              try dsimp only at hSw
              go_simp
              try with_reducible rfl
            try simp only [Act.put, List.setIfInBounds_toArray, List.set_cons_zero, List.set_cons_succ]
            refine U_take (i := 8) (v := ?_) rfl (by kernel_rfl) (by kernel_rfl) (by kernel_rfl) (by kernel_rfl) (fun _ _ _ h => h) (Or.inl ⟨by rfl, ?_⟩) hH ?_
            rotate_left
            · intro w hSw
              try dsimp only at hSw
              go_simp
              try with_reducible rfl
            try simp only [Act.put, List.setIfInBounds_toArray, List.set_cons_zero, List.set_cons_succ]
            clear hH
            have clow_0 : w18.cell? ⟨w16.heap.size, 0, none⟩ = some (.bool false) := Bllow.at 0 rfl
            have clow_1 : w18.cell? ⟨w16.heap.size, 1, none⟩ = some (.slice none 0 0) := Bllow.at 1 rfl
            have clow_2 : w18.cell? ⟨w16.heap.size, 2, none⟩ = some (.slice none 0 0) := Bllow.at 2 rfl
            have flow := Bllow.free
            have Llow : w16.heap.size < w18.heap.size := Bllow.lt
            refine U_one (i := 10) (by kernel_rfl) rfl (fun K hK => ?_)
            go_simp
            generalize hW_ : (((w18.setCell ⟨w16.heap.size, 0, none⟩ (.bool sh14)).setCell ⟨w16.heap.size, 1, none⟩ (.slice ah14 nh14 ch14)).setCell ⟨w16.heap.size, 2, none⟩ (.slice Ah14 Nh14 Ch14)) = w19
            have hW := hW_.symm
            clear hW_
            have hG : Gr [w16.heap.size] w18 w19 := by rw [hW]; exact (Gr.refl _ _).set.set.set
            have hsz := hs.size
            have llow := Bllow.lt
            have hbw : Below w.heap.size w18 w19 := hG.below1 hs.size (by first | omega | assumption)
            have hk : KeepD w18 w19 := hG.keep ⟨⟨_, Bllow.ty, by decide⟩, True.intro⟩
            have Bl1low : Bx w19 (w16.heap.size) 26 #[.bool sh14, .slice ah14 nh14 ch14, .slice Ah14 Nh14 Ch14] := by rw [hW]; exact Bllow.set3
            replace hs := hs.trans hbw
            replace Blc := hG.bx Blc (notMem1 (by omega))
            replace Bld := hG.bx Bld (notMem1 (by omega))
            replace Blsure := hG.bx Blsure (notMem1 (by omega))
            replace Blx := hG.bx Blx (notMem1 (by omega))
            replace Bly := hG.bx Bly (notMem1 (by omega))
            replace Blleft := hG.bx Blleft (notMem1 (by omega))
            replace Bllow := Bl1low
            clear Bl1low
            replace h1 := h1.keep hk
            replace h2a := h2a.keep hk
            replace h2b := h2b.keep hk
            replace h3a := h3a.keep hk
            replace h3b := h3b.keep hk
            replace h4 := h4.keep hk
            replace h5 := h5.keep hk
            replace h8 := h8.keep hk
            replace h12 := h12.keep hk
            replace h13 := h13.keep hk
            replace h14 := h14.keep hk
            replace cc_0 := hG.cell cc_0 (notMem1 (by dsimp only; omega))
            replace cc_1 := hG.cell cc_1 (notMem1 (by dsimp only; omega))
            replace cx_0 := hG.cell cx_0 (notMem1 (by dsimp only; omega))
            replace cx_1 := hG.cell cx_1 (notMem1 (by dsimp only; omega))
            replace cx_2 := hG.cell cx_2 (notMem1 (by dsimp only; omega))
            replace cx_3 := hG.cell cx_3 (notMem1 (by dsimp only; omega))
            replace cx_4 := hG.cell cx_4 (notMem1 (by dsimp only; omega))
            replace cx_5 := hG.cell cx_5 (notMem1 (by dsimp only; omega))
            clear hW hG hk hbw hsz llow
            refine hK.out _ _ ⟨cc_0, cc_1, cx_0, cx_1, cx_2, cx_3, cx_4, cx_5⟩ (fun hH => ?_)
            clear hK K
            try simp only [Act.put, List.setIfInBounds_toArray, List.set_cons_zero, List.set_cons_succ]
            clear hH
            refine U_last (by kernel_rfl) rfl (by kernel_rfl) (fun K hK => ?_)
            go_simp
            refine hK.out _ _ ?_
            clear hK K
            intro wl hW
            rw [hW]
            clear hW wl
            try simp only [Act.put, List.setIfInBounds_toArray, List.set_cons_zero, List.set_cons_succ]
            clear cc_0 cc_1 cx_0 cx_1 cx_2 cx_3 cx_4 cx_5
            go_wp2_with fail
            go_meet
            exact ⟨w16.heap.size, _, _, _, _, _, _, _, rfl, rfl, (by first | exact sz_low | omega), (by omega), (by omega), (by omega), (by omega), (by omega), (by omega), Bllow, hs, Blc, Bld, Blsure, Blx, Bly, Blleft, h1, h2a, h2b, h3a, h3b, h4, h5, h8, h12, h14⟩
        · clear hH
          go_simp
          generalize hWn : (w15.alloc (.cells #[.bool false, .slice none 0 0, .slice none 0 0] 26)) = w16
          have hb : Below w15.heap.size w15 w16 := by rw [← hWn]; exact (Below.refl _ _).alloc (Nat.le_refl _) _
          have Bllow : Bx w16 (w15.heap.size) 26 #[.bool false, .slice none 0 0, .slice none 0 0] := by rw [← hWn]; exact Bx.new _ _ _
          have nc_low : w.heap.size ≠ w15.heap.size := by have := Blc.lt; omega
          have nd_low : w.heap.size + 1 ≠ w15.heap.size := by have := Bld.lt; omega
          have nsure_low : w2.heap.size ≠ w15.heap.size := by have := Blsure.lt; omega
          have nx_low : w4.heap.size ≠ w15.heap.size := by have := Blx.lt; omega
          have ny_low : w6.heap.size ≠ w15.heap.size := by have := Bly.lt; omega
          have nleft_low : gleft ≠ w15.heap.size := by have := Blleft.lt; omega
          have sz_low : w.heap.size ≤ w15.heap.size := hs.size
          replace hs := bStep hs hb
          replace Blc := Blc.mono hb
          replace Bld := Bld.mono hb
          replace Blsure := Blsure.mono hb
          replace Blx := Blx.mono hb
          replace Bly := Bly.mono hb
          replace Blleft := Blleft.mono hb
          replace h1 := h1.mono hb
          replace h2a := h2a.mono hb
          replace h2b := h2b.mono hb
          replace h3a := h3a.mono hb
          replace h3b := h3b.mono hb
          replace h4 := h4.mono hb
          replace h5 := h5.mono hb
          replace h8 := h8.mono hb
          replace h12 := h12.mono hb
          replace cc_0 := cellK cc_0 hb
          replace cc_1 := cellK cc_1 hb
          replace cx_0 := cellK cx_0 hb
          replace cx_1 := cellK cx_1 hb
          replace cx_2 := cellK cx_2 hb
          replace cx_3 := cellK cx_3 hb
          replace cx_4 := cellK cx_4 hb
          replace cx_5 := cellK cx_5 hb
          clear hb hWn
          refine hK.out _ _ ⟨cc_0, cc_1, cx_0, cx_1, cx_2, cx_3, cx_4, cx_5⟩ (fun hH => ?_)
          clear hK K
          try simp only [Act.put, List.setIfInBounds_toArray, List.set_cons_zero, List.set_cons_succ]
          clear hH
          refine U_one (i := 4) (by kernel_rfl) rfl (fun K hK => ?_)
          go_simp
          (with_reducible refine (p_Lo _ _ _ _ (PV2.mk h2a h2b)).mono ?_)
          rintro e w17 ⟨_, rfl, h13, hb⟩
          obtain ⟨sh13, ah13, nh13, ch13, Ah13, Nh13, Ch13, rfl⟩ := h13.shape
          replace hs := bStep hs hb
          replace Blc := Blc.mono hb
          replace Bld := Bld.mono hb
          replace Blsure := Blsure.mono hb
          replace Blx := Blx.mono hb
          replace Bly := Bly.mono hb
          replace Blleft := Blleft.mono hb
          replace Bllow := Bllow.mono hb
          replace h1 := h1.mono hb
          replace h2a := h2a.mono hb
          replace h2b := h2b.mono hb
          replace h3a := h3a.mono hb
          replace h3b := h3b.mono hb
          replace h4 := h4.mono hb
          replace h5 := h5.mono hb
          replace h8 := h8.mono hb
          replace h12 := h12.mono hb
          replace cc_0 := cellK cc_0 hb
          replace cc_1 := cellK cc_1 hb
          replace cx_0 := cellK cx_0 hb
          replace cx_1 := cellK cx_1 hb
          replace cx_2 := cellK cx_2 hb
          replace cx_3 := cellK cx_3 hb
          replace cx_4 := cellK cx_4 hb
          replace cx_5 := cellK cx_5 hb
          clear hb
          try go_wp2_with fail
          refine hK.out _ _ ⟨cc_0, cc_1, cx_0, cx_1, cx_2, cx_3, cx_4, cx_5⟩ (fun hH => ?_)
          clear hK K
          try simp only [Act.put, List.setIfInBounds_toArray, List.set_cons_zero, List.set_cons_succ]
          clear hH
          refine U_one (i := 5) (by kernel_rfl) rfl (fun K hK => ?_)
          go_simp
          (with_reducible refine (al_Tail_e2 _ HN.out HF.out h13 sxl CXL.out.1 CXL.out.2 (by omega) HTL.out).mono ?_)
          rintro e w18 ⟨_, rfl, h14, hb⟩
          obtain ⟨sh14, ah14, nh14, ch14, Ah14, Nh14, Ch14, rfl⟩ := h14.shape
          replace hs := bStep hs hb
          replace Blc := Blc.mono hb
          replace Bld := Bld.mono hb
          replace Blsure := Blsure.mono hb
          replace Blx := Blx.mono hb
          replace Bly := Bly.mono hb
          replace Blleft := Blleft.mono hb
          replace Bllow := Bllow.mono hb
          replace h1 := h1.mono hb
          replace h2a := h2a.mono hb
          replace h2b := h2b.mono hb
          replace h3a := h3a.mono hb
          replace h3b := h3b.mono hb
          replace h4 := h4.mono hb
          replace h5 := h5.mono hb
          replace h8 := h8.mono hb
          replace h12 := h12.mono hb
          replace h13 := h13.mono hb
          replace cc_0 := cellK cc_0 hb
          replace cc_1 := cellK cc_1 hb
          replace cx_0 := cellK cx_0 hb
          replace cx_1 := cellK cx_1 hb
          replace cx_2 := cellK cx_2 hb
          replace cx_3 := cellK cx_3 hb
          replace cx_4 := cellK cx_4 hb
          replace cx_5 := cellK cx_5 hb
          clear hb
          try go_wp2_with fail
          refine hK.out _ _ ⟨cc_0, cc_1, cx_0, cx_1, cx_2, cx_3, cx_4, cx_5⟩ (fun hH => ?_)
          clear hK K
          try simp only [Act.put, List.setIfInBounds_toArray, List.set_cons_zero, List.set_cons_succ]
          refine U_take (i := 6) (v := ?_) rfl (by kernel_rfl) (by kernel_rfl) (by kernel_rfl) (by kernel_rfl) (fun _ _ _ h => h) (Or.inl ⟨by rfl, ?_⟩) hH ?_
          rotate_left
          · intro w hSw
            try dsimp only at hSw
            go_simp
            try with_reducible rfl
          try simp only [Act.put, List.setIfInBounds_toArray, List.set_cons_zero, List.set_cons_succ]
          refine U_take (i := 7) (v := ?_) rfl (by kernel_rfl) (by kernel_rfl) (by kernel_rfl) (by kernel_rfl) (fun _ _ _ h => h) (Or.inl ⟨by rfl, ?_⟩) hH ?_
          rotate_left
          · intro w hSw
            try dsimp only at hSw
            go_simp
            try with_reducible rfl
          try simp only [Act.put, List.setIfInBounds_toArray, List.set_cons_zero, List.set_cons_succ]
          refine U_take (i := 8) (v := ?_) rfl (by kernel_rfl) (by kernel_rfl) (by kernel_rfl) (by kernel_rfl) (fun _ _ _ h => h) (Or.inl ⟨by rfl, ?_⟩) hH ?_
          rotate_left
          · intro w hSw
            try dsimp only at hSw
            go_simp
            try with_reducible rfl
          try simp only [Act.put, List.setIfInBounds_toArray, List.set_cons_zero, List.set_cons_succ]
          clear hH
          have clow_0 : w18.cell? ⟨w15.heap.size, 0, none⟩ = some (.bool false) := Bllow.at 0 rfl
          have clow_1 : w18.cell? ⟨w15.heap.size, 1, none⟩ = some (.slice none 0 0) := Bllow.at 1 rfl
          have clow_2 : w18.cell? ⟨w15.heap.size, 2, none⟩ = some (.slice none 0 0) := Bllow.at 2 rfl
          have flow := Bllow.free
          have Llow : w15.heap.size < w18.heap.size := Bllow.lt
          refine U_one (i := 10) (by kernel_rfl) rfl (fun K hK => ?_)
          go_simp
          generalize hW_ : (((w18.setCell ⟨w15.heap.size, 0, none⟩ (.bool sh14)).setCell ⟨w15.heap.size, 1, none⟩ (.slice ah14 nh14 ch14)).setCell ⟨w15.heap.size, 2, none⟩ (.slice Ah14 Nh14 Ch14)) = w19
          have hW := hW_.symm
          clear hW_
          have hG : Gr [w15.heap.size] w18 w19 := by rw [hW]; exact (Gr.refl _ _).set.set.set
          have hsz := hs.size
          have llow := Bllow.lt
          have hbw : Below w.heap.size w18 w19 := hG.below1 hs.size (by first | omega | assumption)
          have hk : KeepD w18 w19 := hG.keep ⟨⟨_, Bllow.ty, by decide⟩, True.intro⟩
          have Bl1low : Bx w19 (w15.heap.size) 26 #[.bool sh14, .slice ah14 nh14 ch14, .slice Ah14 Nh14 Ch14] := by rw [hW]; exact Bllow.set3
          replace hs := hs.trans hbw
          replace Blc := hG.bx Blc (notMem1 (by omega))
          replace Bld := hG.bx Bld (notMem1 (by omega))
          replace Blsure := hG.bx Blsure (notMem1 (by omega))
          replace Blx := hG.bx Blx (notMem1 (by omega))
          replace Bly := hG.bx Bly (notMem1 (by omega))
          replace Blleft := hG.bx Blleft (notMem1 (by omega))
          replace Bllow := Bl1low
          clear Bl1low
          replace h1 := h1.keep hk
          replace h2a := h2a.keep hk
          replace h2b := h2b.keep hk
          replace h3a := h3a.keep hk
          replace h3b := h3b.keep hk
          replace h4 := h4.keep hk
          replace h5 := h5.keep hk
          replace h8 := h8.keep hk
          replace h12 := h12.keep hk
          replace h13 := h13.keep hk
          replace h14 := h14.keep hk
          replace cc_0 := hG.cell cc_0 (notMem1 (by dsimp only; omega))
          replace cc_1 := hG.cell cc_1 (notMem1 (by dsimp only; omega))
          replace cx_0 := hG.cell cx_0 (notMem1 (by dsimp only; omega))
          replace cx_1 := hG.cell cx_1 (notMem1 (by dsimp only; omega))
          replace cx_2 := hG.cell cx_2 (notMem1 (by dsimp only; omega))
          replace cx_3 := hG.cell cx_3 (notMem1 (by dsimp only; omega))
          replace cx_4 := hG.cell cx_4 (notMem1 (by dsimp only; omega))
          replace cx_5 := hG.cell cx_5 (notMem1 (by dsimp only; omega))
          clear hW hG hk hbw hsz llow
          refine hK.out _ _ ⟨cc_0, cc_1, cx_0, cx_1, cx_2, cx_3, cx_4, cx_5⟩ (fun hH => ?_)
          clear hK K
          try simp only [Act.put, List.setIfInBounds_toArray, List.set_cons_zero, List.set_cons_succ]
          clear hH
          refine U_last (by kernel_rfl) rfl (by kernel_rfl) (fun K hK => ?_)
          go_simp
          refine hK.out _ _ ?_
          clear hK K
          intro wl hW
          rw [hW]
          clear hW wl
          try simp only [Act.put, List.setIfInBounds_toArray, List.set_cons_zero, List.set_cons_succ]
          clear cc_0 cc_1 cx_0 cx_1 cx_2 cx_3 cx_4 cx_5
          go_wp2_with fail
          go_meet
          exact ⟨w15.heap.size, _, _, _, _, _, _, _, rfl, rfl, (by first | exact sz_low | omega), (by omega), (by omega), (by omega), (by omega), (by omega), (by omega), Bllow, hs, Blc, Bld, Blsure, Blx, Bly, Blleft, h1, h2a, h2b, h3a, h3b, h4, h5, h8, h12, h14⟩
      case rest =>
        clear hs Blc Bld Blsure Blx Bly Blleft h1 h2a h2b h3a h3b h4 h5 h8 h12
        obtain ⟨glow, sh14, ah14, nh14, ch14, Ah14, Nh14, Ch14, rfl, rfl, hg_low, ng_low_c, ng_low_d, ng_low_sure, ng_low_x, ng_low_y, ng_low_left, Bllow, hs, Blc, Bld, Blsure, Blx, Bly, Blleft, h1, h2a, h2b, h3a, h3b, h4, h5, h8, h12, h14⟩ := hcut
        go_upto_region 13 with fail
        go_cut [21, 18] (fun kv0 kx0 wz => ∃ ghigh sh16 ah16 nh16 ch16 Ah16 Nh16 Ch16, kv0 = .pointer (some ⟨ghigh, 0, none⟩) ∧ kx0 = .int .i64 0 ∧ w.heap.size ≤ ghigh ∧ ghigh ≠ w.heap.size ∧ ghigh ≠ (w.heap.size + 1) ∧ ghigh ≠ w2.heap.size ∧ ghigh ≠ w4.heap.size ∧ ghigh ≠ w6.heap.size ∧ ghigh ≠ gleft ∧ ghigh ≠ glow ∧ Bx wz ghigh 26 #[.bool sh16, .slice ah16 nh16 ch16, .slice Ah16 Nh16 Ch16] ∧ Below w.heap.size w wz ∧ Bx wz (w.heap.size) 48 #[.int .i64 (1 + t % 10), .int .i64 (o % (1 + t % 10 + 1))] ∧ Bx wz (w.heap.size + 1) 48 #[.int .i64 (1 + t % 10), .int .i64 (min (1 + t % 10) (o % (1 + t % 10 + 1) + m % 4))] ∧ Bx wz (w2.heap.size) 26 #[.bool sh1, .slice ah1 nh1 ch1, .slice Ah1 Nh1 Ch1] ∧ Bx wz (w4.heap.size) 50 #[.bool sh2a, .slice ah2a nh2a ch2a, .slice Ah2a Nh2a Ch2a, .bool sh2b, .slice ah2b nh2b ch2b, .slice Ah2b Nh2b Ch2b] ∧ Bx wz (w6.heap.size) 50 #[.bool sh3a, .slice ah3a nh3a ch3a, .slice Ah3a Nh3a Ch3a, .bool sh3b, .slice ah3b nh3b ch3b, .slice Ah3b Nh3b Ch3b] ∧ Bx wz (gleft) 26 #[.bool sh12, .slice ah12 nh12 ch12, .slice Ah12 Nh12 Ch12] ∧ Bx wz (glow) 26 #[.bool sh14, .slice ah14 nh14 ch14, .slice Ah14 Nh14 Ch14] ∧ PV wz (.agg #[.bool sh1, .slice ah1 nh1 ch1, .slice Ah1 Nh1 Ch1]) (u) ∧ PV wz (.agg #[.bool sh2a, .slice ah2a nh2a ch2a, .slice Ah2a Nh2a Ch2a]) (xl) ∧ PV wz (.agg #[.bool sh2b, .slice ah2b nh2b ch2b, .slice Ah2b Nh2b Ch2b]) (xh) ∧ PV wz (.agg #[.bool sh3a, .slice ah3a nh3a ch3a, .slice Ah3a Nh3a Ch3a]) (yl) ∧ PV wz (.agg #[.bool sh3b, .slice ah3b nh3b ch3b, .slice Ah3b Nh3b Ch3b]) (yh) ∧ PV wz (.agg #[.bool sh4, .slice ah4 nh4 ch4, .slice Ah4 Nh4 Ch4]) (yl) ∧ PV wz (.agg #[.bool sh5, .slice ah5 nh5 ch5, .slice Ah5 Nh5 Ch5]) (xl) ∧ PV wz (.agg #[.bool sh8, .slice ah8 nh8 ch8, .slice Ah8 Nh8 Ch8]) (xh - xl) ∧ PV wz (.agg #[.bool sh12, .slice ah12 nh12 ch12, .slice Ah12 Nh12 Ch12]) (1 - u) ∧ PV wz (.agg #[.bool sh14, .slice ah14 nh14 ch14, .slice Ah14 Nh14 Ch14]) (tl) ∧ PV wz (.agg #[.bool sh16, .slice ah16 nh16 ch16, .slice Ah16 Nh16 Ch16]) (th))
        case first =>
          refine U_region (S := fun w' => w'.cell? ⟨w.heap.size, 0, none⟩ = some (.int .i64 (1 + t % 10)) ∧ w'.cell? ⟨w.heap.size, 1, none⟩ = some (.int .i64 (o % (1 + t % 10 + 1))) ∧ w'.cell? ⟨w4.heap.size, 0, none⟩ = some (.bool sh2a) ∧ w'.cell? ⟨w4.heap.size, 1, none⟩ = some (.slice ah2a nh2a ch2a) ∧ w'.cell? ⟨w4.heap.size, 2, none⟩ = some (.slice Ah2a Nh2a Ch2a) ∧ w'.cell? ⟨w4.heap.size, 3, none⟩ = some (.bool sh2b) ∧ w'.cell? ⟨w4.heap.size, 4, none⟩ = some (.slice ah2b nh2b ch2b) ∧ w'.cell? ⟨w4.heap.size, 5, none⟩ = some (.slice Ah2b Nh2b Ch2b)) (by kernel_rfl) 11 ?_
          refine AnyU.abs ?_
          intro w15 hW
          have hb : Below wc.heap.size wc w15 := by rw [hW]; exact bDrew _
          replace hs := bStep hs hb
          replace Blc := Blc.mono hb
          replace Bld := Bld.mono hb
          replace Blsure := Blsure.mono hb
          replace Blx := Blx.mono hb
          replace Bly := Bly.mono hb
          replace Blleft := Blleft.mono hb
          replace Bllow := Bllow.mono hb
          replace h1 := h1.mono hb
          replace h2a := h2a.mono hb
          replace h2b := h2b.mono hb
          replace h3a := h3a.mono hb
          replace h3b := h3b.mono hb
          replace h4 := h4.mono hb
          replace h5 := h5.mono hb
          replace h8 := h8.mono hb
          replace h12 := h12.mono hb
          replace h14 := h14.mono hb
          clear hb hW
          have cc_0 : w15.cell? ⟨w.heap.size, 0, none⟩ = some (.int .i64 (1 + t % 10)) := Blc.at 0 rfl
          have cc_1 : w15.cell? ⟨w.heap.size, 1, none⟩ = some (.int .i64 (o % (1 + t % 10 + 1))) := Blc.at 1 rfl
          have cx_0 : w15.cell? ⟨w4.heap.size, 0, none⟩ = some (.bool sh2a) := Blx.at 0 rfl
          have cx_1 : w15.cell? ⟨w4.heap.size, 1, none⟩ = some (.slice ah2a nh2a ch2a) := Blx.at 1 rfl
          have cx_2 : w15.cell? ⟨w4.heap.size, 2, none⟩ = some (.slice Ah2a Nh2a Ch2a) := Blx.at 2 rfl
          have cx_3 : w15.cell? ⟨w4.heap.size, 3, none⟩ = some (.bool sh2b) := Blx.at 3 rfl
          have cx_4 : w15.cell? ⟨w4.heap.size, 4, none⟩ = some (.slice ah2b nh2b ch2b) := Blx.at 4 rfl
          have cx_5 : w15.cell? ⟨w4.heap.size, 5, none⟩ = some (.slice Ah2b Nh2b Ch2b) := Blx.at 5 rfl
          have hH := (show w15.cell? ⟨w.heap.size, 0, none⟩ = some (.int .i64 (1 + t % 10)) ∧ w15.cell? ⟨w.heap.size, 1, none⟩ = some (.int .i64 (o % (1 + t % 10 + 1))) ∧ w15.cell? ⟨w4.heap.size, 0, none⟩ = some (.bool sh2a) ∧ w15.cell? ⟨w4.heap.size, 1, none⟩ = some (.slice ah2a nh2a ch2a) ∧ w15.cell? ⟨w4.heap.size, 2, none⟩ = some (.slice Ah2a Nh2a Ch2a) ∧ w15.cell? ⟨w4.heap.size, 3, none⟩ = some (.bool sh2b) ∧ w15.cell? ⟨w4.heap.size, 4, none⟩ = some (.slice ah2b nh2b ch2b) ∧ w15.cell? ⟨w4.heap.size, 5, none⟩ = some (.slice Ah2b Nh2b Ch2b) from ⟨cc_0, cc_1, cx_0, cx_1, cx_2, cx_3, cx_4, cx_5⟩)
          refine U_take (i := 0) (v := ?_) rfl (by kernel_rfl) (by kernel_rfl) (by kernel_rfl) (by kernel_rfl) (fun _ _ _ h => h) (Or.inl ⟨by rfl, ?_⟩) hH ?_
          rotate_left
          · intro w hSw
            try dsimp only at hSw
            go_simp
            try with_reducible rfl
          try simp only [Act.put, List.setIfInBounds_toArray, List.set_cons_zero, List.set_cons_succ]
          refine U_take (i := 1) (v := ?_) rfl (by kernel_rfl) (by kernel_rfl) (by kernel_rfl) (by kernel_rfl) (fun _ _ _ h => h) (Or.inl ⟨by rfl, ?_⟩) hH ?_
          rotate_left
          · intro w hSw
            try dsimp only at hSw
            go_simp
            try with_reducible rfl
          try simp only [Act.put, List.setIfInBounds_toArray, List.set_cons_zero, List.set_cons_succ]
          refine U_take (i := 2) (v := ?_) rfl (by kernel_rfl) (by kernel_rfl) (by kernel_rfl) (by kernel_rfl) (fun _ _ _ h => h) (Or.inl ⟨by rfl, ?_⟩) hH ?_
          rotate_left
          · intro w hSw
            try dsimp only at hSw
            go_simp
            try with_reducible rfl
          try simp only [Act.put, List.setIfInBounds_toArray, List.set_cons_zero, List.set_cons_succ]
          refine U_take (i := 3) (v := ?_) rfl (by kernel_rfl) (by kernel_rfl) (by kernel_rfl) (by kernel_rfl) (fun _ _ _ h => h) (Or.inl ⟨by rfl, ?_⟩) hH ?_
          rotate_left
          · intro w hSw
            try dsimp only at hSw
            go_simp
            try with_reducible rfl
          try simp only [Act.put, List.setIfInBounds_toArray, List.set_cons_zero, List.set_cons_succ]
          refine U_two (i := 4) (j := 9) (by kernel_rfl) rfl rfl (fun K hK => ?_) (fun K hK => ?_)
          · clear hH
            go_simp
            (with_reducible refine (p_Hi _ _ _ _ (PV2.mk h2a h2b)).mono ?_)
            rintro e w16 ⟨_, rfl, h15, hb⟩
            obtain ⟨sh15, ah15, nh15, ch15, Ah15, Nh15, Ch15, rfl⟩ := h15.shape
            replace hs := bStep hs hb
            replace Blc := Blc.mono hb
            replace Bld := Bld.mono hb
            replace Blsure := Blsure.mono hb
            replace Blx := Blx.mono hb
            replace Bly := Bly.mono hb
            replace Blleft := Blleft.mono hb
            replace Bllow := Bllow.mono hb
            replace h1 := h1.mono hb
            replace h2a := h2a.mono hb
            replace h2b := h2b.mono hb
            replace h3a := h3a.mono hb
            replace h3b := h3b.mono hb
            replace h4 := h4.mono hb
            replace h5 := h5.mono hb
            replace h8 := h8.mono hb
            replace h12 := h12.mono hb
            replace h14 := h14.mono hb
            replace cc_0 := cellK cc_0 hb
            replace cc_1 := cellK cc_1 hb
            replace cx_0 := cellK cx_0 hb
            replace cx_1 := cellK cx_1 hb
            replace cx_2 := cellK cx_2 hb
            replace cx_3 := cellK cx_3 hb
            replace cx_4 := cellK cx_4 hb
            replace cx_5 := cellK cx_5 hb
            clear hb
            try go_wp2_with fail
            refine hK.out _ _ ⟨cc_0, cc_1, cx_0, cx_1, cx_2, cx_3, cx_4, cx_5⟩ (fun hH => ?_)
            clear hK K
            try simp only [Act.put, List.setIfInBounds_toArray, List.set_cons_zero, List.set_cons_succ]
            refine U_two (i := 5) (j := 9) (by kernel_rfl) rfl rfl (fun K hK => ?_) (fun K hK => ?_)
            · clear hH
              go_simp
              (with_reducible refine (al_Tail_e2 _ HN.out HF.out h15 sxh CXH.out.1 CXH.out.2 (by omega) HTH.out).mono ?_)
              rintro e w17 ⟨_, rfl, h16, hb⟩
              obtain ⟨sh16, ah16, nh16, ch16, Ah16, Nh16, Ch16, rfl⟩ := h16.shape
              replace hs := bStep hs hb
              replace Blc := Blc.mono hb
              replace Bld := Bld.mono hb
              replace Blsure := Blsure.mono hb
              replace Blx := Blx.mono hb
              replace Bly := Bly.mono hb
              replace Blleft := Blleft.mono hb
              replace Bllow := Bllow.mono hb
              replace h1 := h1.mono hb
              replace h2a := h2a.mono hb
              replace h2b := h2b.mono hb
              replace h3a := h3a.mono hb
              replace h3b := h3b.mono hb
              replace h4 := h4.mono hb
              replace h5 := h5.mono hb
              replace h8 := h8.mono hb
              replace h12 := h12.mono hb
              replace h14 := h14.mono hb
              replace h15 := h15.mono hb
              replace cc_0 := cellK cc_0 hb
              replace cc_1 := cellK cc_1 hb
              replace cx_0 := cellK cx_0 hb
              replace cx_1 := cellK cx_1 hb
              replace cx_2 := cellK cx_2 hb
              replace cx_3 := cellK cx_3 hb
              replace cx_4 := cellK cx_4 hb
              replace cx_5 := cellK cx_5 hb
              clear hb
              try go_wp2_with fail
              refine hK.out _ _ ⟨cc_0, cc_1, cx_0, cx_1, cx_2, cx_3, cx_4, cx_5⟩ (fun hH => ?_)
              clear hK K
              try simp only [Act.put, List.setIfInBounds_toArray, List.set_cons_zero, List.set_cons_succ]
              refine U_take (i := 6) (v := ?_) rfl (by kernel_rfl) (by kernel_rfl) (by kernel_rfl) (by kernel_rfl) (fun _ _ _ h => h) (Or.inl ⟨by rfl, ?_⟩) hH ?_
              rotate_left
              · intro w hSw
                try dsimp only at hSw
                go_simp
                try with_reducible rfl
              try simp only [Act.put, List.setIfInBounds_toArray, List.set_cons_zero, List.set_cons_succ]
              refine U_take (i := 7) (v := ?_) rfl (by kernel_rfl) (by kernel_rfl) (by kernel_rfl) (by kernel_rfl) (fun _ _ _ h => h) (Or.inl ⟨by rfl, ?_⟩) hH ?_
              rotate_left
              · intro w hSw
                try dsimp only at hSw
                go_simp
                try with_reducible rfl
              try simp only [Act.put, List.setIfInBounds_toArray, List.set_cons_zero, List.set_cons_succ]
              refine U_take (i := 8) (v := ?_) rfl (by kernel_rfl) (by kernel_rfl) (by kernel_rfl) (by kernel_rfl) (fun _ _ _ h => h) (Or.inl ⟨by rfl, ?_⟩) hH ?_
              rotate_left
              · intro w hSw
                try dsimp only at hSw
                go_simp
                try with_reducible rfl
              try simp only [Act.put, List.setIfInBounds_toArray, List.set_cons_zero, List.set_cons_succ]
              clear hH
              refine U_one (i := 9) (by kernel_rfl) rfl (fun K hK => ?_)
              go_simp
              generalize hWn : (w17.alloc (.cells #[.bool false, .slice none 0 0, .slice none 0 0] 26)) = w18
              have hb : Below w17.heap.size w17 w18 := by rw [← hWn]; exact (Below.refl _ _).alloc (Nat.le_refl _) _
              have Blhigh : Bx w18 (w17.heap.size) 26 #[.bool false, .slice none 0 0, .slice none 0 0] := by rw [← hWn]; exact Bx.new _ _ _
              have nc_high : w.heap.size ≠ w17.heap.size := by have := Blc.lt; omega
              have nd_high : w.heap.size + 1 ≠ w17.heap.size := by have := Bld.lt; omega
              have nsure_high : w2.heap.size ≠ w17.heap.size := by have := Blsure.lt; omega
              have nx_high : w4.heap.size ≠ w17.heap.size := by have := Blx.lt; omega
              have ny_high : w6.heap.size ≠ w17.heap.size := by have := Bly.lt; omega
              have nleft_high : gleft ≠ w17.heap.size := by have := Blleft.lt; omega
              have nlow_high : glow ≠ w17.heap.size := by have := Bllow.lt; omega
              have sz_high : w.heap.size ≤ w17.heap.size := hs.size
              replace hs := bStep hs hb
              replace Blc := Blc.mono hb
              replace Bld := Bld.mono hb
              replace Blsure := Blsure.mono hb
              replace Blx := Blx.mono hb
              replace Bly := Bly.mono hb
              replace Blleft := Blleft.mono hb
              replace Bllow := Bllow.mono hb
              replace h1 := h1.mono hb
              replace h2a := h2a.mono hb
              replace h2b := h2b.mono hb
              replace h3a := h3a.mono hb
              replace h3b := h3b.mono hb
              replace h4 := h4.mono hb
              replace h5 := h5.mono hb
              replace h8 := h8.mono hb
              replace h12 := h12.mono hb
              replace h14 := h14.mono hb
              replace h15 := h15.mono hb
              replace h16 := h16.mono hb
              replace cc_0 := cellK cc_0 hb
              replace cc_1 := cellK cc_1 hb
              replace cx_0 := cellK cx_0 hb
              replace cx_1 := cellK cx_1 hb
              replace cx_2 := cellK cx_2 hb
              replace cx_3 := cellK cx_3 hb
              replace cx_4 := cellK cx_4 hb
              replace cx_5 := cellK cx_5 hb
              clear hb hWn
              refine hK.out _ _ ⟨cc_0, cc_1, cx_0, cx_1, cx_2, cx_3, cx_4, cx_5⟩ (fun hH => ?_)
              clear hK K
              try simp only [Act.put, List.setIfInBounds_toArray, List.set_cons_zero, List.set_cons_succ]
              clear hH
              have chigh_0 : w18.cell? ⟨w17.heap.size, 0, none⟩ = some (.bool false) := Blhigh.at 0 rfl
              have chigh_1 : w18.cell? ⟨w17.heap.size, 1, none⟩ = some (.slice none 0 0) := Blhigh.at 1 rfl
              have chigh_2 : w18.cell? ⟨w17.heap.size, 2, none⟩ = some (.slice none 0 0) := Blhigh.at 2 rfl
              have fhigh := Blhigh.free
              have Lhigh : w17.heap.size < w18.heap.size := Blhigh.lt
              refine U_one (i := 10) (by kernel_rfl) rfl (fun K hK => ?_)
              go_simp
              generalize hW_ : (((w18.setCell ⟨w17.heap.size, 0, none⟩ (.bool sh16)).setCell ⟨w17.heap.size, 1, none⟩ (.slice ah16 nh16 ch16)).setCell ⟨w17.heap.size, 2, none⟩ (.slice Ah16 Nh16 Ch16)) = w19
              have hW := hW_.symm
              clear hW_
              have hG : Gr [w17.heap.size] w18 w19 := by rw [hW]; exact (Gr.refl _ _).set.set.set
              have hsz := hs.size
              have lhigh := Blhigh.lt
              have hbw : Below w.heap.size w18 w19 := hG.below1 hs.size (by first | omega | assumption)
              have hk : KeepD w18 w19 := hG.keep ⟨⟨_, Blhigh.ty, by decide⟩, True.intro⟩
              have Bl1high : Bx w19 (w17.heap.size) 26 #[.bool sh16, .slice ah16 nh16 ch16, .slice Ah16 Nh16 Ch16] := by rw [hW]; exact Blhigh.set3
              replace hs := hs.trans hbw
              replace Blc := hG.bx Blc (notMem1 (by omega))
              replace Bld := hG.bx Bld (notMem1 (by omega))
              replace Blsure := hG.bx Blsure (notMem1 (by omega))
              replace Blx := hG.bx Blx (notMem1 (by omega))
              replace Bly := hG.bx Bly (notMem1 (by omega))
              replace Blleft := hG.bx Blleft (notMem1 (by omega))
              replace Bllow := hG.bx Bllow (notMem1 (by omega))
              replace Blhigh := Bl1high
              clear Bl1high
              replace h1 := h1.keep hk
              replace h2a := h2a.keep hk
              replace h2b := h2b.keep hk
              replace h3a := h3a.keep hk
              replace h3b := h3b.keep hk
              replace h4 := h4.keep hk
              replace h5 := h5.keep hk
              replace h8 := h8.keep hk
              replace h12 := h12.keep hk
              replace h14 := h14.keep hk
              replace h15 := h15.keep hk
              replace h16 := h16.keep hk
              replace cc_0 := hG.cell cc_0 (notMem1 (by dsimp only; omega))
              replace cc_1 := hG.cell cc_1 (notMem1 (by dsimp only; omega))
              replace cx_0 := hG.cell cx_0 (notMem1 (by dsimp only; omega))
              replace cx_1 := hG.cell cx_1 (notMem1 (by dsimp only; omega))
              replace cx_2 := hG.cell cx_2 (notMem1 (by dsimp only; omega))
              replace cx_3 := hG.cell cx_3 (notMem1 (by dsimp only; omega))
              replace cx_4 := hG.cell cx_4 (notMem1 (by dsimp only; omega))
              replace cx_5 := hG.cell cx_5 (notMem1 (by dsimp only; omega))
              clear hW hG hk hbw hsz lhigh
              refine hK.out _ _ ⟨cc_0, cc_1, cx_0, cx_1, cx_2, cx_3, cx_4, cx_5⟩ (fun hH => ?_)
              clear hK K
              try simp only [Act.put, List.setIfInBounds_toArray, List.set_cons_zero, List.set_cons_succ]
              clear hH
              refine U_last (by kernel_rfl) rfl (by kernel_rfl) (fun K hK => ?_)
              go_simp
              refine hK.out _ _ ?_
              clear hK K
              intro wl hW
              rw [hW]
              clear hW wl
              try simp only [Act.put, List.setIfInBounds_toArray, List.set_cons_zero, List.set_cons_succ]
              clear cc_0 cc_1 cx_0 cx_1 cx_2 cx_3 cx_4 cx_5
              go_wp2_with fail
              go_meet
              exact ⟨w17.heap.size, _, _, _, _, _, _, _, rfl, rfl, (by first | exact sz_high | omega), (by omega), (by omega), (by omega), (by omega), (by omega), (by omega), (by omega), Blhigh, hs, Blc, Bld, Blsure, Blx, Bly, Blleft, Bllow, h1, h2a, h2b, h3a, h3b, h4, h5, h8, h12, h14, h16⟩
            · clear hH
              go_simp
              generalize hWn : (w16.alloc (.cells #[.bool false, .slice none 0 0, .slice none 0 0] 26)) = w17
              have hb : Below w16.heap.size w16 w17 := by rw [← hWn]; exact (Below.refl _ _).alloc (Nat.le_refl _) _
              have Blhigh : Bx w17 (w16.heap.size) 26 #[.bool false, .slice none 0 0, .slice none 0 0] := by rw [← hWn]; exact Bx.new _ _ _
              have nc_high : w.heap.size ≠ w16.heap.size := by have := Blc.lt; omega
              have nd_high : w.heap.size + 1 ≠ w16.heap.size := by have := Bld.lt; omega
              have nsure_high : w2.heap.size ≠ w16.heap.size := by have := Blsure.lt; omega
              have nx_high : w4.heap.size ≠ w16.heap.size := by have := Blx.lt; omega
              have ny_high : w6.heap.size ≠ w16.heap.size := by have := Bly.lt; omega
              have nleft_high : gleft ≠ w16.heap.size := by have := Blleft.lt; omega
              have nlow_high : glow ≠ w16.heap.size := by have := Bllow.lt; omega
              have sz_high : w.heap.size ≤ w16.heap.size := hs.size
              replace hs := bStep hs hb
              replace Blc := Blc.mono hb
              replace Bld := Bld.mono hb
              replace Blsure := Blsure.mono hb
              replace Blx := Blx.mono hb
              replace Bly := Bly.mono hb
              replace Blleft := Blleft.mono hb
              replace Bllow := Bllow.mono hb
              replace h1 := h1.mono hb
              replace h2a := h2a.mono hb
              replace h2b := h2b.mono hb
              replace h3a := h3a.mono hb
              replace h3b := h3b.mono hb
              replace h4 := h4.mono hb
              replace h5 := h5.mono hb
              replace h8 := h8.mono hb
              replace h12 := h12.mono hb
              replace h14 := h14.mono hb
              replace h15 := h15.mono hb
              replace cc_0 := cellK cc_0 hb
              replace cc_1 := cellK cc_1 hb
              replace cx_0 := cellK cx_0 hb
              replace cx_1 := cellK cx_1 hb
              replace cx_2 := cellK cx_2 hb
              replace cx_3 := cellK cx_3 hb
              replace cx_4 := cellK cx_4 hb
              replace cx_5 := cellK cx_5 hb
              clear hb hWn
              refine hK.out _ _ ⟨cc_0, cc_1, cx_0, cx_1, cx_2, cx_3, cx_4, cx_5⟩ (fun hH => ?_)
              clear hK K
              try simp only [Act.put, List.setIfInBounds_toArray, List.set_cons_zero, List.set_cons_succ]
              clear hH
              refine U_one (i := 5) (by kernel_rfl) rfl (fun K hK => ?_)
              go_simp
              (with_reducible refine (al_Tail_e2 _ HN.out HF.out h15 sxh CXH.out.1 CXH.out.2 (by omega) HTH.out).mono ?_)
              rintro e w18 ⟨_, rfl, h16, hb⟩
              obtain ⟨sh16, ah16, nh16, ch16, Ah16, Nh16, Ch16, rfl⟩ := h16.shape
              replace hs := bStep hs hb
              replace Blc := Blc.mono hb
              replace Bld := Bld.mono hb
              replace Blsure := Blsure.mono hb
              replace Blx := Blx.mono hb
              replace Bly := Bly.mono hb
              replace Blleft := Blleft.mono hb
              replace Bllow := Bllow.mono hb
              replace Blhigh := Blhigh.mono hb
              replace h1 := h1.mono hb
              replace h2a := h2a.mono hb
              replace h2b := h2b.mono hb
              replace h3a := h3a.mono hb
              replace h3b := h3b.mono hb
              replace h4 := h4.mono hb
              replace h5 := h5.mono hb
              replace h8 := h8.mono hb
              replace h12 := h12.mono hb
              replace h14 := h14.mono hb
              replace h15 := h15.mono hb
              replace cc_0 := cellK cc_0 hb
              replace cc_1 := cellK cc_1 hb
              replace cx_0 := cellK cx_0 hb
              replace cx_1 := cellK cx_1 hb
              replace cx_2 := cellK cx_2 hb
              replace cx_3 := cellK cx_3 hb
              replace cx_4 := cellK cx_4 hb
              replace cx_5 := cellK cx_5 hb
              clear hb
              try go_wp2_with fail
              refine hK.out _ _ ⟨cc_0, cc_1, cx_0, cx_1, cx_2, cx_3, cx_4, cx_5⟩ (fun hH => ?_)
              clear hK K
              try simp only [Act.put, List.setIfInBounds_toArray, List.set_cons_zero, List.set_cons_succ]
              refine U_take (i := 6) (v := ?_) rfl (by kernel_rfl) (by kernel_rfl) (by kernel_rfl) (by kernel_rfl) (fun _ _ _ h => h) (Or.inl ⟨by rfl, ?_⟩) hH ?_
              rotate_left
              · intro w hSw
                try dsimp only at hSw
                go_simp
                try with_reducible rfl
              try simp only [Act.put, List.setIfInBounds_toArray, List.set_cons_zero, List.set_cons_succ]
              refine U_take (i := 7) (v := ?_) rfl (by kernel_rfl) (by kernel_rfl) (by kernel_rfl) (by kernel_rfl) (fun _ _ _ h => h) (Or.inl ⟨by rfl, ?_⟩) hH ?_
              rotate_left
              · intro w hSw
                try dsimp only at hSw
                go_simp
                try with_reducible rfl
              try simp only [Act.put, List.setIfInBounds_toArray, List.set_cons_zero, List.set_cons_succ]
              refine U_take (i := 8) (v := ?_) rfl (by kernel_rfl) (by kernel_rfl) (by kernel_rfl) (by kernel_rfl) (fun _ _ _ h => h) (Or.inl ⟨by rfl, ?_⟩) hH ?_
              rotate_left
              · intro w hSw
                try dsimp only at hSw
                go_simp
                try with_reducible rfl
              try simp only [Act.put, List.setIfInBounds_toArray, List.set_cons_zero, List.set_cons_succ]
              clear hH
              have chigh_0 : w18.cell? ⟨w16.heap.size, 0, none⟩ = some (.bool false) := Blhigh.at 0 rfl
              have chigh_1 : w18.cell? ⟨w16.heap.size, 1, none⟩ = some (.slice none 0 0) := Blhigh.at 1 rfl
              have chigh_2 : w18.cell? ⟨w16.heap.size, 2, none⟩ = some (.slice none 0 0) := Blhigh.at 2 rfl
              have fhigh := Blhigh.free
              have Lhigh : w16.heap.size < w18.heap.size := Blhigh.lt
              refine U_one (i := 10) (by kernel_rfl) rfl (fun K hK => ?_)
              go_simp
              generalize hW_ : (((w18.setCell ⟨w16.heap.size, 0, none⟩ (.bool sh16)).setCell ⟨w16.heap.size, 1, none⟩ (.slice ah16 nh16 ch16)).setCell ⟨w16.heap.size, 2, none⟩ (.slice Ah16 Nh16 Ch16)) = w19
              have hW := hW_.symm
              clear hW_
              have hG : Gr [w16.heap.size] w18 w19 := by rw [hW]; exact (Gr.refl _ _).set.set.set
              have hsz := hs.size
              have lhigh := Blhigh.lt
              have hbw : Below w.heap.size w18 w19 := hG.below1 hs.size (by first | omega | assumption)
              have hk : KeepD w18 w19 := hG.keep ⟨⟨_, Blhigh.ty, by decide⟩, True.intro⟩
              have Bl1high : Bx w19 (w16.heap.size) 26 #[.bool sh16, .slice ah16 nh16 ch16, .slice Ah16 Nh16 Ch16] := by rw [hW]; exact Blhigh.set3
              replace hs := hs.trans hbw
              replace Blc := hG.bx Blc (notMem1 (by omega))
              replace Bld := hG.bx Bld (notMem1 (by omega))
              replace Blsure := hG.bx Blsure (notMem1 (by omega))
              replace Blx := hG.bx Blx (notMem1 (by omega))
              replace Bly := hG.bx Bly (notMem1 (by omega))
              replace Blleft := hG.bx Blleft (notMem1 (by omega))
              replace Bllow := hG.bx Bllow (notMem1 (by omega))
              replace Blhigh := Bl1high
              clear Bl1high
              replace h1 := h1.keep hk
              replace h2a := h2a.keep hk
              replace h2b := h2b.keep hk
              replace h3a := h3a.keep hk
              replace h3b := h3b.keep hk
              replace h4 := h4.keep hk
              replace h5 := h5.keep hk
              replace h8 := h8.keep hk
              replace h12 := h12.keep hk
              replace h14 := h14.keep hk
              replace h15 := h15.keep hk
              replace h16 := h16.keep hk
              replace cc_0 := hG.cell cc_0 (notMem1 (by dsimp only; omega))
              replace cc_1 := hG.cell cc_1 (notMem1 (by dsimp only; omega))
              replace cx_0 := hG.cell cx_0 (notMem1 (by dsimp only; omega))
              replace cx_1 := hG.cell cx_1 (notMem1 (by dsimp only; omega))
              replace cx_2 := hG.cell cx_2 (notMem1 (by dsimp only; omega))
              replace cx_3 := hG.cell cx_3 (notMem1 (by dsimp only; omega))
              replace cx_4 := hG.cell cx_4 (notMem1 (by dsimp only; omega))
              replace cx_5 := hG.cell cx_5 (notMem1 (by dsimp only; omega))
              clear hW hG hk hbw hsz lhigh
              refine hK.out _ _ ⟨cc_0, cc_1, cx_0, cx_1, cx_2, cx_3, cx_4, cx_5⟩ (fun hH => ?_)
              clear hK K
              try simp only [Act.put, List.setIfInBounds_toArray, List.set_cons_zero, List.set_cons_succ]
              clear hH
              refine U_last (by kernel_rfl) rfl (by kernel_rfl) (fun K hK => ?_)
              go_simp
              refine hK.out _ _ ?_
              clear hK K
              intro wl hW
              rw [hW]
              clear hW wl
              try simp only [Act.put, List.setIfInBounds_toArray, List.set_cons_zero, List.set_cons_succ]
              clear cc_0 cc_1 cx_0 cx_1 cx_2 cx_3 cx_4 cx_5
              go_wp2_with fail
              go_meet
              exact ⟨w16.heap.size, _, _, _, _, _, _, _, rfl, rfl, (by first | exact sz_high | omega), (by omega), (by omega), (by omega), (by omega), (by omega), (by omega), (by omega), Blhigh, hs, Blc, Bld, Blsure, Blx, Bly, Blleft, Bllow, h1, h2a, h2b, h3a, h3b, h4, h5, h8, h12, h14, h16⟩
          · clear hH
            go_simp
            generalize hWn : (w15.alloc (.cells #[.bool false, .slice none 0 0, .slice none 0 0] 26)) = w16
            have hb : Below w15.heap.size w15 w16 := by rw [← hWn]; exact (Below.refl _ _).alloc (Nat.le_refl _) _
            have Blhigh : Bx w16 (w15.heap.size) 26 #[.bool false, .slice none 0 0, .slice none 0 0] := by rw [← hWn]; exact Bx.new _ _ _
            have nc_high : w.heap.size ≠ w15.heap.size := by have := Blc.lt; omega
            have nd_high : w.heap.size + 1 ≠ w15.heap.size := by have := Bld.lt; omega
            have nsure_high : w2.heap.size ≠ w15.heap.size := by have := Blsure.lt; omega
            have nx_high : w4.heap.size ≠ w15.heap.size := by have := Blx.lt; omega
            have ny_high : w6.heap.size ≠ w15.heap.size := by have := Bly.lt; omega
            have nleft_high : gleft ≠ w15.heap.size := by have := Blleft.lt; omega
            have nlow_high : glow ≠ w15.heap.size := by have := Bllow.lt; omega
            have sz_high : w.heap.size ≤ w15.heap.size := hs.size
            replace hs := bStep hs hb
            replace Blc := Blc.mono hb
            replace Bld := Bld.mono hb
            replace Blsure := Blsure.mono hb
            replace Blx := Blx.mono hb
            replace Bly := Bly.mono hb
            replace Blleft := Blleft.mono hb
            replace Bllow := Bllow.mono hb
            replace h1 := h1.mono hb
            replace h2a := h2a.mono hb
            replace h2b := h2b.mono hb
            replace h3a := h3a.mono hb
            replace h3b := h3b.mono hb
            replace h4 := h4.mono hb
            replace h5 := h5.mono hb
            replace h8 := h8.mono hb
            replace h12 := h12.mono hb
            replace h14 := h14.mono hb
            replace cc_0 := cellK cc_0 hb
            replace cc_1 := cellK cc_1 hb
            replace cx_0 := cellK cx_0 hb
            replace cx_1 := cellK cx_1 hb
            replace cx_2 := cellK cx_2 hb
            replace cx_3 := cellK cx_3 hb
            replace cx_4 := cellK cx_4 hb
            replace cx_5 := cellK cx_5 hb
            clear hb hWn
            refine hK.out _ _ ⟨cc_0, cc_1, cx_0, cx_1, cx_2, cx_3, cx_4, cx_5⟩ (fun hH => ?_)
            clear hK K
            try simp only [Act.put, List.setIfInBounds_toArray, List.set_cons_zero, List.set_cons_succ]
            clear hH
            refine U_one (i := 4) (by kernel_rfl) rfl (fun K hK => ?_)
            go_simp
            (with_reducible refine (p_Hi _ _ _ _ (PV2.mk h2a h2b)).mono ?_)
            rintro e w17 ⟨_, rfl, h15, hb⟩
            obtain ⟨sh15, ah15, nh15, ch15, Ah15, Nh15, Ch15, rfl⟩ := h15.shape
            replace hs := bStep hs hb
            replace Blc := Blc.mono hb
            replace Bld := Bld.mono hb
            replace Blsure := Blsure.mono hb
            replace Blx := Blx.mono hb
            replace Bly := Bly.mono hb
            replace Blleft := Blleft.mono hb
            replace Bllow := Bllow.mono hb
            replace Blhigh := Blhigh.mono hb
            replace h1 := h1.mono hb
            replace h2a := h2a.mono hb
            replace h2b := h2b.mono hb
            replace h3a := h3a.mono hb
            replace h3b := h3b.mono hb
            replace h4 := h4.mono hb
            replace h5 := h5.mono hb
            replace h8 := h8.mono hb
            replace h12 := h12.mono hb
            replace h14 := h14.mono hb
            replace cc_0 := cellK cc_0 hb
            replace cc_1 := cellK cc_1 hb
            replace cx_0 := cellK cx_0 hb
            replace cx_1 := cellK cx_1 hb
            replace cx_2 := cellK cx_2 hb
            replace cx_3 := cellK cx_3 hb
            replace cx_4 := cellK cx_4 hb
            replace cx_5 := cellK cx_5 hb
            clear hb
            try go_wp2_with fail
            refine hK.out _ _ ⟨cc_0, cc_1, cx_0, cx_1, cx_2, cx_3, cx_4, cx_5⟩ (fun hH => ?_)
            clear hK K
            try simp only [Act.put, List.setIfInBounds_toArray, List.set_cons_zero, List.set_cons_succ]
            clear hH
            refine U_one (i := 5) (by kernel_rfl) rfl (fun K hK => ?_)
            go_simp
            (with_reducible refine (al_Tail_e2 _ HN.out HF.out h15 sxh CXH.out.1 CXH.out.2 (by omega) HTH.out).mono ?_)
            rintro e w18 ⟨_, rfl, h16, hb⟩
            obtain ⟨sh16, ah16, nh16, ch16, Ah16, Nh16, Ch16, rfl⟩ := h16.shape
            replace hs := bStep hs hb
            replace Blc := Blc.mono hb
            replace Bld := Bld.mono hb
            replace Blsure := Blsure.mono hb
            replace Blx := Blx.mono hb
            replace Bly := Bly.mono hb
            replace Blleft := Blleft.mono hb
            replace Bllow := Bllow.mono hb
            replace Blhigh := Blhigh.mono hb
            replace h1 := h1.mono hb
            replace h2a := h2a.mono hb
            replace h2b := h2b.mono hb
            replace h3a := h3a.mono hb
            replace h3b := h3b.mono hb
            replace h4 := h4.mono hb
            replace h5 := h5.mono hb
            replace h8 := h8.mono hb
            replace h12 := h12.mono hb
            replace h14 := h14.mono hb
            replace h15 := h15.mono hb
            replace cc_0 := cellK cc_0 hb
            replace cc_1 := cellK cc_1 hb
            replace cx_0 := cellK cx_0 hb
            replace cx_1 := cellK cx_1 hb
            replace cx_2 := cellK cx_2 hb
            replace cx_3 := cellK cx_3 hb
            replace cx_4 := cellK cx_4 hb
            replace cx_5 := cellK cx_5 hb
            clear hb
            try go_wp2_with fail
            refine hK.out _ _ ⟨cc_0, cc_1, cx_0, cx_1, cx_2, cx_3, cx_4, cx_5⟩ (fun hH => ?_)
            clear hK K
            try simp only [Act.put, List.setIfInBounds_toArray, List.set_cons_zero, List.set_cons_succ]
            refine U_take (i := 6) (v := ?_) rfl (by kernel_rfl) (by kernel_rfl) (by kernel_rfl) (by kernel_rfl) (fun _ _ _ h => h) (Or.inl ⟨by rfl, ?_⟩) hH ?_
            rotate_left
            · intro w hSw
              try dsimp only at hSw
              go_simp
              try with_reducible rfl
            try simp only [Act.put, List.setIfInBounds_toArray, List.set_cons_zero, List.set_cons_succ]
            refine U_take (i := 7) (v := ?_) rfl (by kernel_rfl) (by kernel_rfl) (by kernel_rfl) (by kernel_rfl) (fun _ _ _ h => h) (Or.inl ⟨by rfl, ?_⟩) hH ?_
            rotate_left
            · intro w hSw
              try dsimp only at hSw
              go_simp
              try with_reducible rfl
            try simp only [Act.put, List.setIfInBounds_toArray, List.set_cons_zero, List.set_cons_succ]
            refine U_take (i := 8) (v := ?_) rfl (by kernel_rfl) (by kernel_rfl) (by kernel_rfl) (by kernel_rfl) (fun _ _ _ h => h) (Or.inl ⟨by rfl, ?_⟩) hH ?_
            rotate_left
            · intro w hSw
              try dsimp only at hSw
              go_simp
              try with_reducible rfl
            try simp only [Act.put, List.setIfInBounds_toArray, List.set_cons_zero, List.set_cons_succ]
            clear hH
            have chigh_0 : w18.cell? ⟨w15.heap.size, 0, none⟩ = some (.bool false) := Blhigh.at 0 rfl
            have chigh_1 : w18.cell? ⟨w15.heap.size, 1, none⟩ = some (.slice none 0 0) := Blhigh.at 1 rfl
            have chigh_2 : w18.cell? ⟨w15.heap.size, 2, none⟩ = some (.slice none 0 0) := Blhigh.at 2 rfl
            have fhigh := Blhigh.free
            have Lhigh : w15.heap.size < w18.heap.size := Blhigh.lt
            refine U_one (i := 10) (by kernel_rfl) rfl (fun K hK => ?_)
            go_simp
            generalize hW_ : (((w18.setCell ⟨w15.heap.size, 0, none⟩ (.bool sh16)).setCell ⟨w15.heap.size, 1, none⟩ (.slice ah16 nh16 ch16)).setCell ⟨w15.heap.size, 2, none⟩ (.slice Ah16 Nh16 Ch16)) = w19
            have hW := hW_.symm
            clear hW_
            have hG : Gr [w15.heap.size] w18 w19 := by rw [hW]; exact (Gr.refl _ _).set.set.set
            have hsz := hs.size
            have lhigh := Blhigh.lt
            have hbw : Below w.heap.size w18 w19 := hG.below1 hs.size (by first | omega | assumption)
            have hk : KeepD w18 w19 := hG.keep ⟨⟨_, Blhigh.ty, by decide⟩, True.intro⟩
            have Bl1high : Bx w19 (w15.heap.size) 26 #[.bool sh16, .slice ah16 nh16 ch16, .slice Ah16 Nh16 Ch16] := by rw [hW]; exact Blhigh.set3
            replace hs := hs.trans hbw
            replace Blc := hG.bx Blc (notMem1 (by omega))
            replace Bld := hG.bx Bld (notMem1 (by omega))
            replace Blsure := hG.bx Blsure (notMem1 (by omega))
            replace Blx := hG.bx Blx (notMem1 (by omega))
            replace Bly := hG.bx Bly (notMem1 (by omega))
            replace Blleft := hG.bx Blleft (notMem1 (by omega))
            replace Bllow := hG.bx Bllow (notMem1 (by omega))
            replace Blhigh := Bl1high
            clear Bl1high
            replace h1 := h1.keep hk
            replace h2a := h2a.keep hk
            replace h2b := h2b.keep hk
            replace h3a := h3a.keep hk
            replace h3b := h3b.keep hk
            replace h4 := h4.keep hk
            replace h5 := h5.keep hk
            replace h8 := h8.keep hk
            replace h12 := h12.keep hk
            replace h14 := h14.keep hk
            replace h15 := h15.keep hk
            replace h16 := h16.keep hk
            replace cc_0 := hG.cell cc_0 (notMem1 (by dsimp only; omega))
            replace cc_1 := hG.cell cc_1 (notMem1 (by dsimp only; omega))
            replace cx_0 := hG.cell cx_0 (notMem1 (by dsimp only; omega))
            replace cx_1 := hG.cell cx_1 (notMem1 (by dsimp only; omega))
            replace cx_2 := hG.cell cx_2 (notMem1 (by dsimp only; omega))
            replace cx_3 := hG.cell cx_3 (notMem1 (by dsimp only; omega))
            replace cx_4 := hG.cell cx_4 (notMem1 (by dsimp only; omega))
            replace cx_5 := hG.cell cx_5 (notMem1 (by dsimp only; omega))
            clear hW hG hk hbw hsz lhigh
            refine hK.out _ _ ⟨cc_0, cc_1, cx_0, cx_1, cx_2, cx_3, cx_4, cx_5⟩ (fun hH => ?_)
            clear hK K
            try simp only [Act.put, List.setIfInBounds_toArray, List.set_cons_zero, List.set_cons_succ]
            clear hH
            refine U_last (by kernel_rfl) rfl (by kernel_rfl) (fun K hK => ?_)
            go_simp
            refine hK.out _ _ ?_
            clear hK K
            intro wl hW
            rw [hW]
            clear hW wl
            try simp only [Act.put, List.setIfInBounds_toArray, List.set_cons_zero, List.set_cons_succ]
            clear cc_0 cc_1 cx_0 cx_1 cx_2 cx_3 cx_4 cx_5
            go_wp2_with fail
            go_meet
            exact ⟨w15.heap.size, _, _, _, _, _, _, _, rfl, rfl, (by first | exact sz_high | omega), (by omega), (by omega), (by omega), (by omega), (by omega), (by omega), (by omega), Blhigh, hs, Blc, Bld, Blsure, Blx, Bly, Blleft, Bllow, h1, h2a, h2b, h3a, h3b, h4, h5, h8, h12, h14, h16⟩
        case rest =>
          clear hs Blc Bld Blsure Blx Bly Blleft Bllow h1 h2a h2b h3a h3b h4 h5 h8 h12 h14
          obtain ⟨ghigh, sh16, ah16, nh16, ch16, Ah16, Nh16, Ch16, rfl, rfl, hg_high, ng_high_c, ng_high_d, ng_high_sure, ng_high_x, ng_high_y, ng_high_left, ng_high_low, Blhigh, hs, Blc, Bld, Blsure, Blx, Bly, Blleft, Bllow, h1, h2a, h2b, h3a, h3b, h4, h5, h8, h12, h14, h16⟩ := hcut
          have clow_0 : wc.cell? ⟨glow, 0, none⟩ = some (.bool sh14) := Bllow.at 0 rfl
          have clow_1 : wc.cell? ⟨glow, 1, none⟩ = some (.slice ah14 nh14 ch14) := Bllow.at 1 rfl
          have clow_2 : wc.cell? ⟨glow, 2, none⟩ = some (.slice Ah14 Nh14 Ch14) := Bllow.at 2 rfl
          have Llow : glow < wc.heap.size := Bllow.lt
          have cleft_0 : wc.cell? ⟨gleft, 0, none⟩ = some (.bool sh12) := Blleft.at 0 rfl
          have cleft_1 : wc.cell? ⟨gleft, 1, none⟩ = some (.slice ah12 nh12 ch12) := Blleft.at 1 rfl
          have cleft_2 : wc.cell? ⟨gleft, 2, none⟩ = some (.slice Ah12 Nh12 Ch12) := Blleft.at 2 rfl
          have Lleft : gleft < wc.heap.size := Blleft.lt
          go_wp2_with fail
          clear clow_0 clow_1 clow_2 cleft_0 cleft_1 cleft_2 Llow Lleft
          with_reducible refine (pCmp h14 h12 (SzQ.fit stl) (SzQ.fit (SzQ.sub szQ_one su))).mono ?_
          rintro e w15 ⟨rfl, hb⟩
          replace hs := bStep hs hb
          replace Blc := Blc.mono hb
          replace Bld := Bld.mono hb
          replace Blsure := Blsure.mono hb
          replace Blx := Blx.mono hb
          replace Bly := Bly.mono hb
          replace Blleft := Blleft.mono hb
          replace Bllow := Bllow.mono hb
          replace Blhigh := Blhigh.mono hb
          replace h1 := h1.mono hb
          replace h2a := h2a.mono hb
          replace h2b := h2b.mono hb
          replace h3a := h3a.mono hb
          replace h3b := h3b.mono hb
          replace h4 := h4.mono hb
          replace h5 := h5.mono hb
          replace h8 := h8.mono hb
          replace h12 := h12.mono hb
          replace h14 := h14.mono hb
          replace h16 := h16.mono hb
          clear hb
          obtain ⟨sg17, Hsg17⟩ : ∃ s : Int, s = sgQ (tl - (1 - u)) := ⟨_, rfl⟩
          rw [← Hsg17]
          replace Hsg17 := Lib.hid Hsg17
          have q18 : tl ≤ 1 - u := (HOK.out.2.2.2 q10H.out).1
          have q18_ : sg17 ≤ 0 := by have h := sq_le tl (1 - u); rw [← Hsg17.out] at h; exact h.2 q18
          have q18H := Lib.hid q18
          clear q18
          have q18d : decide (sg17 ≤ 0) = true := decide_eq_true q18_
          have chigh_0 : w15.cell? ⟨ghigh, 0, none⟩ = some (.bool sh16) := Blhigh.at 0 rfl
          have chigh_1 : w15.cell? ⟨ghigh, 1, none⟩ = some (.slice ah16 nh16 ch16) := Blhigh.at 1 rfl
          have chigh_2 : w15.cell? ⟨ghigh, 2, none⟩ = some (.slice Ah16 Nh16 Ch16) := Blhigh.at 2 rfl
          have Lhigh : ghigh < w15.heap.size := Blhigh.lt
          have cleft_0 : w15.cell? ⟨gleft, 0, none⟩ = some (.bool sh12) := Blleft.at 0 rfl
          have cleft_1 : w15.cell? ⟨gleft, 1, none⟩ = some (.slice ah12 nh12 ch12) := Blleft.at 1 rfl
          have cleft_2 : w15.cell? ⟨gleft, 2, none⟩ = some (.slice Ah12 Nh12 Ch12) := Blleft.at 2 rfl
          have Lleft : gleft < w15.heap.size := Blleft.lt
          go_wp2_with fail
          clear chigh_0 chigh_1 chigh_2 cleft_0 cleft_1 cleft_2 Lhigh Lleft
          with_reducible refine (pCmp h16 h12 (SzQ.fit sth) (SzQ.fit (SzQ.sub szQ_one su))).mono ?_
          rintro e w16 ⟨rfl, hb⟩
          replace hs := bStep hs hb
          replace Blc := Blc.mono hb
          replace Bld := Bld.mono hb
          replace Blsure := Blsure.mono hb
          replace Blx := Blx.mono hb
          replace Bly := Bly.mono hb
          replace Blleft := Blleft.mono hb
          replace Bllow := Bllow.mono hb
          replace Blhigh := Blhigh.mono hb
          replace h1 := h1.mono hb
          replace h2a := h2a.mono hb
          replace h2b := h2b.mono hb
          replace h3a := h3a.mono hb
          replace h3b := h3b.mono hb
          replace h4 := h4.mono hb
          replace h5 := h5.mono hb
          replace h8 := h8.mono hb
          replace h12 := h12.mono hb
          replace h14 := h14.mono hb
          replace h16 := h16.mono hb
          clear hb
          obtain ⟨sg19, Hsg19⟩ : ∃ s : Int, s = sgQ (th - (1 - u)) := ⟨_, rfl⟩
          rw [← Hsg19]
          replace Hsg19 := Lib.hid Hsg19
          have q20 : 1 - u < th := (HOK.out.2.2.2 q10H.out).2
          have q20_ : 0 < sg19 := by have h := sq_gt th (1 - u); rw [← Hsg19.out] at h; exact h.2 q20
          have q20H := Lib.hid q20
          clear q20
          have q20d : decide (0 < sg19) = true := decide_eq_true q20_
          go_wp2
          go_ret
          exact ⟨rfl, hs⟩

theorem pow_le7 (k : Nat) (h : k ≤ 7) : 0 < 2 ^ k ∧ 2 ^ k ≤ 2000000 := ⟨Nat.pow_pos (by decide), Nat.le_trans (Nat.pow_le_pow_right (by decide) h) (by decide)⟩
theorem l8_AllowBounds (t o m c k : Int) (w : World) (bt : 0 ≤ t ∧ t ≤ 255) (bo : 0 ≤ o ∧ o ≤ 255) (bm : 0 ≤ m ∧ m ≤ 255) (bc : 0 ≤ c ∧ c ≤ 255) (bk : 0 ≤ k ∧ k ≤ 255) :
    Calls Try.prog 5 #[.int .u8 t, .int .u8 o, .int .u8 m, .int .u8 c, .int .u8 k] w (RetV w (.bool true)) := by
  obtain ⟨n, hn⟩ : ∃ n : Nat, 1 + t % 10 = (n : Int) := ⟨(1 + t % 10).toNat, by omega⟩
  have hf0 := Int.emod_nonneg o (show 1 + t % 10 + 1 ≠ 0 by omega)
  have hf1 := Int.emod_lt_of_pos o (show 0 < 1 + t % 10 + 1 by omega)
  obtain ⟨f, hf⟩ : ∃ f : Nat, o % (1 + t % 10 + 1) = (f : Int) := ⟨(o % (1 + t % 10 + 1)).toNat, by omega⟩
  obtain ⟨g, hg⟩ : ∃ g : Nat, min (1 + t % 10) (o % (1 + t % 10 + 1) + m % 4) = (g : Int) := ⟨(min (1 + t % 10) (o % (1 + t % 10 + 1) + m % 4)).toNat, by omega⟩
  have hS : (2 : Int) ^ (min (max (k % 8) 0) 20).toNat = ((2 ^ (k % 8).toNat : Nat) : Int) := by
    rw [show min (max (k % 8) 0) 20 = k % 8 by omega]; simp
  have hp := pow_le7 (k % 8).toNat (by omega)
  obtain ⟨u, hu⟩ : ∃ u : Rat, ((c % 17 : Int) : Rat) / ((16 : Int) : Rat) = u := ⟨_, rfl⟩
  have su : SzQ 1 u := hu ▸ szQ_frac (by omega) (by decide) (by decide)
  have cu := div_bd hu (by omega) (by omega) (by decide)
  have d := d_sz (n := n) (f := f) (u := u) hp.1 hp.2
  have d' := d_sz (n := n) (f := g) (u := u) hp.1 hp.2
  exact l8_Bounds_walk t o m c k w bt bo bm bc bk n f g _ hn (by omega) (by omega) hf (by omega) hf0 (by omega) hg (by omega) (by omega) hS hp.1 hp.2 u hu su cu _ _ _ _ _ _ rfl rfl rfl rfl d.1.1 d.1.2 d'.1.1 d'.1.2 d.2.1 d.2.2 rfl rfl
    ((tl_sz d.2.1.1 d.2.1.2 d.1.1 n f).mono (by omega)) ((tl_sz d.2.2.1 d.2.2.2 d.1.2 n f).mono (by omega)) (bounds_ok hp.1 (by omega) (by omega) cu.1 cu.2 rfl rfl rfl)
end Go.Proofs.Ytmnipggjjcmjkaa
