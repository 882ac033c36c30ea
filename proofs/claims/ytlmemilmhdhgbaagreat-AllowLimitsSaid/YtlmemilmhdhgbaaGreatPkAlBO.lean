/-
  allow: Tail, Rank, Coupons.
-/
import Derived.Test.YtlmemilmhdhgbaaGreatAlAO
import Derived.Lib.AppendZerosOnto
import Derived.Lib.SliceRun
import Derived.Handy
set_option linter.unusedSimpArgs false
set_option linter.unusedVariables false
set_option maxRecDepth 100000
set_option maxHeartbeats 16000000
namespace Go.Proofs.YtlmemilmhdhgbaaGreat
open Go.RowKit Dg
attribute [local go_sem ↓] Go.wp_at_zero Go.wp_at_succ
theorem less_sz {s : Rat} (h0 : 0 ≤ s) (h1 : s ≤ 1) (hs : SzQ 1 s) : SzQ 1 (1 - s) := by
 have e : (1 - s) * (s.den : Rat) = (((s.den : Int) - s.num : Int) : Rat) := by
  rw [Rat.intCast_sub, Rat.intCast_natCast, ← mul_den_num s]; grind
 have a := part_bd1 s.den_pos e (by grind) (by grind)
 have b := hs.2
 exact ⟨by omega, by omega⟩
theorem al_tail {v : Value} {p : Rat} {n : Nat} {k : Int} (w : World) (hp : PV w v p) (sp : SzQ 1 p) (h0 : 0 ≤ p) (h1 : p ≤ 1) (hn : n ≤ 64) {q : Rat} (hq : tailQ n k p = q) : Calls Tryz.prog 51 #[.int .i64 n, .int .i64 k, v] w (RetP w q) := by
 subst hq
 by_cases h : k ≤ 0
 ·rw [tailQ_le h]; exact al_tail_le v p n k w hp sp h0 h1 hn h
 ·obtain ⟨kk, rfl⟩ : ∃ kk : Nat, k = kk := ⟨k.toNat, by omega⟩
  rw [tailQ_gt (by omega)]; exact al_tail_gt v p n kk w hp sp h0 h1 hn (by omega)
def rkE (r : Nat) : Int := if r = 0 then 80 else 0
theorem rkE_yes {r : Nat} (h : r ≠ 0) : rkE r = 0 := if_neg h
theorem al_Tail_ok {v : Value} {p : Rat} {n : Nat} {k : Int} (w : World) (hp : PV w v p) (sp : SzQ 1 p) (h0 : 0 ≤ p) (h1 : p ≤ 1) (hn : n ≤ 64) {q : Rat} (hq : tailQ n k p = q) :
  Calls Tryz.prog 18 #[.int .i64 n, .int .i64 k, v] w (RetPE w q 0) := by
 obtain ⟨shp, ahp, nhp, chp, Ahp, Nhp, Chp, rfl⟩ := hp.shape
 have hs := Below.refl w.heap.size w
 have HP := Lib.hid (show 0 ≤ p ∧ p ≤ 1 from ⟨h0, h1⟩)
 have sq : SzQ 65 q := hq ▸ (tail_sz h0 h1 sp n k).mono (by omega)
 have HQ := Lib.hid hq
 clear h0 h1 hq
 go_enter Tryz.func18, Tryz.ntmps18
 have q1 : ¬ (n < 0) := (by omega)
 have q1d : ((n : Int) < 0) = False := eq_false (by omega)
 have q2 : ¬ (64 < n) := (by omega)
 have q2d : ((64 : Int) < (n : Int)) = False := eq_false (by omega)
 go_wp2_with fail
 refine Calls.abs ?_
 intro w1 hW
 have hG : Gr [] w w1 := by rw [hW]; exact (Gr.refl _ _).alloc.alloc
 have hbw : Below w.heap.size w w1 := hG.below0 hs.size
 have hk : KeepD w w1 := hG.keep True.intro
 have sz_w1 : w.heap.size ≤ w.heap.size := hs.size
 have Blp : Bx w1 (w.heap.size) 34 #[.bool shp, .slice ahp nhp chp, .slice Ahp Nhp Chp] := by rw [hW]; exact ((Bx.new0 _ _ _).alloc _)
 have Blk : Bx w1 (w.heap.size + 1) 34 #[.bool false, .slice none 0 0, .slice none 0 0] := by rw [hW]; exact (Bx.new0 _ _ _)
 replace hs := hs.trans hbw
 replace hp := hp.keep hk
 clear hW hG hk hbw
 have hz_w1 : w.heap.size + 1 < w1.heap.size := Blk.lt
 with_reducible refine (al_isChance _ _ _ hp (SzQ.mid sp) rfl).mono ?_
 rintro e w2 ⟨rfl, hb⟩
 replace hs := bStep hs hb
 replace Blp := Blp.mono hb
 replace Blk := Blk.mono hb
 replace hp := hp.mono hb
 clear hb
 obtain ⟨b3, Hb3⟩ : ∃ b : Bool, b = decide (0 ≤ p ∧ p ≤ 1) := ⟨_, rfl⟩
 rw [← Hb3]
 replace Hb3 := Lib.hid Hb3
 have q4 : 0 ≤ p ∧ p ≤ 1 := HP.out
 obtain rfl : b3 = true := by rw [Hb3.out]; exact decide_eq_true q4
 have q4H := Lib.hid q4
 clear q4
 have Bb : w2.cell? ⟨w.heap.size, 0, none⟩ = some (.bool shp) := Blp.at 0 rfl
 have Bc : w2.cell? ⟨w.heap.size, 1, none⟩ = some (.slice ahp nhp chp) := Blp.at 1 rfl
 have Bd : w2.cell? ⟨w.heap.size, 2, none⟩ = some (.slice Ahp Nhp Chp) := Blp.at 2 rfl
 have Lp : w.heap.size < w2.heap.size := Blp.lt
 go_wp2_with fail
 clear Bb Bc Bd Lp
 with_reducible refine (al_tail _ hp sp HP.out.1 HP.out.2 (by omega) HQ.out).mono ?_
 rintro e w3 ⟨_, rfl, h5, hb⟩
 obtain ⟨sh5, ah5, nh5, ch5, Ah5, Nh5, Ch5, rfl⟩ := h5.shape
 replace hs := bStep hs hb
 replace Blp := Blp.mono hb
 replace Blk := Blk.mono hb
 replace hp := hp.mono hb
 clear hb
 have B8 : w3.cell? ⟨w.heap.size + 1, 0, none⟩ = some (.bool false) := Blk.at 0 rfl
 have B9 : w3.cell? ⟨w.heap.size + 1, 1, none⟩ = some (.slice none 0 0) := Blk.at 1 rfl
 have Ba : w3.cell? ⟨w.heap.size + 1, 2, none⟩ = some (.slice none 0 0) := Blk.at 2 rfl
 have fk := Blk.free
 have Lk : w.heap.size + 1 < w3.heap.size := Blk.lt
 go_wp2
 clear B8 B9 Ba fk Lk
 refine bodyPost.abs ?_
 intro w4 hW
 have hG : Gr [w.heap.size + 1] w3 w4 := by rw [hW]; exact (Gr.refl _ _).set.set.set
 have hsz := hs.size
 have lk := Blk.lt
 have hbw : Below w.heap.size w3 w4 := hG.below1 hs.size (by first | omega | assumption)
 have hk : KeepD w3 w4 := hG.keep ⟨⟨_, Blk.ty, by decide⟩, True.intro⟩
 have Bl1k : Bx w4 (w.heap.size + 1) 34 #[.bool sh5, .slice ah5 nh5 ch5, .slice Ah5 Nh5 Ch5] := by rw [hW]; exact Blk.set3
 replace hs := hs.trans hbw
 replace Blp := hG.bx Blp (notMem1 (by omega))
 replace Blk := Bl1k
 clear Bl1k
 replace hp := hp.keep hk
 replace h5 := h5.keep hk
 clear hW hG hk hbw hsz lk
 have B8 : w4.cell? ⟨w.heap.size + 1, 0, none⟩ = some (.bool sh5) := Blk.at 0 rfl
 have B9 : w4.cell? ⟨w.heap.size + 1, 1, none⟩ = some (.slice ah5 nh5 ch5) := Blk.at 1 rfl
 have Ba : w4.cell? ⟨w.heap.size + 1, 2, none⟩ = some (.slice Ah5 Nh5 Ch5) := Blk.at 2 rfl
 exact bodyPost_ret (v := .tuple #[.agg #[.bool sh5, .slice ah5 nh5 ch5, .slice Ah5 Nh5 Ch5], .int .i64 0]) (by simp [results, Tryz.results18, go_sem, B8, B9, Ba]) rfl ⟨_, rfl, h5, hs⟩
theorem al_Rank_ok {v v' : Value} {u c : Rat} {n : Nat} (w : World) (hu : PV w v u) (su : SzQ 1 u) (u0 : 0 ≤ u) (u1 : u ≤ 1) (hc : PV w v' c) (sc : SzQ 1 c) (c0 : 0 ≤ c) (c1 : c ≤ 1) (h1 : 1 ≤ n) (hn : n ≤ 64) {r e : Int} (hr : (rkF (1 - u) n c n : Int) = r) (he : rkE (rkF (1 - u) n c n) = e) :
  Calls Tryz.prog 25 #[.int .i64 n, v, v'] w (RetV w (.tuple #[.int .i64 r, .int .i64 e])) := by
 obtain ⟨shu, ahu, nhu, chu, Ahu, Nhu, Chu, rfl⟩ := hu.shape
 obtain ⟨shc, ahc, nhc, chc, Ahc, Nhc, Chc, rfl⟩ := hc.shape
 have hs := Below.refl w.heap.size w
 have HS := Lib.hid (show 0 ≤ u ∧ u ≤ 1 from ⟨u0, u1⟩)
 have HC := Lib.hid (show 0 ≤ c ∧ c ≤ 1 from ⟨c0, c1⟩)
 have sl := less_sz u0 u1 su
 have HL := Lib.hid (show 0 ≤ 1 - u ∧ 1 - u ≤ 1 by grind)
 have HZ := Lib.hid (fun n k => tl_sz HL.out.1 HL.out.2 sl n k)
 have HR := Lib.hid hr
 have HE := Lib.hid he
 clear u0 u1 c0 c1 hr he
 go_enter Tryz.func25, Tryz.ntmps25
 have q1 : ¬ (n < 1) := (by omega)
 have q1d : ((n : Int) < 1) = False := eq_false (by omega)
 have q2 : ¬ (64 < n) := (by omega)
 have q2d : ((64 : Int) < (n : Int)) = False := eq_false (by omega)
 go_wp2_with fail
 refine Calls.abs ?_
 intro w1 hW
 have hG : Gr [] w w1 := by rw [hW]; exact (Gr.refl _ _).alloc.alloc
 have hbw : Below w.heap.size w w1 := hG.below0 hs.size
 have hk : KeepD w w1 := hG.keep True.intro
 have sz_w1 : w.heap.size ≤ w.heap.size := hs.size
 have B4 : Bx w1 (w.heap.size) 34 #[.bool shu, .slice ahu nhu chu, .slice Ahu Nhu Chu] := by rw [hW]; exact ((Bx.new0 _ _ _).alloc _)
 have B0 : Bx w1 (w.heap.size + 1) 34 #[.bool shc, .slice ahc nhc chc, .slice Ahc Nhc Chc] := by rw [hW]; exact (Bx.new0 _ _ _)
 replace hs := hs.trans hbw
 replace hu := hu.keep hk
 replace hc := hc.keep hk
 clear hW hG hk hbw
 have hz_w1 : w.heap.size + 1 < w1.heap.size := B0.lt
 with_reducible refine (al_isChance _ _ _ hu (SzQ.mid su) rfl).mono ?_
 rintro e w2 ⟨rfl, hb⟩
 replace hs := bStep hs hb
 replace B4 := B4.mono hb
 replace B0 := B0.mono hb
 replace hu := hu.mono hb
 replace hc := hc.mono hb
 clear hb
 obtain ⟨b3, Hb3⟩ : ∃ b : Bool, b = decide (0 ≤ u ∧ u ≤ 1) := ⟨_, rfl⟩
 rw [← Hb3]
 replace Hb3 := Lib.hid Hb3
 have q4 : 0 ≤ u ∧ u ≤ 1 := HS.out
 obtain rfl : b3 = true := by rw [Hb3.out]; exact decide_eq_true q4
 have q4H := Lib.hid q4
 clear q4
 have B1 : w2.cell? ⟨w.heap.size + 1, 0, none⟩ = some (.bool shc) := B0.at 0 rfl
 have B2 : w2.cell? ⟨w.heap.size + 1, 1, none⟩ = some (.slice ahc nhc chc) := B0.at 1 rfl
 have B3 : w2.cell? ⟨w.heap.size + 1, 2, none⟩ = some (.slice Ahc Nhc Chc) := B0.at 2 rfl
 have Lconfidence : w.heap.size + 1 < w2.heap.size := B0.lt
 go_wp2_with fail
 clear B1 B2 B3 Lconfidence
 with_reducible refine (al_isChance _ _ _ hc (SzQ.mid sc) rfl).mono ?_
 rintro e w3 ⟨rfl, hb⟩
 replace hs := bStep hs hb
 replace B4 := B4.mono hb
 replace B0 := B0.mono hb
 replace hu := hu.mono hb
 replace hc := hc.mono hb
 clear hb
 obtain ⟨b5, Hb5⟩ : ∃ b : Bool, b = decide (0 ≤ c ∧ c ≤ 1) := ⟨_, rfl⟩
 rw [← Hb5]
 replace Hb5 := Lib.hid Hb5
 have q6 : 0 ≤ c ∧ c ≤ 1 := HC.out
 obtain rfl : b5 = true := by rw [Hb5.out]; exact decide_eq_true q6
 have q6H := Lib.hid q6
 clear q6
 go_wp2
 go_loopw [8] (fun s8 wq => ∃ k : Nat, k ≤ n ∧ s8 = .int .i64 k ∧ Below w.heap.size w wq ∧ Bx wq (w.heap.size) 34 #[.bool shu, .slice ahu nhu chu, .slice Ahu Nhu Chu] ∧ Bx wq (w.heap.size + 1) 34 #[.bool shc, .slice ahc nhc chc, .slice Ahc Nhc Chc] ∧ PV wq (.agg #[.bool shu, .slice ahu nhu chu, .slice Ahu Nhu Chu]) (u) ∧ PV wq (.agg #[.bool shc, .slice ahc nhc chc, .slice Ahc Nhc Chc]) (c) ∧ (rkF (1 - u) n c n = rkF (1 - u) n c k)) (fun s8 _ => (intOf s8).toNat)
 case atStart => exact ⟨n, Nat.le_refl _, rfl, hs, B4, B0, hu, hc, rfl⟩
 case round =>
  clear B4 B0 hu hc hs
  obtain ⟨k, k_le, rfl, hs, B4, B0, hu, hc, HI⟩ := hrel
  replace HI := Lib.hid HI
  by_cases q7 : 1 ≤ k
  ·have q7d : ((1 : Int) ≤ (k : Int)) = True := eq_true (by omega)
   go_upto_region 6 with fail
   obtain ⟨sg10, Hsg10⟩ : ∃ s : Int, s = sgQ ((tlQ (1 - u) n k) - c) := ⟨_, rfl⟩
   replace Hsg10 := Lib.hid Hsg10
   refine U_region (S := fun w' => w'.cell? ⟨w.heap.size, 0, none⟩ = some (.bool shu) ∧ w'.cell? ⟨w.heap.size, 1, none⟩ = some (.slice ahu nhu chu) ∧ w'.cell? ⟨w.heap.size, 2, none⟩ = some (.slice Ahu Nhu Chu) ∧ w'.cell? ⟨w.heap.size + 1, 0, none⟩ = some (.bool shc) ∧ w'.cell? ⟨w.heap.size + 1, 1, none⟩ = some (.slice ahc nhc chc) ∧ w'.cell? ⟨w.heap.size + 1, 2, none⟩ = some (.slice Ahc Nhc Chc)) (by kernel_rfl) 8 ?_
   refine AnyU.abs ?_
   intro w24 hW
   have hb : Below wr.heap.size wr w24 := by rw [hW]; exact bDrew _
   replace hs := bStep hs hb
   replace B4 := B4.mono hb
   replace B0 := B0.mono hb
   replace hu := hu.mono hb
   replace hc := hc.mono hb
   clear hb hW
   have B5 : w24.cell? ⟨w.heap.size, 0, none⟩ = some (.bool shu) := B4.at 0 rfl
   have B6 : w24.cell? ⟨w.heap.size, 1, none⟩ = some (.slice ahu nhu chu) := B4.at 1 rfl
   have B7 : w24.cell? ⟨w.heap.size, 2, none⟩ = some (.slice Ahu Nhu Chu) := B4.at 2 rfl
   have B1 : w24.cell? ⟨w.heap.size + 1, 0, none⟩ = some (.bool shc) := B0.at 0 rfl
   have B2 : w24.cell? ⟨w.heap.size + 1, 1, none⟩ = some (.slice ahc nhc chc) := B0.at 1 rfl
   have B3 : w24.cell? ⟨w.heap.size + 1, 2, none⟩ = some (.slice Ahc Nhc Chc) := B0.at 2 rfl
   have hH := (show w24.cell? ⟨w.heap.size, 0, none⟩ = some (.bool shu) ∧ w24.cell? ⟨w.heap.size, 1, none⟩ = some (.slice ahu nhu chu) ∧ w24.cell? ⟨w.heap.size, 2, none⟩ = some (.slice Ahu Nhu Chu) ∧ w24.cell? ⟨w.heap.size + 1, 0, none⟩ = some (.bool shc) ∧ w24.cell? ⟨w.heap.size + 1, 1, none⟩ = some (.slice ahc nhc chc) ∧ w24.cell? ⟨w.heap.size + 1, 2, none⟩ = some (.slice Ahc Nhc Chc) from ⟨B5, B6, B7, B1, B2, B3⟩)
   refine U_takeN (i := 0) (d := 30) (v := ?_) rfl rfl rfl (by kernel_rfl) (by kernel_rfl) (by kernel_rfl) (fun _ _ _ h => h) (Or.inl ⟨by rfl, ?_⟩) hH ?_
   rotate_left
   ·intro w hSw
    try dsimp only at hSw
    go_simp
    try with_reducible rfl
   simp only [LY]
   refine U_takeN (i := 1) (d := 31) (v := ?_) rfl rfl rfl (by kernel_rfl) (by kernel_rfl) (by kernel_rfl) (fun _ _ _ h => h) (Or.inl ⟨by rfl, ?_⟩) hH ?_
   rotate_left
   ·intro w hSw
    try dsimp only at hSw
    go_simp
    try with_reducible rfl
   simp only [LY]
   refine U_takeN (i := 2) (d := 32) (v := ?_) rfl rfl rfl (by kernel_rfl) (by kernel_rfl) (by kernel_rfl) (fun _ _ _ h => h) (Or.inl ⟨by rfl, ?_⟩) hH ?_
   rotate_left
   ·intro w hSw
    try dsimp only at hSw
    go_simp
    try with_reducible rfl
   simp only [LY]
   refine U_takeN (i := 5) (d := 35) (v := ?_) rfl rfl rfl (by kernel_rfl) (by kernel_rfl) (by kernel_rfl) (fun _ _ _ h => h) (Or.inl ⟨by rfl, ?_⟩) hH ?_
   rotate_left
   ·intro w hSw
    try dsimp only at hSw
    go_simp
    try with_reducible rfl
   simp only [LY]
   clear hH
   refine U_one (i := 3) (by kernel_rfl) rfl (fun K hK => ?_)
   go_simp
   (with_reducible refine (al_less _ _ _ hu (SzQ.mid su)).mono ?_)
   rintro e w25 ⟨_, rfl, h8, hb⟩
   obtain ⟨sh8, ah8, nh8, ch8, Ah8, Nh8, Ch8, rfl⟩ := h8.shape
   replace hs := bStep hs hb
   replace B4 := B4.mono hb
   replace B0 := B0.mono hb
   replace hu := hu.mono hb
   replace hc := hc.mono hb
   replace B5 := cellK B5 hb
   replace B6 := cellK B6 hb
   replace B7 := cellK B7 hb
   replace B1 := cellK B1 hb
   replace B2 := cellK B2 hb
   replace B3 := cellK B3 hb
   clear hb
   try go_wp2_with fail
   refine hK.out _ _ ⟨B5, B6, B7, B1, B2, B3⟩ (fun hH => ?_)
   clear hK K
   try simp only [LY]
   clear hH
   refine U_one (i := 4) (by kernel_rfl) rfl (fun K hK => ?_)
   go_simp
   (with_reducible refine (al_tail_gt _ _ n k _ h8 sl HL.out.1 HL.out.2 (by omega) (by omega)).mono ?_)
   rintro e w26 ⟨_, rfl, h9, hb⟩
   obtain ⟨sh9, ah9, nh9, ch9, Ah9, Nh9, Ch9, rfl⟩ := h9.shape
   replace hs := bStep hs hb
   replace B4 := B4.mono hb
   replace B0 := B0.mono hb
   replace hu := hu.mono hb
   replace hc := hc.mono hb
   replace h8 := h8.mono hb
   replace B5 := cellK B5 hb
   replace B6 := cellK B6 hb
   replace B7 := cellK B7 hb
   replace B1 := cellK B1 hb
   replace B2 := cellK B2 hb
   replace B3 := cellK B3 hb
   clear hb
   try go_wp2_with fail
   refine hK.out _ _ ⟨B5, B6, B7, B1, B2, B3⟩ (fun hH => ?_)
   clear hK K
   try simp only [LY]
   clear hH
   refine U_one (i := 6) (by kernel_rfl) rfl (fun K hK => ?_)
   go_simp
   (with_reducible refine (pCmp h9 hc (SzQ.fit (SzQ.mono (HZ.out n k) (show n + 1 ≤ 100 by omega))) (SzQ.fit sc)).mono ?_)
   rintro e w27 ⟨rfl, hb⟩
   replace hs := bStep hs hb
   replace B4 := B4.mono hb
   replace B0 := B0.mono hb
   replace hu := hu.mono hb
   replace hc := hc.mono hb
   replace h8 := h8.mono hb
   replace h9 := h9.mono hb
   replace B5 := cellK B5 hb
   replace B6 := cellK B6 hb
   replace B7 := cellK B7 hb
   replace B1 := cellK B1 hb
   replace B2 := cellK B2 hb
   replace B3 := cellK B3 hb
   clear hb
   rw [← Hsg10.out]
   try go_wp2_with fail
   refine hK.out _ _ ⟨B5, B6, B7, B1, B2, B3⟩ (fun hH => ?_)
   clear hK K
   try simp only [LY]
   refine U_takeN (i := 7) (d := 37) (v := ?_) rfl rfl rfl (by kernel_rfl) (by kernel_rfl) (by kernel_rfl) (fun _ _ _ h => h) (Or.inl ⟨by rfl, ?_⟩) hH ?_
   rotate_left
   ·intro w hSw
    try dsimp only at hSw
    go_simp
    try with_reducible rfl
   simp only [LY]
   clear hH
   refine U_endN (by kernel_rfl) ?_
   clear B5 B6 B7 B1 B2 B3
   by_cases q11 : c ≤ tlQ (1 - u) n k
   ·have q11_ : 0 ≤ sg10 := by have h := sq_ge (tlQ (1 - u) n k) c; rw [← Hsg10.out] at h; exact h.2 q11
    have q11H := Lib.hid q11
    clear q11
    have q11d : decide (0 ≤ sg10) = true := decide_eq_true q11_
    go_wp2
    go_ret2
    have hk : rkF (1 - u) n c n = k := HI.out.trans (by obtain ⟨d, rfl⟩ : ∃ d, k = d + 1 := ⟨k - 1, by omega⟩; exact rkF_yes q11H.out)
    exact ⟨by rw [← HR.out, ← HE.out, hk, rkE_yes (show k ≠ 0 by omega)]; rfl, hs⟩
   ·have q11_ : ¬ (0 ≤ sg10) := by have h := sq_ge (tlQ (1 - u) n k) c; rw [← Hsg10.out] at h; exact fun h1 => q11 (h.1 h1)
    have q11H := Lib.hid q11
    clear q11
    have q11d : decide (0 ≤ sg10) = false := decide_eq_false q11_
    go_wp2
    go_roundw
    case rel => exact ⟨k - 1, by omega, congrArg _ (by omega), hs, B4, B0, hu, hc, HI.out.trans (by obtain ⟨d, rfl⟩ : ∃ d, k = d + 1 := ⟨k - 1, by omega⟩; exact rkF_no q11H.out)⟩
    all_goals first | (simp [intOf]; done) | (simp [intOf]; omega)
  ·have q7d : ((1 : Int) ≤ (k : Int)) = False := eq_false (by omega)
   go_wp2
   go_ret2
   have hk : rkF (1 - u) n c n = 0 := HI.out.trans (by obtain rfl : k = 0 := (by omega); rfl)
   exact ⟨by rw [← HR.out, ← HE.out, hk]; rfl, hs⟩
end Go.Proofs.YtlmemilmhdhgbaaGreat
namespace Go.Proofs.YtlmemilmhdhgbaaGreat
open Go.RowKit Dg
attribute [local go_sem ↓] Go.wp_at_zero Go.wp_at_succ
theorem al_checkValues {v : Value} {l : List Rat} (w : World) (hl : Rows 3 34 PC w v l) (h1 : 1 ≤ l.length) (h64 : l.length ≤ 64) : Calls Tryz.prog 24 #[v] w (RetV w (.int .i64 0)) := by
 obtain ⟨ao, c, rfl, hc1, hc2, hc3⟩ := hl.slice
 have hs := Below.refl w.heap.size w
 clear hl
 go_enter Tryz.func24, Tryz.ntmps24
 have q1 : ((l.length : Int) < 1) = False := eq_false (by omega)
 have q2 : ((64 : Int) < (l.length : Int)) = False := eq_false (by omega)
 go_wp2
 go_ret
 exact ⟨rfl, hs⟩
theorem al_checkTwo {v u : Value} {l m : List Rat} (w : World) (hl : Rows 3 34 PC w v l) (hm : Rows 3 34 PC w u m) (h1 : 1 ≤ l.length) (h2 : 1 ≤ m.length) (h64 : l.length + m.length ≤ 64) : Calls Tryz.prog 52 #[v, u] w (RetV w (.int .i64 0)) := by
 obtain ⟨ao, c, rfl, hc1, hc2, hc3⟩ := hl.slice
 obtain ⟨bo, d, rfl, hd1, hd2, hd3⟩ := hm.slice
 have hs := Below.refl w.heap.size w
 go_enter Tryz.func52, Tryz.ntmps52
 go_wp2_with fail
 refine (al_checkValues w hl h1 (by omega)).mono ?_
 rintro e w1 ⟨rfl, hb⟩
 replace hs := bStep hs hb
 replace hm := hm.mono PC.kept hb
 clear hb hl
 go_wp2_with fail
 refine (al_checkValues w1 hm h2 (by omega)).mono ?_
 rintro e w2 ⟨rfl, hb⟩
 replace hs := bStep hs hb
 clear hb hm
 have q2 : ((64 : Int) < (l.length : Int) + (m.length : Int)) = False := eq_false (by omega)
 go_wp2
 go_ret
 exact ⟨rfl, hs⟩
theorem info_parts' {P : Program} {T : TypeId} {z : Option Value} {s b : Nat} (h : (P.info? T).map (fun i => (i.zero, i.size, i.bytes)) = some (z, s, b)) : ∃ i0, P.info? T = some i0 ∧ i0.zero = z ∧ i0.size = s ∧ i0.bytes = b := by
 cases hi : P.info? T with
 | none => rw [hi] at h; cases h
 | some i => rw [hi] at h; simp at h; exact ⟨i, rfl, h.1, h.2.1, h.2.2⟩
theorem alP_parts : ∃ i0, Tryz.prog.info? 34 = some i0 ∧ i0.zero = some (.agg #[.bool false, .slice none 0 0, .slice none 0 0]) ∧ i0.size = 3 ∧ i0.bytes = 56 := info_parts' alP_info
theorem al_Grow {n : Nat} (w : World) (h1 : 0 < n) (h2 : n ≤ 1000) : Calls Tryz.prog 84 #[.slice none 0 0, .int .i64 n] w (Ret1 (fun w' v => OwnR w.heap.size 34 3 PC w' v []) w) := by
 obtain ⟨i0, hi, hz, hsz, hby⟩ := alP_parts
 have hold : (Builtin.firstCells i0.size 0 (.slice none 0 0)).run Tryz.prog w.drew = .ok (#[] : Array Value) w.drew := run_firstCells_none w.drew i0.size 0 0 0
 have hrz : ∀ ty, (Builtin.append_ #[27, 3] ty #[.slice none 0 0, .int .i64 n]).run Tryz.prog w = .ok (.slice (some ⟨w.heap.size, 0, none⟩) n (grownCap w n 0 34))
   (w.drew.alloc (.cells (#[] ++ Builtin.zeroCells (Value.agg #[.bool false, .slice none 0 0, .slice none 0 0]).cells n ++ Builtin.zeroCells (Value.agg #[.bool false, .slice none 0 0, .slice none 0 0]).cells (grownCap w n 0 34 - n)) 34)) := fun ty => by
  have h := Lib.run_append_grow_zeros w 27 3 ty 34 i0 _ .i64 .i64 Tryz.underlying27 Tryz.underlying3 hi hz none 0 0 [] hold n h1 (by omega) (by omega) (by omega) (by rw [hby]; omega)
   (by have := growslice_fits (need := 0 + n) (old := 0) (bytes := i0.bytes) (by omega) (by rw [hby]; omega); exact this)
  rw [Nat.zero_add] at h
  exact h
 have hGn : n ≤ grownCap w n 0 34 := grownCap_ge w _ _ _
 have hGm := grownCap_le_maxLen w n 0 34 (by unfold maxLen; omega)
 obtain ⟨G, hG⟩ : ∃ G, G = grownCap w n 0 34 := ⟨_, rfl⟩
 rw [← hG] at hrz hGn hGm
 clear hold hG
 have hG63 : G ≤ 9223372036854775807 := hGm
 go_enter Tryz.func84, Tryz.ntmps84
 go_wp2_with (at_builtin; refine Lib.wpList_append_run _ rfl _ _ _ _ rfl _ _ rfl rfl _ _ (hrz _) ?_)
 all_goals
  go_ret
  refine ⟨_, rfl, ⟨[], rfl, by simp, by simp, rfl, .inr ⟨w.heap.size, G, _, rfl, Nat.le_refl _, heap_alloc_new w.drew _, Nat.zero_le _, hGm, ?_, rfl⟩⟩, Below.alloc (Below.drew (Below.refl _ _)) (Nat.le_refl _) _⟩
  simp only [Array.size_append, size_zeroCells, List.size_toArray, List.length_cons, List.length_nil]
  omega
theorem PC.one {w : World} {cs : List Value} {x : Rat} (h : PC w cs x) : cs.length = 3 ∧ ∀ u ∈ cs, u.oneCell' = true := by
 obtain ⟨g, a, n, c, A, N, D, rfl, _⟩ := h.cells
 refine ⟨rfl, fun u hu => ?_⟩
 simp only [List.mem_cons, List.mem_nil_iff, or_false] at hu
 rcases hu with rfl | rfl | rfl <;> rfl
theorem choose_lt' {Q : Nat → List Value → Prop} {n : Nat} (h : ∀ i, i < n → ∃ y, Q i y) : ∃ f : Nat → List Value, ∀ i, i < n → Q i (f i) := by
 refine ⟨fun i => if hi : i < n then Classical.choose (h i hi) else [], fun i hi => ?_⟩
 show Q i (if hi : i < n then Classical.choose (h i hi) else [])
 rw [dif_pos hi]
 exact Classical.choose_spec (h i hi)
theorem rows_flat {T : TypeId} {w : World} {b o n c : Nat} {l : List Rat} (h : Rows 3 T PC w (.slice (some ⟨b, o, none⟩) n c) l) : ∃ css : List (List Value), css.length = l.length ∧ (∀ cs ∈ css, cs.length = 3) ∧ (∀ (i : Nat) (cs : List Value) (x : Rat), css[i]? = some cs → l[i]? = some x → PC w cs x) ∧
  (∀ u ∈ css.flatten, u.oneCell' = true) ∧ ∀ j u, css.flatten[j]? = some u → w.cell? ((⟨b, o, none⟩ : Addr).add j) = some u := by
 have hall : ∀ i, i < l.length → ∃ cs : List Value, CellsAt w b (o + i * 3) cs ∧ PC w cs (nthQ l i) := fun i hi => by
  obtain ⟨b', o', c', cs, hv, _, hat, hc⟩ := h.get (nthQ_some hi)
  obtain ⟨e, rfl⟩ := sliceE hv
  injection e with e
  injection e with e1 e2
  subst e1 e2
  exact ⟨cs, hat, hc⟩
 obtain ⟨f, hf⟩ := choose_lt' hall
 have hg : ∀ (i : Nat) (cs : List Value), ((List.range l.length).map f)[i]? = some cs → i < l.length ∧ cs = f i := fun i cs hc => by
  rw [List.getElem?_map] at hc
  by_cases hi : i < l.length
  ·rw [List.getElem?_range hi] at hc
   simp only [Option.map_some, Option.some.injEq] at hc
   exact ⟨hi, hc.symm⟩
  ·rw [List.getElem?_eq_none (by simpa using hi)] at hc
   cases hc
 have h3 : ∀ cs ∈ (List.range l.length).map f, cs.length = 3 := fun cs hcs => by
  obtain ⟨i, hi, rfl⟩ := List.mem_map.1 hcs
  exact (hf i (List.mem_range.1 hi)).2.one.1
 refine ⟨(List.range l.length).map f, by simp, h3, fun i cs x hc hx => ?_, fun u hu => ?_, fun j u hu => ?_⟩
 ·obtain ⟨hi, rfl⟩ := hg i cs hc
  rw [nthQ_some hi] at hx
  cases hx
  exact (hf i hi).2
 ·obtain ⟨cs, hcs, hu⟩ := List.mem_flatten.1 hu
  obtain ⟨i, hi, rfl⟩ := List.mem_map.1 hcs
  exact (hf i (List.mem_range.1 hi)).2.one.2 u hu
 ·have hj : j < l.length * 3 := by
   have h1 := (List.getElem?_eq_some_iff.1 hu).1
   rw [flat_length _ h3] at h1
   simpa using h1
  have hi : j / 3 < l.length := by omega
  have e := flat_get _ h3 (j / 3) (j % 3) (f (j / 3)) (by rw [List.getElem?_map, List.getElem?_range hi]; rfl) (Nat.mod_lt _ (by omega))
  rw [show j / 3 * 3 + j % 3 = j by omega, hu] at e
  have := (hf (j / 3) hi).1 (j % 3) u e.symm
  rw [add_plain]
  rw [show o + j / 3 * 3 + j % 3 = o + j by omega] at this
  exact this
theorem OwnR.pushL {base : Nat} {T : TypeId} {w w' : World} {l m : List Rat} {css dss : List (List Value)} (h1 : css.length = l.length) (h2 : ∀ cs ∈ css, cs.length = 3) (h3 : ∀ (i : Nat) (cs : List Value) (x : Rat), css[i]? = some cs → l[i]? = some x → PC w cs x)
  (d1 : dss.length = m.length) (d2 : ∀ cs ∈ dss, cs.length = 3) (d3 : ∀ (i : Nat) (cs : List Value) (x : Rat), dss[i]? = some cs → m[i]? = some x → PC w cs x) {v' : Value}
  (hown : w'.ownsRow base T 3 v' (l.length + m.length) (css.flatten ++ dss.flatten)) (hk : KeepD w w') : OwnR base T 3 PC w' v' (l ++ m) := by
 refine ⟨css ++ dss, by simp [h1, d1], ?_, ?_, ?_⟩
 ·intro c hc
  rcases List.mem_append.1 hc with h | h
  ·exact h2 c h
  ·exact d2 c h
 ·intro i c y hc hy
  by_cases hi : i < l.length
  ·rw [List.getElem?_append_left (by omega)] at hc
   rw [List.getElem?_append_left hi] at hy
   exact PC.kept _ _ _ _ (h3 i c y hc hy) hk
  ·rw [List.getElem?_append_right (by omega), h1] at hc
   rw [List.getElem?_append_right (by omega)] at hy
   exact PC.kept _ _ _ _ (d3 _ c y hc hy) hk
 ·simpa using hown
theorem OwnR.base {α : Type} {base base' size : Nat} {T : TypeId} {R : World → List Value → α → Prop} {w : World} {v : Value} {l : List α} (h : OwnR base T size R w v l) (hb : base' ≤ base) : OwnR base' T size R w v l := by
 obtain ⟨css, h1, h2, h3, e1, e2⟩ := h
 refine ⟨css, h1, h2, h3, e1, ?_⟩
 rcases e2 with e2 | ⟨g, cap, cur, rfl, hb', r⟩
 ·exact .inl e2
 ·exact .inr ⟨g, cap, cur, rfl, Nat.le_trans hb hb', r⟩
def szc (a b : List Rat) : Nat → Nat
 | 0 => 0
 | 1 => a.length
 | _ => a.length + b.length
def catL (a b : List Rat) : Nat → List Rat
 | 0 => []
 | 1 => a
 | _ => a ++ b
theorem al_Concat {g : Nat} {va vb : Value} {la lb : List Rat} (w : World) (hB : Bx w g 27 #[va, vb]) (ha : Rows 3 34 PC w va la) (hb : Rows 3 34 PC w vb lb) (h1 : 1 ≤ la.length) (h2 : 1 ≤ lb.length) (h3 : la.length + lb.length ≤ 128) :
  Calls Tryz.prog 55 #[.slice (some ⟨g, 0, none⟩) 2 2] w (Ret1 (fun w v => Rows 3 34 PC w v (la ++ lb)) w) := by
 obtain ⟨ba, oa, ca, rfl, ha1, ha2, -⟩ := ha.open_ (by omega)
 obtain ⟨bb, ob, cb, rfl, hb1, hb2, -⟩ := hb.open_ (by omega)
 obtain ⟨i0, hi, hz0, hz1, hz2⟩ := info_parts alP_info
 have hs := Below.refl w.heap.size w
 have HA := Lib.hid ha
 have HB := Lib.hid hb
 have HX := Lib.hid hB
 clear ha hb hB
 go_enter Tryz.func55, Tryz.ntmps55
 go_wp2
 go_loopw [3, 11] (fun sv iv wq => ∃ k : Nat, k ≤ 2 ∧ iv = .int .i64 k ∧ sv = .int .i64 (szc la lb k) ∧ Below w.heap.size w wq) (fun _ iv _ => 2 - (intOf iv).toNat)
 case atStart => exact ⟨0, by omega, rfl, rfl, hs⟩
 case round =>
  clear hs
  obtain ⟨k, hk, rfl, rfl, hs⟩ := hrel
  have c0 := (HX.out.mono hs).at 0 rfl
  have c1 := (HX.out.mono hs).at 1 rfl
  rcases (show k = 0 ∨ k = 1 ∨ k = 2 by omega) with rfl | rfl | rfl
  ·show Code.wp _ _ _ _ _
   simp only [szc]
   have f1 : ((la.length : Int) < 0) = False := eq_false (by omega)
   go_wp2
   go_roundw
   case rel => exact ⟨1, by omega, rfl, rfl, hs⟩
   all_goals first | (simp [intOf]; done) | (simp [intOf]; omega)
  ·simp only [szc]
   have f1 : ((la.length : Int) + (lb.length : Int) < 0) = False := eq_false (by omega)
   go_wp2
   go_roundw
   case rel => exact ⟨2, by omega, rfl, rfl, hs⟩
   all_goals first | (simp [intOf]; done) | (simp [intOf]; omega)
  ·simp only [szc]
   clear c0 c1
   go_wp2_with fail
   refine (al_Grow (n := la.length + lb.length) wr (by omega) (by omega)).mono ?_
   rintro e w2 ⟨v, rfl, Og, hbb⟩
   replace Opa : OwnR w.heap.size 34 3 PC w2 v [] := Og.base hs.size
   replace hs := bStep hs hbb
   clear hbb Og
   go_wp2
   go_loopw [6, 27] (fun av iv wq => ∃ k : Nat, k ≤ 2 ∧ iv = .int .i64 k ∧ Below w.heap.size w wq ∧ OwnR w.heap.size 34 3 PC wq av (catL la lb k)) (fun _ iv _ => 2 - (intOf iv).toNat)
   case atStart => exact ⟨0, by omega, rfl, hs, Opa⟩
   case round =>
   clear hs Opa
   obtain ⟨k, hk, rfl, hs, Opa⟩ := hrel
   have c0 := (HX.out.mono hs).at 0 rfl
   have c1 := (HX.out.mono hs).at 1 rfl
   rcases (show k = 0 ∨ k = 1 ∨ k = 2 by omega) with rfl | rfl | rfl
   ·simp only [catL] at Opa
    go_wp2_with (at_builtin; refine wpList.stop ?_)
    refine ⟨?_⟩
    clear c0 c1
    obtain ⟨css, ho1, ho2, ho3, hown0⟩ := Opa
    obtain ⟨dss, d1, d2, d3, d4, d5⟩ := rows_flat (HA.out.mono PC.kept hs)
    refine wpList_append_lies _ rfl _ _ _ rfl w.heap.size 34 i0 _ 3 56 Tryz.underlying27 hi hz0 hz1 hz2 rfl (by omega) _ _ css.flatten rfl hown0 ⟨ba, oa, none⟩ la.length ca dss.flatten rfl (by rw [flat_length _ d2, d1]) d5 d4 (by omega) ?_ ?_ hs.size _ rfl ?_
    ·unfold maxLen; (try simp only [List.length_nil]); omega
    ·(try simp only [List.length_nil]); omega
    intro g cap w4 hown1 hgrow hat hlt_
    have hk_ := KeepD.owns hown0 hgrow (by decide)
    replace hs := hs.grown hgrow hs.size (fun k hk => (hown0.lt k hk).1)
    have Opa := OwnR.pushL ho1 ho2 ho3 d1 d2 d3 hown1 hk_
    clear hk_ ho1 ho2 ho3 hown0 hown1 hgrow hat hlt_ d1 d2 d3 d4 d5
    go_wp2
    go_roundw
    case rel => exact ⟨1, by omega, rfl, hs, (by simp only [List.length_nil, Nat.zero_add, List.nil_append] at Opa; exact Opa)⟩
    all_goals first | (simp [intOf]; done) | (simp [intOf]; omega)
   ·simp only [catL] at Opa
    go_wp2_with (at_builtin; refine wpList.stop ?_)
    refine ⟨?_⟩
    clear c0 c1
    obtain ⟨css, ho1, ho2, ho3, hown0⟩ := Opa
    obtain ⟨dss, d1, d2, d3, d4, d5⟩ := rows_flat (HB.out.mono PC.kept hs)
    refine wpList_append_lies _ rfl _ _ _ rfl w.heap.size 34 i0 _ 3 56 Tryz.underlying27 hi hz0 hz1 hz2 rfl (by omega) _ _ css.flatten rfl hown0 ⟨bb, ob, none⟩ lb.length cb dss.flatten rfl (by rw [flat_length _ d2, d1]) d5 d4 (by omega) ?_ ?_ hs.size _ rfl ?_
    ·unfold maxLen; omega
    ·omega
    intro g cap w4 hown1 hgrow hat hlt_
    have hk_ := KeepD.owns hown0 hgrow (by decide)
    replace hs := hs.grown hgrow hs.size (fun k hk => (hown0.lt k hk).1)
    have Opa := OwnR.pushL ho1 ho2 ho3 d1 d2 d3 hown1 hk_
    clear hk_ ho1 ho2 ho3 hown0 hown1 hgrow hat hlt_ d1 d2 d3 d4 d5
    go_wp2
    go_roundw
    case rel => exact ⟨2, by omega, rfl, hs, Opa⟩
    all_goals first | (simp [intOf]; done) | (simp [intOf]; omega)
   ·simp only [catL] at Opa
    clear c0 c1
    have hR := Lib.hid Opa.rows
    clear Opa
    go_wp2
    go_ret
    exact ⟨_, rfl, hR.out, hs⟩
end Go.Proofs.YtlmemilmhdhgbaaGreat
namespace Go.Proofs.YtlmemilmhdhgbaaGreat
open Go.RowKit Dg
attribute [local go_sem ↓] Go.wp_at_zero Go.wp_at_succ
theorem sgQ_bd (x : Rat) : -1 ≤ sgQ x ∧ sgQ x ≤ 1 := by
 unfold sgQ
 split
 ·omega
 ·split <;> omega
def rnS (L : List Rat) (x : Rat) : Nat → Int
 | 0 => 1
 | j + 1 => rnS L x j + max (1 + sgQ (x - nthQ L j)) 0
theorem rnS_bd (L : List Rat) (x : Rat) : ∀ j, 1 ≤ rnS L x j ∧ rnS L x j ≤ 1 + 2 * j
 | 0 => by show (1 : Int) ≤ 1 ∧ (1 : Int) ≤ _; omega
 | j + 1 => by
  have ih := rnS_bd L x j
  have b := sgQ_bd (x - nthQ L j)
  show 1 ≤ rnS L x j + _ ∧ rnS L x j + _ ≤ _
  omega
def rkT (L : List Rat) (k : Nat) : List Int := (List.range k).map fun i => rnS L (nthQ L i) L.length
theorem rkT_len (L : List Rat) (k : Nat) : (rkT L k).length = k := by simp [rkT]
theorem rkT_succ (L : List Rat) (k : Nat) : rkT L (k + 1) = rkT L k ++ [rnS L (nthQ L k) L.length] := by unfold rkT; rw [List.range_succ, List.map_append]; rfl
def IC (_ : World) (cs : List Value) (x : Int) : Prop := cs = [.int .i64 x]
theorem IC.kept : Kept IC := fun _ _ _ _ h _ => h
theorem int_info : (Tryz.prog.info? 3).map (fun i => (i.zero, i.size, i.bytes)) = some (some (.int .i64 0), 1, 8) := by kernel_rfl
def nthI (L : List Int) (i : Nat) : Int := L.getD i 0
theorem nthI_some {L : List Int} {i : Nat} (h : i < L.length) : L[i]? = some (nthI L i) := by unfold nthI; rw [List.getD_eq_getElem?_getD, List.getElem?_eq_getElem h]; rfl
theorem rowI_at {w : World} {U : TypeId} {b o n c : Nat} {L : List Int} {i : Nat} (h : Rows 1 U IC w (.slice (some ⟨b, o, none⟩) n c) L) (hi : i < L.length) : w.cell? ⟨b, o + i * 1, none⟩ = some (.int .i64 (nthI L i)) ∧ b < w.heap.size := by
 obtain ⟨b', o', c', cs, hv, _, hat, rfl⟩ := h.get (nthI_some hi)
 obtain ⟨e, rfl⟩ := sliceE hv
 injection e with e
 injection e with e1 e2
 subst e1 e2
 exact ⟨hat 0 _ rfl, cell_lt (hat 0 _ rfl)⟩
def totS (L : List Int) : Nat → Int
 | 0 => 0
 | k + 1 => totS L k + nthI L k
theorem totS_bd {L : List Int} (h : ∀ x ∈ L, 0 ≤ x ∧ x ≤ 1000) : ∀ k, k ≤ L.length → 0 ≤ totS L k ∧ totS L k ≤ 1000 * k
 | 0, _ => by show (0 : Int) ≤ 0 ∧ (0 : Int) ≤ _; omega
 | k + 1, hk => by
  have ih := totS_bd h k (by omega)
  have a := h _ (List.mem_of_getElem? (nthI_some (show k < L.length by omega)))
  show 0 ≤ totS L k + _ ∧ totS L k + _ ≤ _
  omega
theorem al_ranks {v : Value} {L : List Rat} (w : World) (hl : Rows 3 34 PC w v L) (h1 : 1 ≤ L.length) (h128 : L.length ≤ 128) (hz : ∀ i, i < L.length → SzQ 100000 (nthQ L i)) :
  Calls Tryz.prog 54 #[v] w (Ret1 (fun w v => Rows 1 3 IC w v (rkT L L.length)) w) := by
 obtain ⟨rb, ro, rc, rfl, hc1, hc2, -⟩ := hl.open_ (by omega)
 have hs := Below.refl w.heap.size w
 have HL := Lib.hid hl
 have HZ := Lib.hid hz
 obtain ⟨i0, hi, hz0, hz1, hz2⟩ := info_parts int_info
 clear hl hz
 go_enter Tryz.func54, Tryz.ntmps54
 go_wp2
 go_loopw [3, 11] (fun s3 s11 wq => ∃ m : Nat, m ≤ L.length ∧ s11 = .int .i64 m ∧ Below w.heap.size w wq ∧ OwnR w.heap.size 3 1 IC wq s3 (rkT L m)) (fun s3 s11 _ => L.length - (intOf s11).toNat)
 case atStart => exact ⟨0, Nat.zero_le _, rfl, hs, OwnR.nil _ _ _ _ _⟩
 case round =>
  clear hs
  obtain ⟨m, k_le, rfl, hs, Opc⟩ := hrel
  obtain ⟨wo, hwo⟩ : ∃ x, x = wr := ⟨_, rfl⟩
  subst hwo
  have lrk : (rkT L m).length ≤ m := Nat.le_of_eq (rkT_len L m)
  by_cases q1 : m < L.length
  ·have q1d : ((m : Int) < (L.length : Int)) = True := eq_true (by omega)
   have BI2a : m < L.length := by omega
   have BI2b : ((m : Int) : Int) < (L.length : Int) := by omega
   obtain ⟨ge3a, ae3a, ne3a, ce3a, Ae3a, Ne3a, De3a, B2, B3, B4, he3a, le3⟩ := rowP_at (HL.out.mono PC.kept hs) (show m < L.length by omega)
   go_wp2
   clear le3 B2 B3 B4
   refine Code.abs ?_
   intro w21 hW
   have hG : Gr [] wo w21 := by rw [hW]; exact (Gr.refl _ _).alloc
   have hbw : Below w.heap.size wo w21 := hG.below0 hs.size
   have hk : KeepD wo w21 := hG.keep True.intro
   have sz_w21 : w.heap.size ≤ wo.heap.size := hs.size
   have Blx : Bx w21 (wo.heap.size) 34 #[.bool ge3a, .slice ae3a ne3a ce3a, .slice Ae3a Ne3a De3a] := by rw [hW]; exact (Bx.new0 _ _ _)
   replace hs := hs.trans hbw
   replace he3a := he3a.keep hk
   replace Opc := Opc.mono IC.kept (hG.below0 (Nat.le_refl _))
   clear hW hG hk hbw
   have hz_w21 : wo.heap.size < w21.heap.size := Blx.lt
   have HB0_4 := Lib.hid hs
   clear hs
   have hs := Below.refl w21.heap.size w21
   have nb_x : wo.heap.size < w21.heap.size := Blx.lt
   have FOpc := Lib.hid Opc
   clear Opc
   go_loopw [6, 17] (fun s6 s17 wq => ∃ j : Nat, j ≤ L.length ∧ s17 = .int .i64 j ∧ s6 = .int .i64 (rnS L (nthQ L m) j) ∧ Below w21.heap.size w21 wq ∧ Bx wq (wo.heap.size) 34 #[.bool ge3a, .slice ae3a ne3a ce3a, .slice Ae3a Ne3a De3a] ∧ PV wq (.agg #[.bool ge3a, .slice ae3a ne3a ce3a, .slice Ae3a Ne3a De3a]) (nthQ L m)) (fun s6 s17 _ => L.length - (intOf s17).toNat)
   case atStart => exact ⟨0, Nat.zero_le _, rfl, rfl, hs, Blx, he3a⟩
   case round =>
    clear Blx he3a hs
    obtain ⟨j, k_le, rfl, rfl, hs, Blx, he3a⟩ := hrel
    obtain ⟨tb1, tb2⟩ := rnS_bd L (nthQ L m) j
    obtain ⟨tn, HTN⟩ : ∃ z, z = rnS L (nthQ L m) j := ⟨_, rfl⟩
    rw [← HTN]
    rw [← HTN] at tb1 tb2
    replace HTN := Lib.hid HTN.symm
    by_cases q5 : j < L.length
    ·have q5d : ((j : Int) < (L.length : Int)) = True := eq_true (by omega)
     have BI6a : j < L.length := by omega
     have BI6b : ((j : Int) : Int) < (L.length : Int) := by omega
     obtain ⟨ge7a, ae7a, ne7a, ce7a, Ae7a, Ne7a, De7a, B5, B6, B7, he7a, le7⟩ := rowP_at (HL.out.mono PC.kept (bStep HB0_4.out hs)) (show j < L.length by omega)
     have B8 : wr.cell? ⟨wo.heap.size, 0, none⟩ = some (.bool ge3a) := Blx.at 0 rfl
     have B9 : wr.cell? ⟨wo.heap.size, 1, none⟩ = some (.slice ae3a ne3a ce3a) := Blx.at 1 rfl
     have Ba : wr.cell? ⟨wo.heap.size, 2, none⟩ = some (.slice Ae3a Ne3a De3a) := Blx.at 2 rfl
     have Lx : wo.heap.size < wr.heap.size := Blx.lt
     go_wp2_with fail
     clear B8 B9 Ba Lx le7 B5 B6 B7
     refine Calls.abs ?_
     intro w42 hW
     have hG : Gr [] wr w42 := by rw [hW]; exact (Gr.refl _ _).alloc
     have hbw : Below w21.heap.size wr w42 := hG.below0 hs.size
     have hk : KeepD wr w42 := hG.keep True.intro
     have sz_w42 : w21.heap.size ≤ wr.heap.size := hs.size
     have nx_w42 : wo.heap.size < wr.heap.size := Blx.lt
     have Bly : Bx w42 (wr.heap.size) 34 #[.bool ge7a, .slice ae7a ne7a ce7a, .slice Ae7a Ne7a De7a] := by rw [hW]; exact (Bx.new0 _ _ _)
     replace hs := hs.trans hbw
     replace Blx := hG.bx Blx notMem0
     replace he3a := he3a.keep hk
     replace he7a := he7a.keep hk
     clear hW hG hk hbw
     have hz_w42 : wr.heap.size < w42.heap.size := Bly.lt
     with_reducible refine (pCmp he3a he7a (SzQ.fit (HZ.out m (by omega))) (SzQ.fit (HZ.out j (by omega)))).mono ?_
     rintro e w43 ⟨rfl, hb⟩
     replace hs := bStep hs hb
     replace Blx := Blx.mono hb
     replace Bly := Bly.mono hb
     replace he3a := he3a.mono hb
     replace he7a := he7a.mono hb
     clear hb
     obtain ⟨sg8, Hsg8⟩ : ∃ s : Int, s = sgQ ((nthQ L m) - (nthQ L j)) := ⟨_, rfl⟩
     have Bsg8 : -1 ≤ sg8 ∧ sg8 ≤ 1 := by rw [Hsg8]; exact sgQ_bd _
     obtain ⟨Bsg8a, Bsg8b⟩ := Bsg8
     rw [← Hsg8]
     replace Hsg8 := Lib.hid Hsg8
     have AWq9 := IntWalk.i64_in (tn + max (1 + sg8) 0) (by omega)
     go_wp2
     go_roundw
     case rel => exact ⟨j + 1, by omega, by go_num, by rw [Hsg8.out, ← HTN.out]; rfl, hs, Blx, he3a⟩
     all_goals first | (simp [intOf]; done) | (simp [intOf]; omega)
    ·have q5d : ((j : Int) < (L.length : Int)) = False := eq_false (by omega)
     obtain rfl : j = L.length := by omega
     have Opc := FOpc.out.mono IC.kept hs
     replace hs := bStep HB0_4.out hs
     go_wp2_with (at_builtin; refine wpList.stop ?_)
     refine ⟨?_⟩
     refine wpList.abs ?_
     intro w42 hW
     have hG : Gr [] wr w42 := by rw [hW]; exact (Gr.refl _ _).alloc
     have hbw : Below w.heap.size wr w42 := hG.below0 hs.size
     have hk : KeepD wr w42 := hG.keep True.intro
     have sz_w42 : w.heap.size ≤ wr.heap.size := hs.size
     have nx_w42 : wo.heap.size < wr.heap.size := Blx.lt
     have B0 : Bx w42 (wr.heap.size) 3 #[.int .i64 tn] := by rw [hW]; exact (Bx.new0 _ _ _)
     replace hs := hs.trans hbw
     replace Blx := hG.bx Blx notMem0
     replace he3a := he3a.keep hk
     replace Opc := Opc.mono IC.kept (hG.below0 (Nat.le_refl _))
     clear hW hG hk hbw
     have hz_w42 : wr.heap.size < w42.heap.size := B0.lt
     obtain ⟨css, ho1, ho2, ho3, hown0⟩ := Opc
     refine wpList_append_lies _ rfl _ _ _ rfl w.heap.size 3 i0 _ 1 8 Tryz.underlying90 hi hz0 hz1 hz2 rfl (by omega) _ _ css.flatten rfl hown0 ⟨wr.heap.size, 0, none⟩ 1 1 [.int .i64 tn] rfl rfl B0.news ?_ (by omega) ?_ ?_ ?_ _ rfl ?_
     ·intro u hu; simp only [List.mem_cons, List.mem_nil_iff, or_false] at hu; rcases hu with rfl <;> rfl
     ·unfold maxLen; (try simp only [List.length_append, List.length_cons, List.length_nil]); omega
     ·(try simp only [List.length_append, List.length_cons, List.length_nil]); omega
     ·exact hs.size
     intro gpc cappc w43 hown1 hgrow hat hlt_
     have hk_ := KeepD.owns hown0 hgrow (by decide)
     have ho := owns_onlyT hown0 hgrow
     replace hs := hs.grown hgrow hs.size (fun k hk => (hown0.lt k hk).1)
     replace Opc := OwnR.push' IC.kept ho1 ho2 ho3 (x := tn) rfl rfl (by simp) hown1 hk_
     replace Blx := Blx.only ho (by decide)
     replace he3a := he3a.keep hk_
     clear hk_ ho ho1 ho2 ho3 hown0 hown1 hgrow hat hlt_ B0
     go_wp2
     go_roundw
     case rel => exact ⟨m + 1, by omega, by go_num, hs, by rw [rkT_succ, show rnS L (nthQ L m) L.length = tn from HTN.out]; exact Opc⟩
     all_goals first | (simp [intOf]; done) | (simp [intOf]; omega)
  ·have q1d : ((m : Int) < (L.length : Int)) = False := eq_false (by omega)
   obtain rfl : m = L.length := by omega
   have HR := Lib.hid Opc.rows
   clear Opc
   go_wp2
   go_ret
   exact ⟨_, rfl, HR.out, hs⟩
theorem al_total {v : Value} {L : List Int} (w : World) (hl : Rows 1 3 IC w v L) (h1 : 1 ≤ L.length) (h128 : L.length ≤ 128) (hz : ∀ x ∈ L, 0 ≤ x ∧ x ≤ 1000) :
  Calls Tryz.prog 53 #[v] w (RetV w (.int .i64 (totS L L.length))) := by
 obtain ⟨rb, ro, rc, rfl, hc1, hc2, -⟩ := hl.open_ (by omega)
 have hs := Below.refl w.heap.size w
 have HL := Lib.hid hl
 have HZ := Lib.hid hz
 clear hl hz
 go_enter Tryz.func53, Tryz.ntmps53
 go_wp2
 go_loopw [3, 8] (fun s3 s8 wq => ∃ j : Nat, j ≤ L.length ∧ s8 = .int .i64 j ∧ s3 = .int .i64 (totS L j) ∧ Below w.heap.size w wq) (fun s3 s8 _ => L.length - (intOf s8).toNat)
 case atStart => exact ⟨0, Nat.zero_le _, rfl, rfl, hs⟩
 case round =>
  clear hs
  obtain ⟨j, k_le, rfl, rfl, hs⟩ := hrel
  obtain ⟨tb1, tb2⟩ := totS_bd HZ.out j k_le
  obtain ⟨tn, HTN⟩ : ∃ z, z = totS L j := ⟨_, rfl⟩
  rw [← HTN]
  rw [← HTN] at tb1 tb2
  replace HTN := Lib.hid HTN.symm
  by_cases q1 : j < L.length
  ·have q1d : ((j : Int) < (L.length : Int)) = True := eq_true (by omega)
   obtain ⟨B1, le2⟩ := rowI_at (HL.out.mono IC.kept hs) (show j < L.length by omega)
   simp only [Nat.mul_one] at B1
   obtain ⟨ie2a, Hie2a⟩ : ∃ z : Int, z = nthI L j := ⟨_, rfl⟩
   rw [← Hie2a] at B1
   replace Hie2a := Lib.hid Hie2a.symm
   obtain ⟨Bie2aa, Bie2ab⟩ := HZ.out _ (List.mem_of_getElem? (nthI_some (show j < L.length by omega)))
   rw [Hie2a.out] at Bie2aa Bie2ab
   have AWq3 := IntWalk.i64_in (tn + ie2a) (by omega)
   go_wp2
   go_roundw
   case rel => exact ⟨j + 1, by omega, by go_num, by rw [← HTN.out, ← Hie2a.out]; rfl, hs⟩
   all_goals first | (simp [intOf]; done) | (simp [intOf]; omega)
  ·have q1d : ((j : Int) < (L.length : Int)) = False := eq_false (by omega)
   obtain rfl : j = L.length := by omega
   go_wp2
   go_ret
   exact ⟨by rw [HTN.out]; rfl, hs⟩
end Go.Proofs.YtlmemilmhdhgbaaGreat
namespace Go.Proofs.YtlmemilmhdhgbaaGreat
open Go.RowKit Dg
attribute [local go_sem ↓] Go.wp_at_zero Go.wp_at_succ
theorem rkT_bd {L : List Rat} (hL : L.length ≤ 64) (k : Nat) : ∀ x ∈ rkT L k, 0 ≤ x ∧ x ≤ 1000 := fun x hx => by
 unfold rkT at hx
 obtain ⟨i, hi, rfl⟩ := List.mem_map.1 hx
 have b := rnS_bd L (nthQ L i) L.length
 omega
theorem al_RankSum {va vb : Value} {la lb : List Rat} (w : World) (ha : Rows 3 34 PC w va la) (hb : Rows 3 34 PC w vb lb) (h1 : 1 ≤ la.length) (h2 : 1 ≤ lb.length) (h64 : la.length + lb.length ≤ 64) {L : List Rat} (hLL : L = la ++ lb) (hz : ∀ i, i < L.length → SzQ 100000 (nthQ L i)) {R Q : List Int} (hRR : R = rkT L L.length) (hQ : Q = R.take la.length) {t : Int} (htt : totS Q la.length = t) :
  Calls Tryz.prog 19 #[va, vb] w (RetV w (.tuple #[.int .i64 t, .int .i64 0])) := by
 have hR0 : ∀ x ∈ R, 0 ≤ x ∧ x ≤ 1000 := hRR ▸ rkT_bd (by rw [hLL, List.length_append]; exact h64) _
 have hRb : ∀ x ∈ Q, 0 ≤ x ∧ x ≤ 1000 := fun x hx => hR0 x (List.mem_of_mem_take (hQ ▸ hx))
 have hrl : R.length = la.length + lb.length := by rw [hRR, rkT_len, hLL, List.length_append]
 have hlt : Q.length = la.length := by rw [hQ, List.length_take]; omega
 have hrl1 : la.length ≤ R.length := by omega
 have hrl2 : R.length ≤ 64 := by omega
 have HRB := Lib.hid hRb
 have HRR := Lib.hid hRR
 have HQ := Lib.hid hQ
 have HLT := Lib.hid hlt
 have HTT := Lib.hid htt
 clear hR0 hRb hrl hlt hRR hQ htt
 obtain ⟨ao, c, rfl, hc1, hc2, hc3⟩ := ha.slice
 obtain ⟨bo, d, rfl, hd1, hd2, hd3⟩ := hb.slice
 have hs := Below.refl w.heap.size w
 have hL : L.length = la.length + lb.length := by rw [hLL, List.length_append]
 have HLL := Lib.hid hLL
 have HL := Lib.hid hL
 have HZ := Lib.hid hz
 clear hz hL hLL
 go_enter Tryz.func19, Tryz.ntmps19
 go_wp2_with fail
 refine (al_checkTwo w ha hb h1 h2 h64).mono ?_
 rintro e w1 ⟨rfl, hbb⟩
 replace hs := bStep hs hbb
 replace ha := ha.mono PC.kept hbb
 replace hb := hb.mono PC.kept hbb
 clear hbb
 go_wp2_with fail
 refine Calls.abs ?_
 intro w2 hW
 have Blb : Bx w2 w1.heap.size 27 #[.slice ao la.length c, .slice bo lb.length d] := by rw [hW]; exact Bx.new _ _ _
 have hbb : Below w1.heap.size w1 w2 := by rw [hW]; exact (Below.refl _ _).alloc (Nat.le_refl _) _
 replace hs := bStep hs hbb
 replace ha := ha.mono PC.kept hbb
 replace hb := hb.mono PC.kept hbb
 clear hbb hW
 refine (al_Concat w2 Blb ha hb h1 h2 (by omega)).mono ?_
 rintro e w3 ⟨vc, rfl, hc, hbb⟩
 rw [← HLL.out] at hc
 obtain ⟨bc, oc, cc, rfl, hc4, hc5, -⟩ := hc.open_ (by rw [HL.out]; omega)
 replace hs := bStep hs hbb
 clear hbb ha hb Blb
 go_wp2_with fail
 refine (al_ranks w3 hc (by rw [HL.out]; omega) (by rw [HL.out]; omega) HZ.out).mono ?_
 rintro e w4 ⟨vr, rfl, hr, hbb⟩
 rw [← HRR.out] at hr
 obtain ⟨br, or, cr, rfl, hr4, hr5, -⟩ := hr.open_ (by omega)
 replace hs := bStep hs hbb
 clear hbb hc
 have hr6 : la.length ≤ cr := by omega
 have ht := hr.take la.length _ _ _ rfl hrl1
 rw [← HQ.out] at ht
 have hT := al_total w4 (by rw [← HLT.out] at ht; exact ht) (by rw [HLT.out]; exact h1) (by rw [HLT.out]; omega) HRB.out
 rw [HLT.out, HTT.out] at hT
 have HT := Lib.hid hT
 clear hT ht hr
 go_wp2_with fail
 refine HT.out.mono ?_
 rintro e w5 ⟨rfl, hbb⟩
 replace hs := bStep hs hbb
 clear hbb
 go_wp2
 go_ret2
 exact ⟨rfl, hs⟩
end Go.Proofs.YtlmemilmhdhgbaaGreat
