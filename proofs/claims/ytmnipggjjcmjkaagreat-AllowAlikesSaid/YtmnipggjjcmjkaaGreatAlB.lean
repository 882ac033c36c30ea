/-
  allow: Tail, Rank, Coupons.
-/
import Derived.Test.YtmnipggjjcmjkaaGreatAlA
set_option linter.unusedSimpArgs false
set_option linter.unusedVariables false
namespace Go.Proofs.YtmnipggjjcmjkaaGreat
open Go.RowKit Dg
attribute [local go_sem ↓] Go.wp_at_zero Go.wp_at_succ

theorem less_sz {s : Rat} (h0 : 0 ≤ s) (h1 : s ≤ 1) (hs : SzQ 1 s) : SzQ 1 (1 - s) := by
  have e : (1 - s) * (s.den : Rat) = (((s.den : Int) - s.num : Int) : Rat) := by
    rw [Rat.intCast_sub, Rat.intCast_natCast, ← mul_den_num s]; grind
  have a := part_bd1 s.den_pos e (by grind) (by grind)
  have b := hs.2
  exact ⟨by omega, by omega⟩
theorem al_tail {v : Value} {p : Rat} {n : Nat} {k : Int} (w : World) (hp : PV w v p) (sp : SzQ 1 p) (h0 : 0 ≤ p) (h1 : p ≤ 1) (hn : n ≤ 64) {q : Rat} (hq : tailQ n k p = q) : Calls Tryz.prog 65 #[.int .i64 n, .int .i64 k, v] w (RetP w q) := by
  subst hq
  by_cases h : k ≤ 0
  · rw [tailQ_le h]; exact al_tail_le v p n k w hp sp h0 h1 hn h
  · obtain ⟨kk, rfl⟩ : ∃ kk : Nat, k = kk := ⟨k.toNat, by omega⟩
    rw [tailQ_gt (by omega)]; exact al_tail_gt v p n kk w hp sp h0 h1 hn (by omega)
/-- The error's number of a rank, of a number of coupons. -/
def rkE (r : Nat) : Int := if r = 0 then 80 else 0
def cpE (r : Nat) : Int := if r = 0 then 5 else 0
theorem rkE_no : rkE 0 = 80 := rfl
theorem rkE_yes {r : Nat} (h : r ≠ 0) : rkE r = 0 := if_neg h
theorem cpE_no : cpE 0 = 5 := rfl
theorem cpE_yes {r : Nat} (h : r ≠ 0) : cpE r = 0 := if_neg h

set_option maxRecDepth 100000 in
set_option maxHeartbeats 8000000 in
theorem al_Tail_ok {v : Value} {p : Rat} {n : Nat} {k : Int} (w : World) (hp : PV w v p) (sp : SzQ 1 p) (h0 : 0 ≤ p) (h1 : p ≤ 1) (hn : n ≤ 64) {q : Rat} (hq : tailQ n k p = q) :
    Calls Tryz.prog 12 #[.int .i64 n, .int .i64 k, v] w (RetPE w q 0) := by
  obtain ⟨shp, ahp, nhp, chp, Ahp, Nhp, Chp, rfl⟩ := hp.shape
  have hs := Below.refl w.heap.size w
  have HP := Lib.hid (show 0 ≤ p ∧ p ≤ 1 from ⟨h0, h1⟩)
  have sq : SzQ 65 q := hq ▸ (tail_sz h0 h1 sp n k).mono (by omega)
  have HQ := Lib.hid hq
  clear h0 h1 hq
  go_enter Tryz.func12, Tryz.ntmps12
  have q1 : ¬ (n < 0) := (by omega)
  have q1d : ((n : Int) < 0) = False := eq_false (by omega)
  have q2 : ¬ (64 < n) := (by omega)
  have q2d : ((64 : Int) < (n : Int)) = False := eq_false (by omega)
  go_wp2_with fail
  refine Calls.abs ?_
  intro w1 hW
  have hG : Gr [] w w1 := by rw [hW]; exact (Gr.refl _ _).alloc.alloc
  have hbw : Below w.heap.size w w1 := hG.below0 hs.size
  have hk : KeepD w w1 := hG.keep True.intro
  have sz_w1 : w.heap.size ≤ w.heap.size := hs.size
  have Blp : Bx w1 (w.heap.size) 29 #[.bool shp, .slice ahp nhp chp, .slice Ahp Nhp Chp] := by rw [hW]; exact ((Bx.new0 _ _ _).alloc _)
  have Blk : Bx w1 (w.heap.size + 1) 29 #[.bool false, .slice none 0 0, .slice none 0 0] := by rw [hW]; exact (Bx.new0 _ _ _)
  replace hs := hs.trans hbw
  replace hp := hp.keep hk
  clear hW hG hk hbw
  have hz_w1 : w.heap.size + 1 < w1.heap.size := Blk.lt
  with_reducible refine (al_isChance _ _ _ hp (SzQ.mid sp) rfl).mono ?_
  rintro e w2 ⟨rfl, hb⟩
  replace hs := bStep hs hb
  replace Blp := Blp.mono hb
  replace Blk := Blk.mono hb
  replace hp := hp.mono hb
  clear hb
  obtain ⟨b3, Hb3⟩ : ∃ b : Bool, b = decide (0 ≤ p ∧ p ≤ 1) := ⟨_, rfl⟩
  rw [← Hb3]
  replace Hb3 := Lib.hid Hb3
  have q4 : 0 ≤ p ∧ p ≤ 1 := HP.out
  obtain rfl : b3 = true := by rw [Hb3.out]; exact decide_eq_true q4
  have q4H := Lib.hid q4
  clear q4
  have cp_0 : w2.cell? ⟨w.heap.size, 0, none⟩ = some (.bool shp) := Blp.at 0 rfl
  have cp_1 : w2.cell? ⟨w.heap.size, 1, none⟩ = some (.slice ahp nhp chp) := Blp.at 1 rfl
  have cp_2 : w2.cell? ⟨w.heap.size, 2, none⟩ = some (.slice Ahp Nhp Chp) := Blp.at 2 rfl
  have Lp : w.heap.size < w2.heap.size := Blp.lt
  go_wp2_with fail
  clear cp_0 cp_1 cp_2 Lp
  with_reducible refine (al_tail _ hp sp HP.out.1 HP.out.2 (by omega) HQ.out).mono ?_
  rintro e w3 ⟨_, rfl, h5, hb⟩
  obtain ⟨sh5, ah5, nh5, ch5, Ah5, Nh5, Ch5, rfl⟩ := h5.shape
  replace hs := bStep hs hb
  replace Blp := Blp.mono hb
  replace Blk := Blk.mono hb
  replace hp := hp.mono hb
  clear hb
  have ck_0 : w3.cell? ⟨w.heap.size + 1, 0, none⟩ = some (.bool false) := Blk.at 0 rfl
  have ck_1 : w3.cell? ⟨w.heap.size + 1, 1, none⟩ = some (.slice none 0 0) := Blk.at 1 rfl
  have ck_2 : w3.cell? ⟨w.heap.size + 1, 2, none⟩ = some (.slice none 0 0) := Blk.at 2 rfl
  have fk := Blk.free
  have Lk : w.heap.size + 1 < w3.heap.size := Blk.lt
  go_wp2
  clear ck_0 ck_1 ck_2 fk Lk
  refine bodyPost.abs ?_
  intro w4 hW
  have hG : Gr [w.heap.size + 1] w3 w4 := by rw [hW]; exact (Gr.refl _ _).set.set.set
  have hsz := hs.size
  have lk := Blk.lt
  have hbw : Below w.heap.size w3 w4 := hG.below1 hs.size (by first | omega | assumption)
  have hk : KeepD w3 w4 := hG.keep ⟨⟨_, Blk.ty, by decide⟩, True.intro⟩
  have Bl1k : Bx w4 (w.heap.size + 1) 29 #[.bool sh5, .slice ah5 nh5 ch5, .slice Ah5 Nh5 Ch5] := by rw [hW]; exact Blk.set3
  replace hs := hs.trans hbw
  replace Blp := hG.bx Blp (notMem1 (by omega))
  replace Blk := Bl1k
  clear Bl1k
  replace hp := hp.keep hk
  replace h5 := h5.keep hk
  clear hW hG hk hbw hsz lk
  have ck_0 : w4.cell? ⟨w.heap.size + 1, 0, none⟩ = some (.bool sh5) := Blk.at 0 rfl
  have ck_1 : w4.cell? ⟨w.heap.size + 1, 1, none⟩ = some (.slice ah5 nh5 ch5) := Blk.at 1 rfl
  have ck_2 : w4.cell? ⟨w.heap.size + 1, 2, none⟩ = some (.slice Ah5 Nh5 Ch5) := Blk.at 2 rfl
  exact bodyPost_ret (v := .tuple #[.agg #[.bool sh5, .slice ah5 nh5 ch5, .slice Ah5 Nh5 Ch5], .int .i64 0]) (by simp [results, Tryz.results12, go_sem, ck_0, ck_1, ck_2]) rfl ⟨_, rfl, h5, hs⟩

set_option maxRecDepth 100000 in
set_option maxHeartbeats 8000000 in
theorem al_Tail_bad1 {v : Value} {p : Rat} {n k : Int} (w : World) (hp : PV w v p) (hn : n < 0) :
    Calls Tryz.prog 12 #[.int .i64 n, .int .i64 k, v] w (RetPE w 0 1) := by
  obtain ⟨shp, ahp, nhp, chp, Ahp, Nhp, Chp, rfl⟩ := hp.shape
  have hs := Below.refl w.heap.size w
  go_enter Tryz.func12, Tryz.ntmps12
  have q1 : n < 0 := (by omega)
  have q1d : (n < 0) = True := eq_true (by omega)
  go_wp2
  refine bodyPost.abs ?_
  intro w1 hW
  have hG : Gr [] w w1 := by rw [hW]; exact (Gr.refl _ _).alloc.alloc
  have hbw : Below w.heap.size w w1 := hG.below0 hs.size
  have hk : KeepD w w1 := hG.keep True.intro
  have sz_w1 : w.heap.size ≤ w.heap.size := hs.size
  have Blp : Bx w1 (w.heap.size) 29 #[.bool shp, .slice ahp nhp chp, .slice Ahp Nhp Chp] := by rw [hW]; exact ((Bx.new0 _ _ _).alloc _)
  have Blk : Bx w1 (w.heap.size + 1) 29 #[.bool false, .slice none 0 0, .slice none 0 0] := by rw [hW]; exact (Bx.new0 _ _ _)
  replace hs := hs.trans hbw
  replace hp := hp.keep hk
  clear hW hG hk hbw
  have hz_w1 : w.heap.size + 1 < w1.heap.size := Blk.lt
  have ck_0 : w1.cell? ⟨w.heap.size + 1, 0, none⟩ = some (.bool false) := Blk.at 0 rfl
  have ck_1 : w1.cell? ⟨w.heap.size + 1, 1, none⟩ = some (.slice none 0 0) := Blk.at 1 rfl
  have ck_2 : w1.cell? ⟨w.heap.size + 1, 2, none⟩ = some (.slice none 0 0) := Blk.at 2 rfl
  exact bodyPost_ret (v := .tuple #[.agg #[.bool false, .slice none 0 0, .slice none 0 0], .int .i64 1]) (by simp [results, Tryz.results12, go_sem, ck_0, ck_1, ck_2]) rfl ⟨_, rfl, (PV.zero _), hs⟩

set_option maxRecDepth 100000 in
set_option maxHeartbeats 8000000 in
theorem al_Tail_bad2 {v : Value} {p : Rat} {n k : Int} (w : World) (hp : PV w v p) (hn : 64 < n) :
    Calls Tryz.prog 12 #[.int .i64 n, .int .i64 k, v] w (RetPE w 0 1) := by
  obtain ⟨shp, ahp, nhp, chp, Ahp, Nhp, Chp, rfl⟩ := hp.shape
  have hs := Below.refl w.heap.size w
  go_enter Tryz.func12, Tryz.ntmps12
  have q1 : ¬ (n < 0) := (by omega)
  have q1d : (n < 0) = False := eq_false (by omega)
  have q2 : 64 < n := (by omega)
  have q2d : ((64 : Int) < n) = True := eq_true (by omega)
  go_wp2
  refine bodyPost.abs ?_
  intro w1 hW
  have hG : Gr [] w w1 := by rw [hW]; exact (Gr.refl _ _).alloc.alloc
  have hbw : Below w.heap.size w w1 := hG.below0 hs.size
  have hk : KeepD w w1 := hG.keep True.intro
  have sz_w1 : w.heap.size ≤ w.heap.size := hs.size
  have Blp : Bx w1 (w.heap.size) 29 #[.bool shp, .slice ahp nhp chp, .slice Ahp Nhp Chp] := by rw [hW]; exact ((Bx.new0 _ _ _).alloc _)
  have Blk : Bx w1 (w.heap.size + 1) 29 #[.bool false, .slice none 0 0, .slice none 0 0] := by rw [hW]; exact (Bx.new0 _ _ _)
  replace hs := hs.trans hbw
  replace hp := hp.keep hk
  clear hW hG hk hbw
  have hz_w1 : w.heap.size + 1 < w1.heap.size := Blk.lt
  have ck_0 : w1.cell? ⟨w.heap.size + 1, 0, none⟩ = some (.bool false) := Blk.at 0 rfl
  have ck_1 : w1.cell? ⟨w.heap.size + 1, 1, none⟩ = some (.slice none 0 0) := Blk.at 1 rfl
  have ck_2 : w1.cell? ⟨w.heap.size + 1, 2, none⟩ = some (.slice none 0 0) := Blk.at 2 rfl
  exact bodyPost_ret (v := .tuple #[.agg #[.bool false, .slice none 0 0, .slice none 0 0], .int .i64 1]) (by simp [results, Tryz.results12, go_sem, ck_0, ck_1, ck_2]) rfl ⟨_, rfl, (PV.zero _), hs⟩

set_option maxRecDepth 100000 in
set_option maxHeartbeats 8000000 in
theorem al_Tail_bad3 {v : Value} {p : Rat} {n k : Int} (w : World) (hp : PV w v p) (sp : SzQ 1 p) (hn : 0 ≤ n) (hn2 : n ≤ 64) (hc : ¬ (0 ≤ p ∧ p ≤ 1)) :
    Calls Tryz.prog 12 #[.int .i64 n, .int .i64 k, v] w (RetPE w 0 1) := by
  obtain ⟨shp, ahp, nhp, chp, Ahp, Nhp, Chp, rfl⟩ := hp.shape
  have hs := Below.refl w.heap.size w
  have HP := Lib.hid hc
  clear hc
  go_enter Tryz.func12, Tryz.ntmps12
  have q1 : ¬ (n < 0) := (by omega)
  have q1d : (n < 0) = False := eq_false (by omega)
  have q2 : ¬ (64 < n) := (by omega)
  have q2d : ((64 : Int) < n) = False := eq_false (by omega)
  go_wp2_with fail
  refine Calls.abs ?_
  intro w1 hW
  have hG : Gr [] w w1 := by rw [hW]; exact (Gr.refl _ _).alloc.alloc
  have hbw : Below w.heap.size w w1 := hG.below0 hs.size
  have hk : KeepD w w1 := hG.keep True.intro
  have sz_w1 : w.heap.size ≤ w.heap.size := hs.size
  have Blp : Bx w1 (w.heap.size) 29 #[.bool shp, .slice ahp nhp chp, .slice Ahp Nhp Chp] := by rw [hW]; exact ((Bx.new0 _ _ _).alloc _)
  have Blk : Bx w1 (w.heap.size + 1) 29 #[.bool false, .slice none 0 0, .slice none 0 0] := by rw [hW]; exact (Bx.new0 _ _ _)
  replace hs := hs.trans hbw
  replace hp := hp.keep hk
  clear hW hG hk hbw
  have hz_w1 : w.heap.size + 1 < w1.heap.size := Blk.lt
  with_reducible refine (al_isChance _ _ _ hp (SzQ.mid sp) rfl).mono ?_
  rintro e w2 ⟨rfl, hb⟩
  replace hs := bStep hs hb
  replace Blp := Blp.mono hb
  replace Blk := Blk.mono hb
  replace hp := hp.mono hb
  clear hb
  obtain ⟨b3, Hb3⟩ : ∃ b : Bool, b = decide (0 ≤ p ∧ p ≤ 1) := ⟨_, rfl⟩
  rw [← Hb3]
  replace Hb3 := Lib.hid Hb3
  have q4 : ¬ (0 ≤ p ∧ p ≤ 1) := HP.out
  obtain rfl : b3 = false := by rw [Hb3.out]; exact decide_eq_false q4
  have q4H := Lib.hid q4
  clear q4
  have ck_0 : w2.cell? ⟨w.heap.size + 1, 0, none⟩ = some (.bool false) := Blk.at 0 rfl
  have ck_1 : w2.cell? ⟨w.heap.size + 1, 1, none⟩ = some (.slice none 0 0) := Blk.at 1 rfl
  have ck_2 : w2.cell? ⟨w.heap.size + 1, 2, none⟩ = some (.slice none 0 0) := Blk.at 2 rfl
  have fk := Blk.free
  have Lk : w.heap.size + 1 < w2.heap.size := Blk.lt
  go_wp2
  clear ck_0 ck_1 ck_2 fk Lk
  refine bodyPost.abs ?_
  intro w3 hW
  have hG : Gr [w.heap.size + 1] w2 w3 := by rw [hW]; exact (Gr.refl _ _).set.set.set
  have hsz := hs.size
  have lk := Blk.lt
  have hbw : Below w.heap.size w2 w3 := hG.below1 hs.size (by first | omega | assumption)
  have hk : KeepD w2 w3 := hG.keep ⟨⟨_, Blk.ty, by decide⟩, True.intro⟩
  have Bl1k : Bx w3 (w.heap.size + 1) 29 #[.bool false, .slice none 0 0, .slice none 0 0] := by rw [hW]; exact Blk.set3
  replace hs := hs.trans hbw
  replace Blp := hG.bx Blp (notMem1 (by omega))
  replace Blk := Bl1k
  clear Bl1k
  replace hp := hp.keep hk
  clear hW hG hk hbw hsz lk
  have ck_0 : w3.cell? ⟨w.heap.size + 1, 0, none⟩ = some (.bool false) := Blk.at 0 rfl
  have ck_1 : w3.cell? ⟨w.heap.size + 1, 1, none⟩ = some (.slice none 0 0) := Blk.at 1 rfl
  have ck_2 : w3.cell? ⟨w.heap.size + 1, 2, none⟩ = some (.slice none 0 0) := Blk.at 2 rfl
  exact bodyPost_ret (v := .tuple #[.agg #[.bool false, .slice none 0 0, .slice none 0 0], .int .i64 1]) (by simp [results, Tryz.results12, go_sem, ck_0, ck_1, ck_2]) rfl ⟨_, rfl, (PV.zero _), hs⟩

set_option maxRecDepth 100000 in
set_option maxHeartbeats 8000000 in
theorem al_Rank_ok {v v' : Value} {u c : Rat} {n : Nat} (w : World) (hu : PV w v u) (su : SzQ 1 u) (u0 : 0 ≤ u) (u1 : u ≤ 1) (hc : PV w v' c) (sc : SzQ 1 c) (c0 : 0 ≤ c) (c1 : c ≤ 1) (h1 : 1 ≤ n) (hn : n ≤ 64) {r e : Int} (hr : (rkF (1 - u) n c n : Int) = r) (he : rkE (rkF (1 - u) n c n) = e) :
    Calls Tryz.prog 16 #[.int .i64 n, v, v'] w (RetV w (.tuple #[.int .i64 r, .int .i64 e])) := by
  obtain ⟨shu, ahu, nhu, chu, Ahu, Nhu, Chu, rfl⟩ := hu.shape
  obtain ⟨shc, ahc, nhc, chc, Ahc, Nhc, Chc, rfl⟩ := hc.shape
  have hs := Below.refl w.heap.size w
  have HS := Lib.hid (show 0 ≤ u ∧ u ≤ 1 from ⟨u0, u1⟩)
  have HC := Lib.hid (show 0 ≤ c ∧ c ≤ 1 from ⟨c0, c1⟩)
  have sl := less_sz u0 u1 su
  have HL := Lib.hid (show 0 ≤ 1 - u ∧ 1 - u ≤ 1 by grind)
  have HZ := Lib.hid (fun n k => tl_sz HL.out.1 HL.out.2 sl n k)
  have HR := Lib.hid hr
  have HE := Lib.hid he
  clear u0 u1 c0 c1 hr he
  go_enter Tryz.func16, Tryz.ntmps16
  have q1 : ¬ (n < 1) := (by omega)
  have q1d : ((n : Int) < 1) = False := eq_false (by omega)
  have q2 : ¬ (64 < n) := (by omega)
  have q2d : ((64 : Int) < (n : Int)) = False := eq_false (by omega)
  go_wp2_with fail
  refine Calls.abs ?_
  intro w1 hW
  have hG : Gr [] w w1 := by rw [hW]; exact (Gr.refl _ _).alloc.alloc
  have hbw : Below w.heap.size w w1 := hG.below0 hs.size
  have hk : KeepD w w1 := hG.keep True.intro
  have sz_w1 : w.heap.size ≤ w.heap.size := hs.size
  have Blshare : Bx w1 (w.heap.size) 29 #[.bool shu, .slice ahu nhu chu, .slice Ahu Nhu Chu] := by rw [hW]; exact ((Bx.new0 _ _ _).alloc _)
  have Blconfidence : Bx w1 (w.heap.size + 1) 29 #[.bool shc, .slice ahc nhc chc, .slice Ahc Nhc Chc] := by rw [hW]; exact (Bx.new0 _ _ _)
  replace hs := hs.trans hbw
  replace hu := hu.keep hk
  replace hc := hc.keep hk
  clear hW hG hk hbw
  have hz_w1 : w.heap.size + 1 < w1.heap.size := Blconfidence.lt
  with_reducible refine (al_isChance _ _ _ hu (SzQ.mid su) rfl).mono ?_
  rintro e w2 ⟨rfl, hb⟩
  replace hs := bStep hs hb
  replace Blshare := Blshare.mono hb
  replace Blconfidence := Blconfidence.mono hb
  replace hu := hu.mono hb
  replace hc := hc.mono hb
  clear hb
  obtain ⟨b3, Hb3⟩ : ∃ b : Bool, b = decide (0 ≤ u ∧ u ≤ 1) := ⟨_, rfl⟩
  rw [← Hb3]
  replace Hb3 := Lib.hid Hb3
  have q4 : 0 ≤ u ∧ u ≤ 1 := HS.out
  obtain rfl : b3 = true := by rw [Hb3.out]; exact decide_eq_true q4
  have q4H := Lib.hid q4
  clear q4
  have cconfidence_0 : w2.cell? ⟨w.heap.size + 1, 0, none⟩ = some (.bool shc) := Blconfidence.at 0 rfl
  have cconfidence_1 : w2.cell? ⟨w.heap.size + 1, 1, none⟩ = some (.slice ahc nhc chc) := Blconfidence.at 1 rfl
  have cconfidence_2 : w2.cell? ⟨w.heap.size + 1, 2, none⟩ = some (.slice Ahc Nhc Chc) := Blconfidence.at 2 rfl
  have Lconfidence : w.heap.size + 1 < w2.heap.size := Blconfidence.lt
  go_wp2_with fail
  clear cconfidence_0 cconfidence_1 cconfidence_2 Lconfidence
  with_reducible refine (al_isChance _ _ _ hc (SzQ.mid sc) rfl).mono ?_
  rintro e w3 ⟨rfl, hb⟩
  replace hs := bStep hs hb
  replace Blshare := Blshare.mono hb
  replace Blconfidence := Blconfidence.mono hb
  replace hu := hu.mono hb
  replace hc := hc.mono hb
  clear hb
  obtain ⟨b5, Hb5⟩ : ∃ b : Bool, b = decide (0 ≤ c ∧ c ≤ 1) := ⟨_, rfl⟩
  rw [← Hb5]
  replace Hb5 := Lib.hid Hb5
  have q6 : 0 ≤ c ∧ c ≤ 1 := HC.out
  obtain rfl : b5 = true := by rw [Hb5.out]; exact decide_eq_true q6
  have q6H := Lib.hid q6
  clear q6
  go_wp2
  go_loopw [8] (fun s8 wq => ∃ k : Nat, k ≤ n ∧ s8 = .int .i64 k ∧ Below w.heap.size w wq ∧ Bx wq (w.heap.size) 29 #[.bool shu, .slice ahu nhu chu, .slice Ahu Nhu Chu] ∧ Bx wq (w.heap.size + 1) 29 #[.bool shc, .slice ahc nhc chc, .slice Ahc Nhc Chc] ∧ PV wq (.agg #[.bool shu, .slice ahu nhu chu, .slice Ahu Nhu Chu]) (u) ∧ PV wq (.agg #[.bool shc, .slice ahc nhc chc, .slice Ahc Nhc Chc]) (c) ∧ (rkF (1 - u) n c n = rkF (1 - u) n c k)) (fun s8 _ => (intOf s8).toNat)
  case atStart => exact ⟨n, Nat.le_refl _, rfl, hs, Blshare, Blconfidence, hu, hc, rfl⟩
  case round =>
    clear Blshare Blconfidence hu hc hs
    obtain ⟨k, k_le, rfl, hs, Blshare, Blconfidence, hu, hc, HI⟩ := hrel
    replace HI := Lib.hid HI
    by_cases q7 : 1 ≤ k
    · have q7d : ((1 : Int) ≤ (k : Int)) = True := eq_true (by omega)
      go_upto_region 6 with fail
      obtain ⟨sg10, Hsg10⟩ : ∃ s : Int, s = sgQ ((tlQ (1 - u) n k) - c) := ⟨_, rfl⟩
      replace Hsg10 := Lib.hid Hsg10
      refine U_region (S := fun w' => w'.cell? ⟨w.heap.size, 0, none⟩ = some (.bool shu) ∧ w'.cell? ⟨w.heap.size, 1, none⟩ = some (.slice ahu nhu chu) ∧ w'.cell? ⟨w.heap.size, 2, none⟩ = some (.slice Ahu Nhu Chu) ∧ w'.cell? ⟨w.heap.size + 1, 0, none⟩ = some (.bool shc) ∧ w'.cell? ⟨w.heap.size + 1, 1, none⟩ = some (.slice ahc nhc chc) ∧ w'.cell? ⟨w.heap.size + 1, 2, none⟩ = some (.slice Ahc Nhc Chc)) (by kernel_rfl) 8 ?_
      refine AnyU.abs ?_
      intro w24 hW
      have hb : Below wr.heap.size wr w24 := by rw [hW]; exact bDrew _
      replace hs := bStep hs hb
      replace Blshare := Blshare.mono hb
      replace Blconfidence := Blconfidence.mono hb
      replace hu := hu.mono hb
      replace hc := hc.mono hb
      clear hb hW
      have cshare_0 : w24.cell? ⟨w.heap.size, 0, none⟩ = some (.bool shu) := Blshare.at 0 rfl
      have cshare_1 : w24.cell? ⟨w.heap.size, 1, none⟩ = some (.slice ahu nhu chu) := Blshare.at 1 rfl
      have cshare_2 : w24.cell? ⟨w.heap.size, 2, none⟩ = some (.slice Ahu Nhu Chu) := Blshare.at 2 rfl
      have cconfidence_0 : w24.cell? ⟨w.heap.size + 1, 0, none⟩ = some (.bool shc) := Blconfidence.at 0 rfl
      have cconfidence_1 : w24.cell? ⟨w.heap.size + 1, 1, none⟩ = some (.slice ahc nhc chc) := Blconfidence.at 1 rfl
      have cconfidence_2 : w24.cell? ⟨w.heap.size + 1, 2, none⟩ = some (.slice Ahc Nhc Chc) := Blconfidence.at 2 rfl
      have hH := (show w24.cell? ⟨w.heap.size, 0, none⟩ = some (.bool shu) ∧ w24.cell? ⟨w.heap.size, 1, none⟩ = some (.slice ahu nhu chu) ∧ w24.cell? ⟨w.heap.size, 2, none⟩ = some (.slice Ahu Nhu Chu) ∧ w24.cell? ⟨w.heap.size + 1, 0, none⟩ = some (.bool shc) ∧ w24.cell? ⟨w.heap.size + 1, 1, none⟩ = some (.slice ahc nhc chc) ∧ w24.cell? ⟨w.heap.size + 1, 2, none⟩ = some (.slice Ahc Nhc Chc) from ⟨cshare_0, cshare_1, cshare_2, cconfidence_0, cconfidence_1, cconfidence_2⟩)
      refine U_takeN (i := 0) (d := 30) (v := ?_) rfl rfl rfl (by kernel_rfl) (by kernel_rfl) (by kernel_rfl) (fun _ _ _ h => h) (Or.inl ⟨by rfl, ?_⟩) hH ?_
      rotate_left
      · intro w hSw
        try dsimp only at hSw
        go_simp
        try with_reducible rfl
      simp only [LY]
      refine U_takeN (i := 1) (d := 31) (v := ?_) rfl rfl rfl (by kernel_rfl) (by kernel_rfl) (by kernel_rfl) (fun _ _ _ h => h) (Or.inl ⟨by rfl, ?_⟩) hH ?_
      rotate_left
      · intro w hSw
        try dsimp only at hSw
        go_simp
        try with_reducible rfl
      simp only [LY]
      refine U_takeN (i := 2) (d := 32) (v := ?_) rfl rfl rfl (by kernel_rfl) (by kernel_rfl) (by kernel_rfl) (fun _ _ _ h => h) (Or.inl ⟨by rfl, ?_⟩) hH ?_
      rotate_left
      · intro w hSw
        try dsimp only at hSw
        go_simp
        try with_reducible rfl
      simp only [LY]
      refine U_takeN (i := 5) (d := 35) (v := ?_) rfl rfl rfl (by kernel_rfl) (by kernel_rfl) (by kernel_rfl) (fun _ _ _ h => h) (Or.inl ⟨by rfl, ?_⟩) hH ?_
      rotate_left
      · intro w hSw
        try dsimp only at hSw
        go_simp
        try with_reducible rfl
      simp only [LY]
      clear hH
      refine U_one (i := 3) (by kernel_rfl) rfl (fun K hK => ?_)
      go_simp
      (with_reducible refine (al_less _ _ _ hu (SzQ.mid su)).mono ?_)
      rintro e w25 ⟨_, rfl, h8, hb⟩
      obtain ⟨sh8, ah8, nh8, ch8, Ah8, Nh8, Ch8, rfl⟩ := h8.shape
      replace hs := bStep hs hb
      replace Blshare := Blshare.mono hb
      replace Blconfidence := Blconfidence.mono hb
      replace hu := hu.mono hb
      replace hc := hc.mono hb
      replace cshare_0 := cellK cshare_0 hb
      replace cshare_1 := cellK cshare_1 hb
      replace cshare_2 := cellK cshare_2 hb
      replace cconfidence_0 := cellK cconfidence_0 hb
      replace cconfidence_1 := cellK cconfidence_1 hb
      replace cconfidence_2 := cellK cconfidence_2 hb
      clear hb
      try go_wp2_with fail
      refine hK.out _ _ ⟨cshare_0, cshare_1, cshare_2, cconfidence_0, cconfidence_1, cconfidence_2⟩ (fun hH => ?_)
      clear hK K
      try simp only [LY]
      clear hH
      refine U_one (i := 4) (by kernel_rfl) rfl (fun K hK => ?_)
      go_simp
      (with_reducible refine (al_tail_gt _ _ n k _ h8 sl HL.out.1 HL.out.2 (by omega) (by omega)).mono ?_)
      rintro e w26 ⟨_, rfl, h9, hb⟩
      obtain ⟨sh9, ah9, nh9, ch9, Ah9, Nh9, Ch9, rfl⟩ := h9.shape
      replace hs := bStep hs hb
      replace Blshare := Blshare.mono hb
      replace Blconfidence := Blconfidence.mono hb
      replace hu := hu.mono hb
      replace hc := hc.mono hb
      replace h8 := h8.mono hb
      replace cshare_0 := cellK cshare_0 hb
      replace cshare_1 := cellK cshare_1 hb
      replace cshare_2 := cellK cshare_2 hb
      replace cconfidence_0 := cellK cconfidence_0 hb
      replace cconfidence_1 := cellK cconfidence_1 hb
      replace cconfidence_2 := cellK cconfidence_2 hb
      clear hb
      try go_wp2_with fail
      refine hK.out _ _ ⟨cshare_0, cshare_1, cshare_2, cconfidence_0, cconfidence_1, cconfidence_2⟩ (fun hH => ?_)
      clear hK K
      try simp only [LY]
      clear hH
      refine U_one (i := 6) (by kernel_rfl) rfl (fun K hK => ?_)
      go_simp
      (with_reducible refine (pCmp h9 hc (SzQ.fit (SzQ.mono (HZ.out n k) (show n + 1 ≤ 100 by omega))) (SzQ.fit sc)).mono ?_)
      rintro e w27 ⟨rfl, hb⟩
      replace hs := bStep hs hb
      replace Blshare := Blshare.mono hb
      replace Blconfidence := Blconfidence.mono hb
      replace hu := hu.mono hb
      replace hc := hc.mono hb
      replace h8 := h8.mono hb
      replace h9 := h9.mono hb
      replace cshare_0 := cellK cshare_0 hb
      replace cshare_1 := cellK cshare_1 hb
      replace cshare_2 := cellK cshare_2 hb
      replace cconfidence_0 := cellK cconfidence_0 hb
      replace cconfidence_1 := cellK cconfidence_1 hb
      replace cconfidence_2 := cellK cconfidence_2 hb
      clear hb
      rw [← Hsg10.out]
      try go_wp2_with fail
      refine hK.out _ _ ⟨cshare_0, cshare_1, cshare_2, cconfidence_0, cconfidence_1, cconfidence_2⟩ (fun hH => ?_)
      clear hK K
      try simp only [LY]
      refine U_takeN (i := 7) (d := 37) (v := ?_) rfl rfl rfl (by kernel_rfl) (by kernel_rfl) (by kernel_rfl) (fun _ _ _ h => h) (Or.inl ⟨by rfl, ?_⟩) hH ?_
      rotate_left
      · intro w hSw
        try dsimp only at hSw
        go_simp
        try with_reducible rfl
      simp only [LY]
      clear hH
      refine U_endN (by kernel_rfl) ?_
      clear cshare_0 cshare_1 cshare_2 cconfidence_0 cconfidence_1 cconfidence_2
      by_cases q11 : c ≤ tlQ (1 - u) n k
      · have q11_ : 0 ≤ sg10 := by have h := sq_ge (tlQ (1 - u) n k) c; rw [← Hsg10.out] at h; exact h.2 q11
        have q11H := Lib.hid q11
        clear q11
        have q11d : decide (0 ≤ sg10) = true := decide_eq_true q11_
        go_wp2
        go_ret2
        have hk : rkF (1 - u) n c n = k := HI.out.trans (by obtain ⟨d, rfl⟩ : ∃ d, k = d + 1 := ⟨k - 1, by omega⟩; exact rkF_yes q11H.out)
        exact ⟨by rw [← HR.out, ← HE.out, hk, rkE_yes (show k ≠ 0 by omega)]; rfl, hs⟩
      · have q11_ : ¬ (0 ≤ sg10) := by have h := sq_ge (tlQ (1 - u) n k) c; rw [← Hsg10.out] at h; exact fun h1 => q11 (h.1 h1)
        have q11H := Lib.hid q11
        clear q11
        have q11d : decide (0 ≤ sg10) = false := decide_eq_false q11_
        go_wp2
        go_roundw
        case rel => exact ⟨k - 1, by omega, congrArg _ (by omega), hs, Blshare, Blconfidence, hu, hc, HI.out.trans (by obtain ⟨d, rfl⟩ : ∃ d, k = d + 1 := ⟨k - 1, by omega⟩; exact rkF_no q11H.out)⟩
        all_goals first | (simp [intOf]; done) | (simp [intOf]; omega)
    · have q7d : ((1 : Int) ≤ (k : Int)) = False := eq_false (by omega)
      go_wp2
      go_ret2
      have hk : rkF (1 - u) n c n = 0 := HI.out.trans (by obtain rfl : k = 0 := (by omega); rfl)
      exact ⟨by rw [← HR.out, ← HE.out, hk]; rfl, hs⟩

set_option maxRecDepth 100000 in
set_option maxHeartbeats 8000000 in
theorem al_Coupons_ok {v v' : Value} {u c : Rat} {n : Nat} (w : World) (hu : PV w v u) (su : SzQ 1 u) (u0 : 0 ≤ u) (u1 : u ≤ 1) (hc : PV w v' c) (sc : SzQ 1 c) (c0 : 0 ≤ c) (c1 : c ≤ 1) (h1 : 1 ≤ n) (hn : n ≤ 64) {r e : Int} (hr : (cpF (1 - u) n c (65 - n) n : Int) = r) (he : cpE (cpF (1 - u) n c (65 - n) n) = e) :
    Calls Tryz.prog 19 #[.int .i64 n, v, v'] w (RetV w (.tuple #[.int .i64 r, .int .i64 e])) := by
  obtain ⟨shu, ahu, nhu, chu, Ahu, Nhu, Chu, rfl⟩ := hu.shape
  obtain ⟨shc, ahc, nhc, chc, Ahc, Nhc, Chc, rfl⟩ := hc.shape
  have hs := Below.refl w.heap.size w
  have HS := Lib.hid (show 0 ≤ u ∧ u ≤ 1 from ⟨u0, u1⟩)
  have HC := Lib.hid (show 0 ≤ c ∧ c ≤ 1 from ⟨c0, c1⟩)
  have sl := less_sz u0 u1 su
  have HL := Lib.hid (show 0 ≤ 1 - u ∧ 1 - u ≤ 1 by grind)
  have HZ := Lib.hid (fun n k => tl_sz HL.out.1 HL.out.2 sl n k)
  have HR := Lib.hid hr
  have HE := Lib.hid he
  clear u0 u1 c0 c1 hr he
  go_enter Tryz.func19, Tryz.ntmps19
  have q1 : ¬ (n < 1) := (by omega)
  have q1d : ((n : Int) < 1) = False := eq_false (by omega)
  have q2 : ¬ (64 < n) := (by omega)
  have q2d : ((64 : Int) < (n : Int)) = False := eq_false (by omega)
  go_wp2_with fail
  refine Calls.abs ?_
  intro w1 hW
  have hG : Gr [] w w1 := by rw [hW]; exact (Gr.refl _ _).alloc.alloc
  have hbw : Below w.heap.size w w1 := hG.below0 hs.size
  have hk : KeepD w w1 := hG.keep True.intro
  have sz_w1 : w.heap.size ≤ w.heap.size := hs.size
  have Blshare : Bx w1 (w.heap.size) 29 #[.bool shu, .slice ahu nhu chu, .slice Ahu Nhu Chu] := by rw [hW]; exact ((Bx.new0 _ _ _).alloc _)
  have Blconfidence : Bx w1 (w.heap.size + 1) 29 #[.bool shc, .slice ahc nhc chc, .slice Ahc Nhc Chc] := by rw [hW]; exact (Bx.new0 _ _ _)
  replace hs := hs.trans hbw
  replace hu := hu.keep hk
  replace hc := hc.keep hk
  clear hW hG hk hbw
  have hz_w1 : w.heap.size + 1 < w1.heap.size := Blconfidence.lt
  with_reducible refine (al_isChance _ _ _ hu (SzQ.mid su) rfl).mono ?_
  rintro e w2 ⟨rfl, hb⟩
  replace hs := bStep hs hb
  replace Blshare := Blshare.mono hb
  replace Blconfidence := Blconfidence.mono hb
  replace hu := hu.mono hb
  replace hc := hc.mono hb
  clear hb
  obtain ⟨b3, Hb3⟩ : ∃ b : Bool, b = decide (0 ≤ u ∧ u ≤ 1) := ⟨_, rfl⟩
  rw [← Hb3]
  replace Hb3 := Lib.hid Hb3
  have q4 : 0 ≤ u ∧ u ≤ 1 := HS.out
  obtain rfl : b3 = true := by rw [Hb3.out]; exact decide_eq_true q4
  have q4H := Lib.hid q4
  clear q4
  have cconfidence_0 : w2.cell? ⟨w.heap.size + 1, 0, none⟩ = some (.bool shc) := Blconfidence.at 0 rfl
  have cconfidence_1 : w2.cell? ⟨w.heap.size + 1, 1, none⟩ = some (.slice ahc nhc chc) := Blconfidence.at 1 rfl
  have cconfidence_2 : w2.cell? ⟨w.heap.size + 1, 2, none⟩ = some (.slice Ahc Nhc Chc) := Blconfidence.at 2 rfl
  have Lconfidence : w.heap.size + 1 < w2.heap.size := Blconfidence.lt
  go_wp2_with fail
  clear cconfidence_0 cconfidence_1 cconfidence_2 Lconfidence
  with_reducible refine (al_isChance _ _ _ hc (SzQ.mid sc) rfl).mono ?_
  rintro e w3 ⟨rfl, hb⟩
  replace hs := bStep hs hb
  replace Blshare := Blshare.mono hb
  replace Blconfidence := Blconfidence.mono hb
  replace hu := hu.mono hb
  replace hc := hc.mono hb
  clear hb
  obtain ⟨b5, Hb5⟩ : ∃ b : Bool, b = decide (0 ≤ c ∧ c ≤ 1) := ⟨_, rfl⟩
  rw [← Hb5]
  replace Hb5 := Lib.hid Hb5
  have q6 : 0 ≤ c ∧ c ≤ 1 := HC.out
  obtain rfl : b5 = true := by rw [Hb5.out]; exact decide_eq_true q6
  have q6H := Lib.hid q6
  clear q6
  go_wp2
  go_loopw [8] (fun s8 wq => ∃ k : Nat, n ≤ k ∧ k ≤ 65 ∧ s8 = .int .i64 k ∧ Below w.heap.size w wq ∧ Bx wq (w.heap.size) 29 #[.bool shu, .slice ahu nhu chu, .slice Ahu Nhu Chu] ∧ Bx wq (w.heap.size + 1) 29 #[.bool shc, .slice ahc nhc chc, .slice Ahc Nhc Chc] ∧ PV wq (.agg #[.bool shu, .slice ahu nhu chu, .slice Ahu Nhu Chu]) (u) ∧ PV wq (.agg #[.bool shc, .slice ahc nhc chc, .slice Ahc Nhc Chc]) (c) ∧ (cpF (1 - u) n c (65 - n) n = cpF (1 - u) n c (65 - k) k)) (fun s8 _ => 65 - (intOf s8).toNat)
  case atStart => exact ⟨n, Nat.le_refl _, by omega, rfl, hs, Blshare, Blconfidence, hu, hc, rfl⟩
  case round =>
    clear Blshare Blconfidence hu hc hs
    obtain ⟨k, k_ge, k_le, rfl, hs, Blshare, Blconfidence, hu, hc, HI⟩ := hrel
    replace HI := Lib.hid HI
    by_cases q7 : k ≤ 64
    · have q7d : ((k : Int) ≤ 64) = True := eq_true (by omega)
      go_upto_region 6 with fail
      obtain ⟨sg10, Hsg10⟩ : ∃ s : Int, s = sgQ ((tlQ (1 - u) k n) - c) := ⟨_, rfl⟩
      replace Hsg10 := Lib.hid Hsg10
      refine U_region (S := fun w' => w'.cell? ⟨w.heap.size, 0, none⟩ = some (.bool shu) ∧ w'.cell? ⟨w.heap.size, 1, none⟩ = some (.slice ahu nhu chu) ∧ w'.cell? ⟨w.heap.size, 2, none⟩ = some (.slice Ahu Nhu Chu) ∧ w'.cell? ⟨w.heap.size + 1, 0, none⟩ = some (.bool shc) ∧ w'.cell? ⟨w.heap.size + 1, 1, none⟩ = some (.slice ahc nhc chc) ∧ w'.cell? ⟨w.heap.size + 1, 2, none⟩ = some (.slice Ahc Nhc Chc)) (by kernel_rfl) 8 ?_
      refine AnyU.abs ?_
      intro w24 hW
      have hb : Below wr.heap.size wr w24 := by rw [hW]; exact bDrew _
      replace hs := bStep hs hb
      replace Blshare := Blshare.mono hb
      replace Blconfidence := Blconfidence.mono hb
      replace hu := hu.mono hb
      replace hc := hc.mono hb
      clear hb hW
      have cshare_0 : w24.cell? ⟨w.heap.size, 0, none⟩ = some (.bool shu) := Blshare.at 0 rfl
      have cshare_1 : w24.cell? ⟨w.heap.size, 1, none⟩ = some (.slice ahu nhu chu) := Blshare.at 1 rfl
      have cshare_2 : w24.cell? ⟨w.heap.size, 2, none⟩ = some (.slice Ahu Nhu Chu) := Blshare.at 2 rfl
      have cconfidence_0 : w24.cell? ⟨w.heap.size + 1, 0, none⟩ = some (.bool shc) := Blconfidence.at 0 rfl
      have cconfidence_1 : w24.cell? ⟨w.heap.size + 1, 1, none⟩ = some (.slice ahc nhc chc) := Blconfidence.at 1 rfl
      have cconfidence_2 : w24.cell? ⟨w.heap.size + 1, 2, none⟩ = some (.slice Ahc Nhc Chc) := Blconfidence.at 2 rfl
      have hH := (show w24.cell? ⟨w.heap.size, 0, none⟩ = some (.bool shu) ∧ w24.cell? ⟨w.heap.size, 1, none⟩ = some (.slice ahu nhu chu) ∧ w24.cell? ⟨w.heap.size, 2, none⟩ = some (.slice Ahu Nhu Chu) ∧ w24.cell? ⟨w.heap.size + 1, 0, none⟩ = some (.bool shc) ∧ w24.cell? ⟨w.heap.size + 1, 1, none⟩ = some (.slice ahc nhc chc) ∧ w24.cell? ⟨w.heap.size + 1, 2, none⟩ = some (.slice Ahc Nhc Chc) from ⟨cshare_0, cshare_1, cshare_2, cconfidence_0, cconfidence_1, cconfidence_2⟩)
      refine U_takeN (i := 0) (d := 30) (v := ?_) rfl rfl rfl (by kernel_rfl) (by kernel_rfl) (by kernel_rfl) (fun _ _ _ h => h) (Or.inl ⟨by rfl, ?_⟩) hH ?_
      rotate_left
      · intro w hSw
        try dsimp only at hSw
        go_simp
        try with_reducible rfl
      simp only [LY]
      refine U_takeN (i := 1) (d := 31) (v := ?_) rfl rfl rfl (by kernel_rfl) (by kernel_rfl) (by kernel_rfl) (fun _ _ _ h => h) (Or.inl ⟨by rfl, ?_⟩) hH ?_
      rotate_left
      · intro w hSw
        try dsimp only at hSw
        go_simp
        try with_reducible rfl
      simp only [LY]
      refine U_takeN (i := 2) (d := 32) (v := ?_) rfl rfl rfl (by kernel_rfl) (by kernel_rfl) (by kernel_rfl) (fun _ _ _ h => h) (Or.inl ⟨by rfl, ?_⟩) hH ?_
      rotate_left
      · intro w hSw
        try dsimp only at hSw
        go_simp
        try with_reducible rfl
      simp only [LY]
      refine U_takeN (i := 5) (d := 35) (v := ?_) rfl rfl rfl (by kernel_rfl) (by kernel_rfl) (by kernel_rfl) (fun _ _ _ h => h) (Or.inl ⟨by rfl, ?_⟩) hH ?_
      rotate_left
      · intro w hSw
        try dsimp only at hSw
        go_simp
        try with_reducible rfl
      simp only [LY]
      clear hH
      refine U_one (i := 3) (by kernel_rfl) rfl (fun K hK => ?_)
      go_simp
      (with_reducible refine (al_less _ _ _ hu (SzQ.mid su)).mono ?_)
      rintro e w25 ⟨_, rfl, h8, hb⟩
      obtain ⟨sh8, ah8, nh8, ch8, Ah8, Nh8, Ch8, rfl⟩ := h8.shape
      replace hs := bStep hs hb
      replace Blshare := Blshare.mono hb
      replace Blconfidence := Blconfidence.mono hb
      replace hu := hu.mono hb
      replace hc := hc.mono hb
      replace cshare_0 := cellK cshare_0 hb
      replace cshare_1 := cellK cshare_1 hb
      replace cshare_2 := cellK cshare_2 hb
      replace cconfidence_0 := cellK cconfidence_0 hb
      replace cconfidence_1 := cellK cconfidence_1 hb
      replace cconfidence_2 := cellK cconfidence_2 hb
      clear hb
      try go_wp2_with fail
      refine hK.out _ _ ⟨cshare_0, cshare_1, cshare_2, cconfidence_0, cconfidence_1, cconfidence_2⟩ (fun hH => ?_)
      clear hK K
      try simp only [LY]
      clear hH
      refine U_one (i := 4) (by kernel_rfl) rfl (fun K hK => ?_)
      go_simp
      (with_reducible refine (al_tail_gt _ _ k n _ h8 sl HL.out.1 HL.out.2 (by omega) (by omega)).mono ?_)
      rintro e w26 ⟨_, rfl, h9, hb⟩
      obtain ⟨sh9, ah9, nh9, ch9, Ah9, Nh9, Ch9, rfl⟩ := h9.shape
      replace hs := bStep hs hb
      replace Blshare := Blshare.mono hb
      replace Blconfidence := Blconfidence.mono hb
      replace hu := hu.mono hb
      replace hc := hc.mono hb
      replace h8 := h8.mono hb
      replace cshare_0 := cellK cshare_0 hb
      replace cshare_1 := cellK cshare_1 hb
      replace cshare_2 := cellK cshare_2 hb
      replace cconfidence_0 := cellK cconfidence_0 hb
      replace cconfidence_1 := cellK cconfidence_1 hb
      replace cconfidence_2 := cellK cconfidence_2 hb
      clear hb
      try go_wp2_with fail
      refine hK.out _ _ ⟨cshare_0, cshare_1, cshare_2, cconfidence_0, cconfidence_1, cconfidence_2⟩ (fun hH => ?_)
      clear hK K
      try simp only [LY]
      clear hH
      refine U_one (i := 6) (by kernel_rfl) rfl (fun K hK => ?_)
      go_simp
      (with_reducible refine (pCmp h9 hc (SzQ.fit (SzQ.mono (HZ.out k n) (show k + 1 ≤ 100 by omega))) (SzQ.fit sc)).mono ?_)
      rintro e w27 ⟨rfl, hb⟩
      replace hs := bStep hs hb
      replace Blshare := Blshare.mono hb
      replace Blconfidence := Blconfidence.mono hb
      replace hu := hu.mono hb
      replace hc := hc.mono hb
      replace h8 := h8.mono hb
      replace h9 := h9.mono hb
      replace cshare_0 := cellK cshare_0 hb
      replace cshare_1 := cellK cshare_1 hb
      replace cshare_2 := cellK cshare_2 hb
      replace cconfidence_0 := cellK cconfidence_0 hb
      replace cconfidence_1 := cellK cconfidence_1 hb
      replace cconfidence_2 := cellK cconfidence_2 hb
      clear hb
      rw [← Hsg10.out]
      try go_wp2_with fail
      refine hK.out _ _ ⟨cshare_0, cshare_1, cshare_2, cconfidence_0, cconfidence_1, cconfidence_2⟩ (fun hH => ?_)
      clear hK K
      try simp only [LY]
      refine U_takeN (i := 7) (d := 37) (v := ?_) rfl rfl rfl (by kernel_rfl) (by kernel_rfl) (by kernel_rfl) (fun _ _ _ h => h) (Or.inl ⟨by rfl, ?_⟩) hH ?_
      rotate_left
      · intro w hSw
        try dsimp only at hSw
        go_simp
        try with_reducible rfl
      simp only [LY]
      clear hH
      refine U_endN (by kernel_rfl) ?_
      clear cshare_0 cshare_1 cshare_2 cconfidence_0 cconfidence_1 cconfidence_2
      by_cases q11 : c ≤ tlQ (1 - u) k n
      · have q11_ : 0 ≤ sg10 := by have h := sq_ge (tlQ (1 - u) k n) c; rw [← Hsg10.out] at h; exact h.2 q11
        have q11H := Lib.hid q11
        clear q11
        have q11d : decide (0 ≤ sg10) = true := decide_eq_true q11_
        go_wp2
        go_ret2
        have hk : cpF (1 - u) n c (65 - n) n = k := HI.out.trans (by rw [show 65 - k = (64 - k) + 1 by omega]; exact cpF_yes q11H.out)
        exact ⟨by rw [← HR.out, ← HE.out, hk, cpE_yes (show k ≠ 0 by omega)]; rfl, hs⟩
      · have q11_ : ¬ (0 ≤ sg10) := by have h := sq_ge (tlQ (1 - u) k n) c; rw [← Hsg10.out] at h; exact fun h1 => q11 (h.1 h1)
        have q11H := Lib.hid q11
        clear q11
        have q11d : decide (0 ≤ sg10) = false := decide_eq_false q11_
        go_wp2
        go_roundw
        case rel => exact ⟨k + 1, by omega, by omega, by go_num, hs, Blshare, Blconfidence, hu, hc, HI.out.trans (by rw [show 65 - k = (65 - (k + 1)) + 1 by omega]; exact cpF_no q11H.out)⟩
        all_goals first | (simp [intOf]; done) | (simp [intOf]; omega)
    · have q7d : ((k : Int) ≤ 64) = False := eq_false (by omega)
      go_wp2
      go_ret2
      have hk : cpF (1 - u) n c (65 - n) n = 0 := HI.out.trans (by rw [show 65 - k = 0 by omega]; rfl)
      exact ⟨by rw [← HR.out, ← HE.out, hk]; rfl, hs⟩

end Go.Proofs.YtmnipggjjcmjkaaGreat
