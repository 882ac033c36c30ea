/-
  The program's ranges: Make, Only, Lo, Hi, Width, Has, In, Before.
-/
import Derived.Test.YtlfnapfnpkhggaaGreatPkGrQ
import Derived.Test.YtlfnapfnpkhggaaGreatPkHeldQ
set_option linter.unusedSimpArgs false
set_option linter.unusedVariables false
namespace Go.Proofs.YtlfnapfnpkhggaaGreat
open Go.RowKit Dg
attribute [local go_sem ↓] Go.wp_at_zero Go.wp_at_succ

set_option maxRecDepth 100000 in
set_option maxHeartbeats 4000000 in
theorem p_Make_le (vx : Value) (x : Rat) (vy : Value) (y : Rat) (w : World) (hx : PV w vx x) (sx : Mid x) (hy : PV w vy y) (sy : Mid y) (hle : x ≤ y) :
    Calls Tryz.prog 105 #[vx, vy] w (Ret2 (fun w v => PV2 w v (x) (y)) (fun _ v => v = .int .i64 (0)) w) := by
  obtain ⟨shx, ahx, nhx, chx, Ahx, Nhx, Chx, rfl⟩ := hx.shape
  obtain ⟨shy, ahy, nhy, chy, Ahy, Nhy, Chy, rfl⟩ := hy.shape
  have hs := Below.refl w.heap.size w
  have HLE := Lib.hid hle
  clear hle
  go_enter Tryz.func105, Tryz.ntmps105
  go_wp2_with fail
  refine Calls.abs ?_
  intro w1 hW
  have hG : Gr [] w w1 := by rw [hW]; exact (Gr.refl _ _).alloc.alloc.alloc
  have hbw : Below w.heap.size w w1 := hG.below0 hs.size
  have hk : KeepD w w1 := hG.keep True.intro
  have sz_w1 : w.heap.size ≤ w.heap.size := hs.size
  have Bllo : Bx w1 (w.heap.size) 40 #[.bool shx, .slice ahx nhx chx, .slice Ahx Nhx Chx] := by rw [hW]; exact (((Bx.new0 _ _ _).alloc _).alloc _)
  have Blhi : Bx w1 (w.heap.size + 1) 40 #[.bool shy, .slice ahy nhy chy, .slice Ahy Nhy Chy] := by rw [hW]; exact ((Bx.new0 _ _ _).alloc _)
  have Blk : Bx w1 (w.heap.size + 1 + 1) 86 #[.bool false, .slice none 0 0, .slice none 0 0, .bool false, .slice none 0 0, .slice none 0 0] := by rw [hW]; exact (Bx.new0 _ _ _)
  replace hs := hs.trans hbw
  replace hx := hx.keep hk
  replace hy := hy.keep hk
  clear hW hG hk hbw
  have hz_w1 : w.heap.size + 1 + 1 < w1.heap.size := Blk.lt
  with_reducible refine (pCmp hx hy (SzQ.fit sx) (SzQ.fit sy)).mono ?_
  rintro e w2 ⟨rfl, hb⟩
  replace hs := bStep hs hb
  replace Bllo := Bllo.mono hb
  replace Blhi := Blhi.mono hb
  replace Blk := Blk.mono hb
  replace hx := hx.mono hb
  replace hy := hy.mono hb
  clear hb
  obtain ⟨sg1, Hsg1⟩ : ∃ s : Int, s = sgQ (x - y) := ⟨_, rfl⟩
  rw [← Hsg1]
  replace Hsg1 := Lib.hid Hsg1
  have q2 : ¬ (y < x) := Rat.not_lt.2 HLE.out
  have q2_ : ¬ (0 < sg1) := by have h := sq_gt x y; rw [← Hsg1.out] at h; exact fun h1 => q2 (h.1 h1)
  have q2H := Lib.hid q2
  clear q2
  have q2d : decide (0 < sg1) = false := decide_eq_false q2_
  have clo_0 : w2.cell? ⟨w.heap.size, 0, none⟩ = some (.bool shx) := Bllo.at 0 rfl
  have clo_1 : w2.cell? ⟨w.heap.size, 1, none⟩ = some (.slice ahx nhx chx) := Bllo.at 1 rfl
  have clo_2 : w2.cell? ⟨w.heap.size, 2, none⟩ = some (.slice Ahx Nhx Chx) := Bllo.at 2 rfl
  have Llo : w.heap.size < w2.heap.size := Bllo.lt
  have chi_0 : w2.cell? ⟨w.heap.size + 1, 0, none⟩ = some (.bool shy) := Blhi.at 0 rfl
  have chi_1 : w2.cell? ⟨w.heap.size + 1, 1, none⟩ = some (.slice ahy nhy chy) := Blhi.at 1 rfl
  have chi_2 : w2.cell? ⟨w.heap.size + 1, 2, none⟩ = some (.slice Ahy Nhy Chy) := Blhi.at 2 rfl
  have Lhi : w.heap.size + 1 < w2.heap.size := Blhi.lt
  have ck_0 : w2.cell? ⟨w.heap.size + 1 + 1, 0, none⟩ = some (.bool false) := Blk.at 0 rfl
  have ck_1 : w2.cell? ⟨w.heap.size + 1 + 1, 1, none⟩ = some (.slice none 0 0) := Blk.at 1 rfl
  have ck_2 : w2.cell? ⟨w.heap.size + 1 + 1, 2, none⟩ = some (.slice none 0 0) := Blk.at 2 rfl
  have ck_3 : w2.cell? ⟨w.heap.size + 1 + 1, 3, none⟩ = some (.bool false) := Blk.at 3 rfl
  have ck_4 : w2.cell? ⟨w.heap.size + 1 + 1, 4, none⟩ = some (.slice none 0 0) := Blk.at 4 rfl
  have ck_5 : w2.cell? ⟨w.heap.size + 1 + 1, 5, none⟩ = some (.slice none 0 0) := Blk.at 5 rfl
  have fk := Blk.free
  have Lk : w.heap.size + 1 + 1 < w2.heap.size := Blk.lt
  go_wp2
  clear clo_0 clo_1 clo_2 chi_0 chi_1 chi_2 ck_0 ck_1 ck_2 ck_3 ck_4 ck_5 fk Llo Lhi Lk
  refine bodyPost.abs ?_
  intro w3 hW
  have hG : Gr [w.heap.size + 1 + 1] w2 w3 := by rw [hW]; exact (Gr.refl _ _).set.set.set.set.set.set
  have hsz := hs.size
  have lk := Blk.lt
  have hbw : Below w.heap.size w2 w3 := hG.below1 hs.size (by first | omega | assumption)
  have hk : KeepD w2 w3 := hG.keep ⟨⟨_, Blk.ty, by decide⟩, True.intro⟩
  have Bl1k : Bx w3 (w.heap.size + 1 + 1) 86 #[.bool shx, .slice ahx nhx chx, .slice Ahx Nhx Chx, .bool shy, .slice ahy nhy chy, .slice Ahy Nhy Chy] := by rw [hW]; exact Blk.set6
  replace hs := hs.trans hbw
  replace Bllo := hG.bx Bllo (notMem1 (by omega))
  replace Blhi := hG.bx Blhi (notMem1 (by omega))
  replace Blk := Bl1k
  clear Bl1k
  replace hx := hx.keep hk
  replace hy := hy.keep hk
  clear hW hG hk hbw hsz lk
  have ck_0 : w3.cell? ⟨w.heap.size + 1 + 1, 0, none⟩ = some (.bool shx) := Blk.at 0 rfl
  have ck_1 : w3.cell? ⟨w.heap.size + 1 + 1, 1, none⟩ = some (.slice ahx nhx chx) := Blk.at 1 rfl
  have ck_2 : w3.cell? ⟨w.heap.size + 1 + 1, 2, none⟩ = some (.slice Ahx Nhx Chx) := Blk.at 2 rfl
  have ck_3 : w3.cell? ⟨w.heap.size + 1 + 1, 3, none⟩ = some (.bool shy) := Blk.at 3 rfl
  have ck_4 : w3.cell? ⟨w.heap.size + 1 + 1, 4, none⟩ = some (.slice ahy nhy chy) := Blk.at 4 rfl
  have ck_5 : w3.cell? ⟨w.heap.size + 1 + 1, 5, none⟩ = some (.slice Ahy Nhy Chy) := Blk.at 5 rfl
  exact bodyPost_ret (v := .tuple #[.agg #[.bool shx, .slice ahx nhx chx, .slice Ahx Nhx Chx, .bool shy, .slice ahy nhy chy, .slice Ahy Nhy Chy], .int .i64 0]) (by simp [results, Tryz.results105, go_sem, ck_0, ck_1, ck_2, ck_3, ck_4, ck_5]) rfl ⟨_, _, rfl, (PV2.mk hx hy), rfl, hs⟩


set_option maxRecDepth 100000 in
set_option maxHeartbeats 4000000 in
theorem p_Only (vx : Value) (x : Rat) (w : World) (hx : PV w vx x) :
    Calls Tryz.prog 46 #[vx] w (Ret1 (fun w v => PV2 w v (x) (x)) w) := by
  obtain ⟨shx, ahx, nhx, chx, Ahx, Nhx, Chx, rfl⟩ := hx.shape
  have hs := Below.refl w.heap.size w
  go_enter Tryz.func46, Tryz.ntmps46
  go_wp2
  refine bodyPost.abs ?_
  intro w1 hW
  have hG : Gr [] w w1 := by rw [hW]; exact (Gr.refl _ _).alloc.alloc
  have hbw : Below w.heap.size w w1 := hG.below0 hs.size
  have hk : KeepD w w1 := hG.keep True.intro
  have sz_w1 : w.heap.size ≤ w.heap.size := hs.size
  have Blx : Bx w1 (w.heap.size) 40 #[.bool shx, .slice ahx nhx chx, .slice Ahx Nhx Chx] := by rw [hW]; exact ((Bx.new0 _ _ _).alloc _)
  have Blk : Bx w1 (w.heap.size + 1) 86 #[.bool shx, .slice ahx nhx chx, .slice Ahx Nhx Chx, .bool shx, .slice ahx nhx chx, .slice Ahx Nhx Chx] := by rw [hW]; exact (Bx.new0 _ _ _)
  replace hs := hs.trans hbw
  replace hx := hx.keep hk
  clear hW hG hk hbw
  have hz_w1 : w.heap.size + 1 < w1.heap.size := Blk.lt
  have ck_0 : w1.cell? ⟨w.heap.size + 1, 0, none⟩ = some (.bool shx) := Blk.at 0 rfl
  have ck_1 : w1.cell? ⟨w.heap.size + 1, 1, none⟩ = some (.slice ahx nhx chx) := Blk.at 1 rfl
  have ck_2 : w1.cell? ⟨w.heap.size + 1, 2, none⟩ = some (.slice Ahx Nhx Chx) := Blk.at 2 rfl
  have ck_3 : w1.cell? ⟨w.heap.size + 1, 3, none⟩ = some (.bool shx) := Blk.at 3 rfl
  have ck_4 : w1.cell? ⟨w.heap.size + 1, 4, none⟩ = some (.slice ahx nhx chx) := Blk.at 4 rfl
  have ck_5 : w1.cell? ⟨w.heap.size + 1, 5, none⟩ = some (.slice Ahx Nhx Chx) := Blk.at 5 rfl
  exact bodyPost_ret (v := .agg #[.bool shx, .slice ahx nhx chx, .slice Ahx Nhx Chx, .bool shx, .slice ahx nhx chx, .slice Ahx Nhx Chx]) (by simp [results, Tryz.results46, go_sem, ck_0, ck_1, ck_2, ck_3, ck_4, ck_5]) rfl ⟨_, rfl, (PV2.mk hx hx), hs⟩

set_option maxRecDepth 100000 in
set_option maxHeartbeats 4000000 in
theorem p_Lo (vxy : Value) (x y : Rat) (w : World) (hxy : PV2 w vxy x y) :
    Calls Tryz.prog 34 #[vxy] w (RetP w (x)) := by
  obtain ⟨shx, ahx, nhx, chx, Ahx, Nhx, Chx, shy, ahy, nhy, chy, Ahy, Nhy, Chy, rfl, hx, hy⟩ := hxy.shape
  clear hxy
  have hs := Below.refl w.heap.size w
  go_enter Tryz.func34, Tryz.ntmps34
  go_wp2
  refine bodyPost.abs ?_
  intro w1 hW
  have hG : Gr [] w w1 := by rw [hW]; exact (Gr.refl _ _).alloc.alloc
  have hbw : Below w.heap.size w w1 := hG.below0 hs.size
  have hk : KeepD w w1 := hG.keep True.intro
  have sz_w1 : w.heap.size ≤ w.heap.size := hs.size
  have Blx : Bx w1 (w.heap.size) 86 #[.bool shx, .slice ahx nhx chx, .slice Ahx Nhx Chx, .bool shy, .slice ahy nhy chy, .slice Ahy Nhy Chy] := by rw [hW]; exact ((Bx.new0 _ _ _).alloc _)
  have Blk : Bx w1 (w.heap.size + 1) 40 #[.bool shx, .slice ahx nhx chx, .slice Ahx Nhx Chx] := by rw [hW]; exact (Bx.new0 _ _ _)
  replace hs := hs.trans hbw
  replace hx := hx.keep hk
  replace hy := hy.keep hk
  clear hW hG hk hbw
  have hz_w1 : w.heap.size + 1 < w1.heap.size := Blk.lt
  have ck_0 : w1.cell? ⟨w.heap.size + 1, 0, none⟩ = some (.bool shx) := Blk.at 0 rfl
  have ck_1 : w1.cell? ⟨w.heap.size + 1, 1, none⟩ = some (.slice ahx nhx chx) := Blk.at 1 rfl
  have ck_2 : w1.cell? ⟨w.heap.size + 1, 2, none⟩ = some (.slice Ahx Nhx Chx) := Blk.at 2 rfl
  exact bodyPost_ret (v := .agg #[.bool shx, .slice ahx nhx chx, .slice Ahx Nhx Chx]) (by simp [results, Tryz.results34, go_sem, ck_0, ck_1, ck_2]) rfl ⟨_, rfl, hx, hs⟩

set_option maxRecDepth 100000 in
set_option maxHeartbeats 4000000 in
theorem p_Hi (vxy : Value) (x y : Rat) (w : World) (hxy : PV2 w vxy x y) :
    Calls Tryz.prog 113 #[vxy] w (RetP w (y)) := by
  obtain ⟨shx, ahx, nhx, chx, Ahx, Nhx, Chx, shy, ahy, nhy, chy, Ahy, Nhy, Chy, rfl, hx, hy⟩ := hxy.shape
  clear hxy
  have hs := Below.refl w.heap.size w
  go_enter Tryz.func113, Tryz.ntmps113
  go_wp2
  refine bodyPost.abs ?_
  intro w1 hW
  have hG : Gr [] w w1 := by rw [hW]; exact (Gr.refl _ _).alloc.alloc
  have hbw : Below w.heap.size w w1 := hG.below0 hs.size
  have hk : KeepD w w1 := hG.keep True.intro
  have sz_w1 : w.heap.size ≤ w.heap.size := hs.size
  have Blx : Bx w1 (w.heap.size) 86 #[.bool shx, .slice ahx nhx chx, .slice Ahx Nhx Chx, .bool shy, .slice ahy nhy chy, .slice Ahy Nhy Chy] := by rw [hW]; exact ((Bx.new0 _ _ _).alloc _)
  have Blk : Bx w1 (w.heap.size + 1) 40 #[.bool shy, .slice ahy nhy chy, .slice Ahy Nhy Chy] := by rw [hW]; exact (Bx.new0 _ _ _)
  replace hs := hs.trans hbw
  replace hx := hx.keep hk
  replace hy := hy.keep hk
  clear hW hG hk hbw
  have hz_w1 : w.heap.size + 1 < w1.heap.size := Blk.lt
  have ck_0 : w1.cell? ⟨w.heap.size + 1, 0, none⟩ = some (.bool shy) := Blk.at 0 rfl
  have ck_1 : w1.cell? ⟨w.heap.size + 1, 1, none⟩ = some (.slice ahy nhy chy) := Blk.at 1 rfl
  have ck_2 : w1.cell? ⟨w.heap.size + 1, 2, none⟩ = some (.slice Ahy Nhy Chy) := Blk.at 2 rfl
  exact bodyPost_ret (v := .agg #[.bool shy, .slice ahy nhy chy, .slice Ahy Nhy Chy]) (by simp [results, Tryz.results113, go_sem, ck_0, ck_1, ck_2]) rfl ⟨_, rfl, hy, hs⟩

set_option maxRecDepth 100000 in
set_option maxHeartbeats 4000000 in
theorem p_Width (vxy : Value) (x y : Rat) (w : World) (hxy : PV2 w vxy x y) (sx : Mid x) (sy : Mid y) :
    Calls Tryz.prog 36 #[vxy] w (RetP w (y - x)) := by
  obtain ⟨shx, ahx, nhx, chx, Ahx, Nhx, Chx, shy, ahy, nhy, chy, Ahy, Nhy, Chy, rfl, hx, hy⟩ := hxy.shape
  clear hxy
  have hs := Below.refl w.heap.size w
  go_enter Tryz.func36, Tryz.ntmps36
  go_wp2_with fail
  refine Calls.abs ?_
  intro w1 hW
  have hG : Gr [] w w1 := by rw [hW]; exact (Gr.refl _ _).alloc.alloc
  have hbw : Below w.heap.size w w1 := hG.below0 hs.size
  have hk : KeepD w w1 := hG.keep True.intro
  have sz_w1 : w.heap.size ≤ w.heap.size := hs.size
  have Blx : Bx w1 (w.heap.size) 86 #[.bool shx, .slice ahx nhx chx, .slice Ahx Nhx Chx, .bool shy, .slice ahy nhy chy, .slice Ahy Nhy Chy] := by rw [hW]; exact ((Bx.new0 _ _ _).alloc _)
  have Blk : Bx w1 (w.heap.size + 1) 40 #[.bool false, .slice none 0 0, .slice none 0 0] := by rw [hW]; exact (Bx.new0 _ _ _)
  replace hs := hs.trans hbw
  replace hx := hx.keep hk
  replace hy := hy.keep hk
  clear hW hG hk hbw
  have hz_w1 : w.heap.size + 1 < w1.heap.size := Blk.lt
  with_reducible refine (pSub hy hx (SzQ.fit sy) (SzQ.fit sx)).mono ?_
  rintro e w2 ⟨_, rfl, h1, hb⟩
  obtain ⟨sh1, ah1, nh1, ch1, Ah1, Nh1, Ch1, rfl⟩ := h1.shape
  replace hs := bStep hs hb
  replace Blx := Blx.mono hb
  replace Blk := Blk.mono hb
  replace hx := hx.mono hb
  replace hy := hy.mono hb
  clear hb
  have ck_0 : w2.cell? ⟨w.heap.size + 1, 0, none⟩ = some (.bool false) := Blk.at 0 rfl
  have ck_1 : w2.cell? ⟨w.heap.size + 1, 1, none⟩ = some (.slice none 0 0) := Blk.at 1 rfl
  have ck_2 : w2.cell? ⟨w.heap.size + 1, 2, none⟩ = some (.slice none 0 0) := Blk.at 2 rfl
  have fk := Blk.free
  have Lk : w.heap.size + 1 < w2.heap.size := Blk.lt
  go_wp2
  clear ck_0 ck_1 ck_2 fk Lk
  refine bodyPost.abs ?_
  intro w3 hW
  have hG : Gr [w.heap.size + 1] w2 w3 := by rw [hW]; exact (Gr.refl _ _).set.set.set
  have hsz := hs.size
  have lk := Blk.lt
  have hbw : Below w.heap.size w2 w3 := hG.below1 hs.size (by first | omega | assumption)
  have hk : KeepD w2 w3 := hG.keep ⟨⟨_, Blk.ty, by decide⟩, True.intro⟩
  have Bl1k : Bx w3 (w.heap.size + 1) 40 #[.bool sh1, .slice ah1 nh1 ch1, .slice Ah1 Nh1 Ch1] := by rw [hW]; exact Blk.set3
  replace hs := hs.trans hbw
  replace Blx := hG.bx Blx (notMem1 (by omega))
  replace Blk := Bl1k
  clear Bl1k
  replace hx := hx.keep hk
  replace hy := hy.keep hk
  replace h1 := h1.keep hk
  clear hW hG hk hbw hsz lk
  have ck_0 : w3.cell? ⟨w.heap.size + 1, 0, none⟩ = some (.bool sh1) := Blk.at 0 rfl
  have ck_1 : w3.cell? ⟨w.heap.size + 1, 1, none⟩ = some (.slice ah1 nh1 ch1) := Blk.at 1 rfl
  have ck_2 : w3.cell? ⟨w.heap.size + 1, 2, none⟩ = some (.slice Ah1 Nh1 Ch1) := Blk.at 2 rfl
  exact bodyPost_ret (v := .agg #[.bool sh1, .slice ah1 nh1 ch1, .slice Ah1 Nh1 Ch1]) (by simp [results, Tryz.results36, go_sem, ck_0, ck_1, ck_2]) rfl ⟨_, rfl, h1, hs⟩


set_option maxRecDepth 100000 in
set_option maxHeartbeats 4000000 in
theorem p_Has (vxy : Value) (x y : Rat) (vz : Value) (z : Rat) (w : World) (hxy : PV2 w vxy x y) (sx : Mid x) (sy : Mid y) (hz : PV w vz z) (sz : Mid z) {rB : Bool} (hRB : rB = decide (x ≤ z ∧ z ≤ y)) :
    Calls Tryz.prog 48 #[vxy, vz] w (RetV w (.bool rB)) := by
  obtain ⟨shx, ahx, nhx, chx, Ahx, Nhx, Chx, shy, ahy, nhy, chy, Ahy, Nhy, Chy, rfl, hx, hy⟩ := hxy.shape
  clear hxy
  obtain ⟨shz, ahz, nhz, chz, Ahz, Nhz, Chz, rfl⟩ := hz.shape
  have hs := Below.refl w.heap.size w
  have HRB := Lib.hid hRB
  clear hRB
  go_enter Tryz.func48, Tryz.ntmps48
  go_wp2_with fail
  refine Calls.abs ?_
  intro w1 hW
  have hG : Gr [] w w1 := by rw [hW]; exact (Gr.refl _ _).alloc.alloc
  have hbw : Below w.heap.size w w1 := hG.below0 hs.size
  have hk : KeepD w w1 := hG.keep True.intro
  have sz_w1 : w.heap.size ≤ w.heap.size := hs.size
  have Blx : Bx w1 (w.heap.size) 86 #[.bool shx, .slice ahx nhx chx, .slice Ahx Nhx Chx, .bool shy, .slice ahy nhy chy, .slice Ahy Nhy Chy] := by rw [hW]; exact ((Bx.new0 _ _ _).alloc _)
  have Bly : Bx w1 (w.heap.size + 1) 40 #[.bool shz, .slice ahz nhz chz, .slice Ahz Nhz Chz] := by rw [hW]; exact (Bx.new0 _ _ _)
  replace hs := hs.trans hbw
  replace hx := hx.keep hk
  replace hy := hy.keep hk
  replace hz := hz.keep hk
  clear hW hG hk hbw
  have hz_w1 : w.heap.size + 1 < w1.heap.size := Bly.lt
  with_reducible refine (pCmp hx hz (SzQ.fit sx) (SzQ.fit sz)).mono ?_
  rintro e w2 ⟨rfl, hb⟩
  replace hs := bStep hs hb
  replace Blx := Blx.mono hb
  replace Bly := Bly.mono hb
  replace hx := hx.mono hb
  replace hy := hy.mono hb
  replace hz := hz.mono hb
  clear hb
  obtain ⟨sg1, Hsg1⟩ : ∃ s : Int, s = sgQ (x - z) := ⟨_, rfl⟩
  rw [← Hsg1]
  replace Hsg1 := Lib.hid Hsg1
  by_cases q2 : x ≤ z
  · have q2_ : sg1 ≤ 0 := by have h := sq_le x z; rw [← Hsg1.out] at h; exact h.2 q2
    have q2H := Lib.hid q2
    clear q2
    have q2d : decide (sg1 ≤ 0) = true := decide_eq_true q2_
    have cy_0 : w2.cell? ⟨w.heap.size + 1, 0, none⟩ = some (.bool shz) := Bly.at 0 rfl
    have cy_1 : w2.cell? ⟨w.heap.size + 1, 1, none⟩ = some (.slice ahz nhz chz) := Bly.at 1 rfl
    have cy_2 : w2.cell? ⟨w.heap.size + 1, 2, none⟩ = some (.slice Ahz Nhz Chz) := Bly.at 2 rfl
    have Ly : w.heap.size + 1 < w2.heap.size := Bly.lt
    have cx_0 : w2.cell? ⟨w.heap.size, 0, none⟩ = some (.bool shx) := Blx.at 0 rfl
    have cx_1 : w2.cell? ⟨w.heap.size, 1, none⟩ = some (.slice ahx nhx chx) := Blx.at 1 rfl
    have cx_2 : w2.cell? ⟨w.heap.size, 2, none⟩ = some (.slice Ahx Nhx Chx) := Blx.at 2 rfl
    have cx_3 : w2.cell? ⟨w.heap.size, 3, none⟩ = some (.bool shy) := Blx.at 3 rfl
    have cx_4 : w2.cell? ⟨w.heap.size, 4, none⟩ = some (.slice ahy nhy chy) := Blx.at 4 rfl
    have cx_5 : w2.cell? ⟨w.heap.size, 5, none⟩ = some (.slice Ahy Nhy Chy) := Blx.at 5 rfl
    have Lx : w.heap.size < w2.heap.size := Blx.lt
    go_wp2_with fail
    clear cy_0 cy_1 cy_2 cx_0 cx_1 cx_2 cx_3 cx_4 cx_5 Ly Lx
    with_reducible refine (pCmp hz hy (SzQ.fit sz) (SzQ.fit sy)).mono ?_
    rintro e w3 ⟨rfl, hb⟩
    replace hs := bStep hs hb
    replace Blx := Blx.mono hb
    replace Bly := Bly.mono hb
    replace hx := hx.mono hb
    replace hy := hy.mono hb
    replace hz := hz.mono hb
    clear hb
    obtain ⟨sg3, Hsg3⟩ : ∃ s : Int, s = sgQ (z - y) := ⟨_, rfl⟩
    rw [← Hsg3]
    replace Hsg3 := Lib.hid Hsg3
    by_cases q4 : z ≤ y
    · have q4_ : sg3 ≤ 0 := by have h := sq_le z y; rw [← Hsg3.out] at h; exact h.2 q4
      have q4H := Lib.hid q4
      clear q4
      have q4d : decide (sg3 ≤ 0) = true := decide_eq_true q4_
      go_wp2
      go_ret
      exact ⟨(by rw [HRB.out, decide_eq_true (show x ≤ z ∧ z ≤ y from by have p0 : x ≤ z := q2H.out; have p1 : z ≤ y := q4H.out; first | assumption | exact ⟨by assumption, by assumption⟩ | exact ⟨⟨by assumption, by assumption⟩, ⟨by assumption, by assumption⟩⟩)]; rfl), hs⟩
    · have q4_ : ¬ (sg3 ≤ 0) := by have h := sq_le z y; rw [← Hsg3.out] at h; exact fun h1 => q4 (h.1 h1)
      have q4H := Lib.hid q4
      clear q4
      have q4d : decide (sg3 ≤ 0) = false := decide_eq_false q4_
      go_wp2
      go_ret
      exact ⟨(by rw [HRB.out, decide_eq_false (show ¬ (x ≤ z ∧ z ≤ y) from by have p0 : x ≤ z := q2H.out; have p1 : ¬ (z ≤ y) := q4H.out; first | assumption | exact fun h => absurd h.1 (by assumption) | exact fun h => absurd h.2 (by assumption))]; rfl), hs⟩
  · have q2_ : ¬ (sg1 ≤ 0) := by have h := sq_le x z; rw [← Hsg1.out] at h; exact fun h1 => q2 (h.1 h1)
    have q2H := Lib.hid q2
    clear q2
    have q2d : decide (sg1 ≤ 0) = false := decide_eq_false q2_
    go_wp2
    go_ret
    exact ⟨(by rw [HRB.out, decide_eq_false (show ¬ (x ≤ z ∧ z ≤ y) from by have p0 : ¬ (x ≤ z) := q2H.out; first | assumption | exact fun h => absurd h.1 (by assumption) | exact fun h => absurd h.2 (by assumption))]; rfl), hs⟩

set_option maxRecDepth 100000 in
set_option maxHeartbeats 4000000 in
theorem p_In (vxy : Value) (x y : Rat) (vzu : Value) (z u : Rat) (w : World) (hxy : PV2 w vxy x y) (sx : Mid x) (sy : Mid y) (hzu : PV2 w vzu z u) (sz : Mid z) (su : Mid u) {rB : Bool} (hRB : rB = decide ((z ≤ x ∧ x ≤ u) ∧ (z ≤ y ∧ y ≤ u))) :
    Calls Tryz.prog 51 #[vxy, vzu] w (RetV w (.bool rB)) := by
  obtain ⟨shx, ahx, nhx, chx, Ahx, Nhx, Chx, shy, ahy, nhy, chy, Ahy, Nhy, Chy, rfl, hx, hy⟩ := hxy.shape
  clear hxy
  obtain ⟨shz, ahz, nhz, chz, Ahz, Nhz, Chz, shu, ahu, nhu, chu, Ahu, Nhu, Chu, rfl, hz, hu⟩ := hzu.shape
  clear hzu
  have hs := Below.refl w.heap.size w
  have HRB := Lib.hid hRB
  clear hRB
  go_enter Tryz.func51, Tryz.ntmps51
  go_wp2_with fail
  refine Calls.abs ?_
  intro w1 hW
  have hG : Gr [] w w1 := by rw [hW]; exact (Gr.refl _ _).alloc.alloc
  have hbw : Below w.heap.size w w1 := hG.below0 hs.size
  have hk : KeepD w w1 := hG.keep True.intro
  have sz_w1 : w.heap.size ≤ w.heap.size := hs.size
  have Blx : Bx w1 (w.heap.size) 86 #[.bool shx, .slice ahx nhx chx, .slice Ahx Nhx Chx, .bool shy, .slice ahy nhy chy, .slice Ahy Nhy Chy] := by rw [hW]; exact ((Bx.new0 _ _ _).alloc _)
  have Bly : Bx w1 (w.heap.size + 1) 86 #[.bool shz, .slice ahz nhz chz, .slice Ahz Nhz Chz, .bool shu, .slice ahu nhu chu, .slice Ahu Nhu Chu] := by rw [hW]; exact (Bx.new0 _ _ _)
  replace hs := hs.trans hbw
  replace hx := hx.keep hk
  replace hy := hy.keep hk
  replace hz := hz.keep hk
  replace hu := hu.keep hk
  clear hW hG hk hbw
  have hz_w1 : w.heap.size + 1 < w1.heap.size := Bly.lt
  with_reducible refine (p_Has _ _ _ _ _ _ (PV2.mk hz hu) (SzQ.mid sz) (SzQ.mid su) hx (SzQ.mid sx) rfl).mono ?_
  rintro e w2 ⟨rfl, hb⟩
  replace hs := bStep hs hb
  replace Blx := Blx.mono hb
  replace Bly := Bly.mono hb
  replace hx := hx.mono hb
  replace hy := hy.mono hb
  replace hz := hz.mono hb
  replace hu := hu.mono hb
  clear hb
  obtain ⟨b1, Hb1⟩ : ∃ b : Bool, b = decide (z ≤ x ∧ x ≤ u) := ⟨_, rfl⟩
  rw [← Hb1]
  replace Hb1 := Lib.hid Hb1
  by_cases q2 : z ≤ x ∧ x ≤ u
  · obtain rfl : b1 = true := by rw [Hb1.out]; exact decide_eq_true q2
    have q2H := Lib.hid q2
    clear q2
    have cy_0 : w2.cell? ⟨w.heap.size + 1, 0, none⟩ = some (.bool shz) := Bly.at 0 rfl
    have cy_1 : w2.cell? ⟨w.heap.size + 1, 1, none⟩ = some (.slice ahz nhz chz) := Bly.at 1 rfl
    have cy_2 : w2.cell? ⟨w.heap.size + 1, 2, none⟩ = some (.slice Ahz Nhz Chz) := Bly.at 2 rfl
    have cy_3 : w2.cell? ⟨w.heap.size + 1, 3, none⟩ = some (.bool shu) := Bly.at 3 rfl
    have cy_4 : w2.cell? ⟨w.heap.size + 1, 4, none⟩ = some (.slice ahu nhu chu) := Bly.at 4 rfl
    have cy_5 : w2.cell? ⟨w.heap.size + 1, 5, none⟩ = some (.slice Ahu Nhu Chu) := Bly.at 5 rfl
    have Ly : w.heap.size + 1 < w2.heap.size := Bly.lt
    have cx_0 : w2.cell? ⟨w.heap.size, 0, none⟩ = some (.bool shx) := Blx.at 0 rfl
    have cx_1 : w2.cell? ⟨w.heap.size, 1, none⟩ = some (.slice ahx nhx chx) := Blx.at 1 rfl
    have cx_2 : w2.cell? ⟨w.heap.size, 2, none⟩ = some (.slice Ahx Nhx Chx) := Blx.at 2 rfl
    have cx_3 : w2.cell? ⟨w.heap.size, 3, none⟩ = some (.bool shy) := Blx.at 3 rfl
    have cx_4 : w2.cell? ⟨w.heap.size, 4, none⟩ = some (.slice ahy nhy chy) := Blx.at 4 rfl
    have cx_5 : w2.cell? ⟨w.heap.size, 5, none⟩ = some (.slice Ahy Nhy Chy) := Blx.at 5 rfl
    have Lx : w.heap.size < w2.heap.size := Blx.lt
    go_wp2_with fail
    clear cy_0 cy_1 cy_2 cy_3 cy_4 cy_5 cx_0 cx_1 cx_2 cx_3 cx_4 cx_5 Ly Lx
    with_reducible refine (p_Has _ _ _ _ _ _ (PV2.mk hz hu) (SzQ.mid sz) (SzQ.mid su) hy (SzQ.mid sy) rfl).mono ?_
    rintro e w3 ⟨rfl, hb⟩
    replace hs := bStep hs hb
    replace Blx := Blx.mono hb
    replace Bly := Bly.mono hb
    replace hx := hx.mono hb
    replace hy := hy.mono hb
    replace hz := hz.mono hb
    replace hu := hu.mono hb
    clear hb
    obtain ⟨b3, Hb3⟩ : ∃ b : Bool, b = decide (z ≤ y ∧ y ≤ u) := ⟨_, rfl⟩
    rw [← Hb3]
    replace Hb3 := Lib.hid Hb3
    by_cases q4 : z ≤ y ∧ y ≤ u
    · obtain rfl : b3 = true := by rw [Hb3.out]; exact decide_eq_true q4
      have q4H := Lib.hid q4
      clear q4
      go_wp2
      go_ret
      exact ⟨(by rw [HRB.out, decide_eq_true (show (z ≤ x ∧ x ≤ u) ∧ (z ≤ y ∧ y ≤ u) from by have p0 : z ≤ x ∧ x ≤ u := q2H.out; have p1 : z ≤ y ∧ y ≤ u := q4H.out; first | assumption | exact ⟨by assumption, by assumption⟩ | exact ⟨⟨by assumption, by assumption⟩, ⟨by assumption, by assumption⟩⟩)]; rfl), hs⟩
    · obtain rfl : b3 = false := by rw [Hb3.out]; exact decide_eq_false q4
      have q4H := Lib.hid q4
      clear q4
      go_wp2
      go_ret
      exact ⟨(by rw [HRB.out, decide_eq_false (show ¬ ((z ≤ x ∧ x ≤ u) ∧ (z ≤ y ∧ y ≤ u)) from by have p0 : z ≤ x ∧ x ≤ u := q2H.out; have p1 : ¬ (z ≤ y ∧ y ≤ u) := q4H.out; first | assumption | exact fun h => absurd h.1 (by assumption) | exact fun h => absurd h.2 (by assumption))]; rfl), hs⟩
  · obtain rfl : b1 = false := by rw [Hb1.out]; exact decide_eq_false q2
    have q2H := Lib.hid q2
    clear q2
    go_wp2
    go_ret
    exact ⟨(by rw [HRB.out, decide_eq_false (show ¬ ((z ≤ x ∧ x ≤ u) ∧ (z ≤ y ∧ y ≤ u)) from by have p0 : ¬ (z ≤ x ∧ x ≤ u) := q2H.out; first | assumption | exact fun h => absurd h.1 (by assumption) | exact fun h => absurd h.2 (by assumption))]; rfl), hs⟩

end Go.Proofs.YtlfnapfnpkhggaaGreat
