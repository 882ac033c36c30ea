/-
  The program's ranges: Make, Only, Lo, Hi, Width, Has, In, Before.
-/
import Derived.Test.YtmnipggjjcmjkaaPkGr
import Derived.Test.YtmnipggjjcmjkaaPkHeld
set_option linter.unusedSimpArgs false
set_option linter.unusedVariables false
namespace Go.Proofs.Ytmnipggjjcmjkaa
open Go.RowKit Dg
attribute [local go_sem ↓] Go.wp_at_zero Go.wp_at_succ

set_option maxRecDepth 100000 in
set_option maxHeartbeats 4000000 in
theorem p_Make_le (vx : Value) (x : Rat) (vy : Value) (y : Rat) (w : World) (hx : PV w vx x) (sx : Mid x) (hy : PV w vy y) (sy : Mid y) (hle : x ≤ y) :
    Calls Try.prog 57 #[vx, vy] w (Ret2 (fun w v => PV2 w v (x) (y)) (fun _ v => v = .int .i64 (0)) w) := by
  obtain ⟨shx, ahx, nhx, chx, Ahx, Nhx, Chx, rfl⟩ := hx.shape
  obtain ⟨shy, ahy, nhy, chy, Ahy, Nhy, Chy, rfl⟩ := hy.shape
  have hs := Below.refl w.heap.size w
  have HLE := Lib.hid hle
  clear hle
  go_enter Try.func57, Try.ntmps57
  go_wp2_with fail
  refine Calls.abs ?_
  intro w1 hW
  have hG : Gr [] w w1 := by rw [hW]; exact (Gr.refl _ _).alloc.alloc.alloc
  have hbw : Below w.heap.size w w1 := hG.below0 hs.size
  have hk : KeepD w w1 := hG.keep True.intro
  have sz_w1 : w.heap.size ≤ w.heap.size := hs.size
  have Bllo : Bx w1 (w.heap.size) 26 #[.bool shx, .slice ahx nhx chx, .slice Ahx Nhx Chx] := by rw [hW]; exact (((Bx.new0 _ _ _).alloc _).alloc _)
  have Blhi : Bx w1 (w.heap.size + 1) 26 #[.bool shy, .slice ahy nhy chy, .slice Ahy Nhy Chy] := by rw [hW]; exact ((Bx.new0 _ _ _).alloc _)
  have Blk : Bx w1 (w.heap.size + 1 + 1) 50 #[.bool false, .slice none 0 0, .slice none 0 0, .bool false, .slice none 0 0, .slice none 0 0] := by rw [hW]; exact (Bx.new0 _ _ _)
  replace hs := hs.trans hbw
  replace hx := hx.keep hk
  replace hy := hy.keep hk
  clear hW hG hk hbw
  have hz_w1 : w.heap.size + 1 + 1 < w1.heap.size := Blk.lt
  with_reducible refine (pCmp hx hy (SzQ.fit sx) (SzQ.fit sy)).mono ?_
  rintro e w2 ⟨rfl, hb⟩
  replace hs := bStep hs hb
  replace Bllo := Bllo.mono hb
  replace Blhi := Blhi.mono hb
  replace Blk := Blk.mono hb
  replace hx := hx.mono hb
  replace hy := hy.mono hb
  clear hb
  obtain ⟨sg1, Hsg1⟩ : ∃ s : Int, s = sgQ (x - y) := ⟨_, rfl⟩
  rw [← Hsg1]
  replace Hsg1 := Lib.hid Hsg1
  have q2 : ¬ (y < x) := Rat.not_lt.2 HLE.out
  have q2_ : ¬ (0 < sg1) := by have h := sq_gt x y; rw [← Hsg1.out] at h; exact fun h1 => q2 (h.1 h1)
  have q2H := Lib.hid q2
  clear q2
  have q2d : decide (0 < sg1) = false := decide_eq_false q2_
  have clo_0 : w2.cell? ⟨w.heap.size, 0, none⟩ = some (.bool shx) := Bllo.at 0 rfl
  have clo_1 : w2.cell? ⟨w.heap.size, 1, none⟩ = some (.slice ahx nhx chx) := Bllo.at 1 rfl
  have clo_2 : w2.cell? ⟨w.heap.size, 2, none⟩ = some (.slice Ahx Nhx Chx) := Bllo.at 2 rfl
  have Llo : w.heap.size < w2.heap.size := Bllo.lt
  have chi_0 : w2.cell? ⟨w.heap.size + 1, 0, none⟩ = some (.bool shy) := Blhi.at 0 rfl
  have chi_1 : w2.cell? ⟨w.heap.size + 1, 1, none⟩ = some (.slice ahy nhy chy) := Blhi.at 1 rfl
  have chi_2 : w2.cell? ⟨w.heap.size + 1, 2, none⟩ = some (.slice Ahy Nhy Chy) := Blhi.at 2 rfl
  have Lhi : w.heap.size + 1 < w2.heap.size := Blhi.lt
  have ck_0 : w2.cell? ⟨w.heap.size + 1 + 1, 0, none⟩ = some (.bool false) := Blk.at 0 rfl
  have ck_1 : w2.cell? ⟨w.heap.size + 1 + 1, 1, none⟩ = some (.slice none 0 0) := Blk.at 1 rfl
  have ck_2 : w2.cell? ⟨w.heap.size + 1 + 1, 2, none⟩ = some (.slice none 0 0) := Blk.at 2 rfl
  have ck_3 : w2.cell? ⟨w.heap.size + 1 + 1, 3, none⟩ = some (.bool false) := Blk.at 3 rfl
  have ck_4 : w2.cell? ⟨w.heap.size + 1 + 1, 4, none⟩ = some (.slice none 0 0) := Blk.at 4 rfl
  have ck_5 : w2.cell? ⟨w.heap.size + 1 + 1, 5, none⟩ = some (.slice none 0 0) := Blk.at 5 rfl
  have fk := Blk.free
  have Lk : w.heap.size + 1 + 1 < w2.heap.size := Blk.lt
  go_wp2
  clear clo_0 clo_1 clo_2 chi_0 chi_1 chi_2 ck_0 ck_1 ck_2 ck_3 ck_4 ck_5 fk Llo Lhi Lk
  refine bodyPost.abs ?_
  intro w3 hW
  have hG : Gr [w.heap.size + 1 + 1] w2 w3 := by rw [hW]; exact (Gr.refl _ _).set.set.set.set.set.set
  have hsz := hs.size
  have lk := Blk.lt
  have hbw : Below w.heap.size w2 w3 := hG.below1 hs.size (by first | omega | assumption)
  have hk : KeepD w2 w3 := hG.keep ⟨⟨_, Blk.ty, by decide⟩, True.intro⟩
  have Bl1k : Bx w3 (w.heap.size + 1 + 1) 50 #[.bool shx, .slice ahx nhx chx, .slice Ahx Nhx Chx, .bool shy, .slice ahy nhy chy, .slice Ahy Nhy Chy] := by rw [hW]; exact Blk.set6
  replace hs := hs.trans hbw
  replace Bllo := hG.bx Bllo (notMem1 (by omega))
  replace Blhi := hG.bx Blhi (notMem1 (by omega))
  replace Blk := Bl1k
  clear Bl1k
  replace hx := hx.keep hk
  replace hy := hy.keep hk
  clear hW hG hk hbw hsz lk
  have ck_0 : w3.cell? ⟨w.heap.size + 1 + 1, 0, none⟩ = some (.bool shx) := Blk.at 0 rfl
  have ck_1 : w3.cell? ⟨w.heap.size + 1 + 1, 1, none⟩ = some (.slice ahx nhx chx) := Blk.at 1 rfl
  have ck_2 : w3.cell? ⟨w.heap.size + 1 + 1, 2, none⟩ = some (.slice Ahx Nhx Chx) := Blk.at 2 rfl
  have ck_3 : w3.cell? ⟨w.heap.size + 1 + 1, 3, none⟩ = some (.bool shy) := Blk.at 3 rfl
  have ck_4 : w3.cell? ⟨w.heap.size + 1 + 1, 4, none⟩ = some (.slice ahy nhy chy) := Blk.at 4 rfl
  have ck_5 : w3.cell? ⟨w.heap.size + 1 + 1, 5, none⟩ = some (.slice Ahy Nhy Chy) := Blk.at 5 rfl
  exact bodyPost_ret (v := .tuple #[.agg #[.bool shx, .slice ahx nhx chx, .slice Ahx Nhx Chx, .bool shy, .slice ahy nhy chy, .slice Ahy Nhy Chy], .int .i64 0]) (by simp [results, Try.results57, go_sem, ck_0, ck_1, ck_2, ck_3, ck_4, ck_5]) rfl ⟨_, _, rfl, (PV2.mk hx hy), rfl, hs⟩

set_option maxRecDepth 100000 in
set_option maxHeartbeats 4000000 in
theorem p_Make_gt (vx : Value) (x : Rat) (vy : Value) (y : Rat) (w : World) (hx : PV w vx x) (sx : Mid x) (hy : PV w vy y) (sy : Mid y) (hle : y < x) :
    Calls Try.prog 57 #[vx, vy] w (Ret2 (fun w v => PV2 w v (0) (0)) (fun _ v => v = .int .i64 (7)) w) := by
  obtain ⟨shx, ahx, nhx, chx, Ahx, Nhx, Chx, rfl⟩ := hx.shape
  obtain ⟨shy, ahy, nhy, chy, Ahy, Nhy, Chy, rfl⟩ := hy.shape
  have hs := Below.refl w.heap.size w
  have HLE := Lib.hid hle
  clear hle
  go_enter Try.func57, Try.ntmps57
  go_wp2_with fail
  refine Calls.abs ?_
  intro w1 hW
  have hG : Gr [] w w1 := by rw [hW]; exact (Gr.refl _ _).alloc.alloc.alloc
  have hbw : Below w.heap.size w w1 := hG.below0 hs.size
  have hk : KeepD w w1 := hG.keep True.intro
  have sz_w1 : w.heap.size ≤ w.heap.size := hs.size
  have Bllo : Bx w1 (w.heap.size) 26 #[.bool shx, .slice ahx nhx chx, .slice Ahx Nhx Chx] := by rw [hW]; exact (((Bx.new0 _ _ _).alloc _).alloc _)
  have Blhi : Bx w1 (w.heap.size + 1) 26 #[.bool shy, .slice ahy nhy chy, .slice Ahy Nhy Chy] := by rw [hW]; exact ((Bx.new0 _ _ _).alloc _)
  have Blk : Bx w1 (w.heap.size + 1 + 1) 50 #[.bool false, .slice none 0 0, .slice none 0 0, .bool false, .slice none 0 0, .slice none 0 0] := by rw [hW]; exact (Bx.new0 _ _ _)
  replace hs := hs.trans hbw
  replace hx := hx.keep hk
  replace hy := hy.keep hk
  clear hW hG hk hbw
  have hz_w1 : w.heap.size + 1 + 1 < w1.heap.size := Blk.lt
  with_reducible refine (pCmp hx hy (SzQ.fit sx) (SzQ.fit sy)).mono ?_
  rintro e w2 ⟨rfl, hb⟩
  replace hs := bStep hs hb
  replace Bllo := Bllo.mono hb
  replace Blhi := Blhi.mono hb
  replace Blk := Blk.mono hb
  replace hx := hx.mono hb
  replace hy := hy.mono hb
  clear hb
  obtain ⟨sg1, Hsg1⟩ : ∃ s : Int, s = sgQ (x - y) := ⟨_, rfl⟩
  rw [← Hsg1]
  replace Hsg1 := Lib.hid Hsg1
  have q2 : y < x := HLE.out
  have q2_ : 0 < sg1 := by have h := sq_gt x y; rw [← Hsg1.out] at h; exact h.2 q2
  have q2H := Lib.hid q2
  clear q2
  have q2d : decide (0 < sg1) = true := decide_eq_true q2_
  have ck_0 : w2.cell? ⟨w.heap.size + 1 + 1, 0, none⟩ = some (.bool false) := Blk.at 0 rfl
  have ck_1 : w2.cell? ⟨w.heap.size + 1 + 1, 1, none⟩ = some (.slice none 0 0) := Blk.at 1 rfl
  have ck_2 : w2.cell? ⟨w.heap.size + 1 + 1, 2, none⟩ = some (.slice none 0 0) := Blk.at 2 rfl
  have ck_3 : w2.cell? ⟨w.heap.size + 1 + 1, 3, none⟩ = some (.bool false) := Blk.at 3 rfl
  have ck_4 : w2.cell? ⟨w.heap.size + 1 + 1, 4, none⟩ = some (.slice none 0 0) := Blk.at 4 rfl
  have ck_5 : w2.cell? ⟨w.heap.size + 1 + 1, 5, none⟩ = some (.slice none 0 0) := Blk.at 5 rfl
  have fk := Blk.free
  have Lk : w.heap.size + 1 + 1 < w2.heap.size := Blk.lt
  go_wp2
  clear ck_0 ck_1 ck_2 ck_3 ck_4 ck_5 fk Lk
  refine bodyPost.abs ?_
  intro w3 hW
  have hG : Gr [w.heap.size + 1 + 1] w2 w3 := by rw [hW]; exact (Gr.refl _ _).set.set.set.set.set.set
  have hsz := hs.size
  have lk := Blk.lt
  have hbw : Below w.heap.size w2 w3 := hG.below1 hs.size (by first | omega | assumption)
  have hk : KeepD w2 w3 := hG.keep ⟨⟨_, Blk.ty, by decide⟩, True.intro⟩
  have Bl1k : Bx w3 (w.heap.size + 1 + 1) 50 #[.bool false, .slice none 0 0, .slice none 0 0, .bool false, .slice none 0 0, .slice none 0 0] := by rw [hW]; exact Blk.set6
  replace hs := hs.trans hbw
  replace Bllo := hG.bx Bllo (notMem1 (by omega))
  replace Blhi := hG.bx Blhi (notMem1 (by omega))
  replace Blk := Bl1k
  clear Bl1k
  replace hx := hx.keep hk
  replace hy := hy.keep hk
  clear hW hG hk hbw hsz lk
  have ck_0 : w3.cell? ⟨w.heap.size + 1 + 1, 0, none⟩ = some (.bool false) := Blk.at 0 rfl
  have ck_1 : w3.cell? ⟨w.heap.size + 1 + 1, 1, none⟩ = some (.slice none 0 0) := Blk.at 1 rfl
  have ck_2 : w3.cell? ⟨w.heap.size + 1 + 1, 2, none⟩ = some (.slice none 0 0) := Blk.at 2 rfl
  have ck_3 : w3.cell? ⟨w.heap.size + 1 + 1, 3, none⟩ = some (.bool false) := Blk.at 3 rfl
  have ck_4 : w3.cell? ⟨w.heap.size + 1 + 1, 4, none⟩ = some (.slice none 0 0) := Blk.at 4 rfl
  have ck_5 : w3.cell? ⟨w.heap.size + 1 + 1, 5, none⟩ = some (.slice none 0 0) := Blk.at 5 rfl
  exact bodyPost_ret (v := .tuple #[.agg #[.bool false, .slice none 0 0, .slice none 0 0, .bool false, .slice none 0 0, .slice none 0 0], .int .i64 7]) (by simp [results, Try.results57, go_sem, ck_0, ck_1, ck_2, ck_3, ck_4, ck_5]) rfl ⟨_, _, rfl, (PV2.mk (PV.zero _) (PV.zero _)), rfl, hs⟩

set_option maxRecDepth 100000 in
set_option maxHeartbeats 4000000 in
theorem p_Only (vx : Value) (x : Rat) (w : World) (hx : PV w vx x) :
    Calls Try.prog 52 #[vx] w (Ret1 (fun w v => PV2 w v (x) (x)) w) := by
  obtain ⟨shx, ahx, nhx, chx, Ahx, Nhx, Chx, rfl⟩ := hx.shape
  have hs := Below.refl w.heap.size w
  go_enter Try.func52, Try.ntmps52
  go_wp2
  refine bodyPost.abs ?_
  intro w1 hW
  have hG : Gr [] w w1 := by rw [hW]; exact (Gr.refl _ _).alloc.alloc
  have hbw : Below w.heap.size w w1 := hG.below0 hs.size
  have hk : KeepD w w1 := hG.keep True.intro
  have sz_w1 : w.heap.size ≤ w.heap.size := hs.size
  have Blx : Bx w1 (w.heap.size) 26 #[.bool shx, .slice ahx nhx chx, .slice Ahx Nhx Chx] := by rw [hW]; exact ((Bx.new0 _ _ _).alloc _)
  have Blk : Bx w1 (w.heap.size + 1) 50 #[.bool shx, .slice ahx nhx chx, .slice Ahx Nhx Chx, .bool shx, .slice ahx nhx chx, .slice Ahx Nhx Chx] := by rw [hW]; exact (Bx.new0 _ _ _)
  replace hs := hs.trans hbw
  replace hx := hx.keep hk
  clear hW hG hk hbw
  have hz_w1 : w.heap.size + 1 < w1.heap.size := Blk.lt
  have ck_0 : w1.cell? ⟨w.heap.size + 1, 0, none⟩ = some (.bool shx) := Blk.at 0 rfl
  have ck_1 : w1.cell? ⟨w.heap.size + 1, 1, none⟩ = some (.slice ahx nhx chx) := Blk.at 1 rfl
  have ck_2 : w1.cell? ⟨w.heap.size + 1, 2, none⟩ = some (.slice Ahx Nhx Chx) := Blk.at 2 rfl
  have ck_3 : w1.cell? ⟨w.heap.size + 1, 3, none⟩ = some (.bool shx) := Blk.at 3 rfl
  have ck_4 : w1.cell? ⟨w.heap.size + 1, 4, none⟩ = some (.slice ahx nhx chx) := Blk.at 4 rfl
  have ck_5 : w1.cell? ⟨w.heap.size + 1, 5, none⟩ = some (.slice Ahx Nhx Chx) := Blk.at 5 rfl
  exact bodyPost_ret (v := .agg #[.bool shx, .slice ahx nhx chx, .slice Ahx Nhx Chx, .bool shx, .slice ahx nhx chx, .slice Ahx Nhx Chx]) (by simp [results, Try.results52, go_sem, ck_0, ck_1, ck_2, ck_3, ck_4, ck_5]) rfl ⟨_, rfl, (PV2.mk hx hx), hs⟩

set_option maxRecDepth 100000 in
set_option maxHeartbeats 4000000 in
theorem p_Lo (vxy : Value) (x y : Rat) (w : World) (hxy : PV2 w vxy x y) :
    Calls Try.prog 24 #[vxy] w (RetP w (x)) := by
  obtain ⟨shx, ahx, nhx, chx, Ahx, Nhx, Chx, shy, ahy, nhy, chy, Ahy, Nhy, Chy, rfl, hx, hy⟩ := hxy.shape
  clear hxy
  have hs := Below.refl w.heap.size w
  go_enter Try.func24, Try.ntmps24
  go_wp2
  refine bodyPost.abs ?_
  intro w1 hW
  have hG : Gr [] w w1 := by rw [hW]; exact (Gr.refl _ _).alloc.alloc
  have hbw : Below w.heap.size w w1 := hG.below0 hs.size
  have hk : KeepD w w1 := hG.keep True.intro
  have sz_w1 : w.heap.size ≤ w.heap.size := hs.size
  have Blx : Bx w1 (w.heap.size) 50 #[.bool shx, .slice ahx nhx chx, .slice Ahx Nhx Chx, .bool shy, .slice ahy nhy chy, .slice Ahy Nhy Chy] := by rw [hW]; exact ((Bx.new0 _ _ _).alloc _)
  have Blk : Bx w1 (w.heap.size + 1) 26 #[.bool shx, .slice ahx nhx chx, .slice Ahx Nhx Chx] := by rw [hW]; exact (Bx.new0 _ _ _)
  replace hs := hs.trans hbw
  replace hx := hx.keep hk
  replace hy := hy.keep hk
  clear hW hG hk hbw
  have hz_w1 : w.heap.size + 1 < w1.heap.size := Blk.lt
  have ck_0 : w1.cell? ⟨w.heap.size + 1, 0, none⟩ = some (.bool shx) := Blk.at 0 rfl
  have ck_1 : w1.cell? ⟨w.heap.size + 1, 1, none⟩ = some (.slice ahx nhx chx) := Blk.at 1 rfl
  have ck_2 : w1.cell? ⟨w.heap.size + 1, 2, none⟩ = some (.slice Ahx Nhx Chx) := Blk.at 2 rfl
  exact bodyPost_ret (v := .agg #[.bool shx, .slice ahx nhx chx, .slice Ahx Nhx Chx]) (by simp [results, Try.results24, go_sem, ck_0, ck_1, ck_2]) rfl ⟨_, rfl, hx, hs⟩

set_option maxRecDepth 100000 in
set_option maxHeartbeats 4000000 in
theorem p_Hi (vxy : Value) (x y : Rat) (w : World) (hxy : PV2 w vxy x y) :
    Calls Try.prog 27 #[vxy] w (RetP w (y)) := by
  obtain ⟨shx, ahx, nhx, chx, Ahx, Nhx, Chx, shy, ahy, nhy, chy, Ahy, Nhy, Chy, rfl, hx, hy⟩ := hxy.shape
  clear hxy
  have hs := Below.refl w.heap.size w
  go_enter Try.func27, Try.ntmps27
  go_wp2
  refine bodyPost.abs ?_
  intro w1 hW
  have hG : Gr [] w w1 := by rw [hW]; exact (Gr.refl _ _).alloc.alloc
  have hbw : Below w.heap.size w w1 := hG.below0 hs.size
  have hk : KeepD w w1 := hG.keep True.intro
  have sz_w1 : w.heap.size ≤ w.heap.size := hs.size
  have Blx : Bx w1 (w.heap.size) 50 #[.bool shx, .slice ahx nhx chx, .slice Ahx Nhx Chx, .bool shy, .slice ahy nhy chy, .slice Ahy Nhy Chy] := by rw [hW]; exact ((Bx.new0 _ _ _).alloc _)
  have Blk : Bx w1 (w.heap.size + 1) 26 #[.bool shy, .slice ahy nhy chy, .slice Ahy Nhy Chy] := by rw [hW]; exact (Bx.new0 _ _ _)
  replace hs := hs.trans hbw
  replace hx := hx.keep hk
  replace hy := hy.keep hk
  clear hW hG hk hbw
  have hz_w1 : w.heap.size + 1 < w1.heap.size := Blk.lt
  have ck_0 : w1.cell? ⟨w.heap.size + 1, 0, none⟩ = some (.bool shy) := Blk.at 0 rfl
  have ck_1 : w1.cell? ⟨w.heap.size + 1, 1, none⟩ = some (.slice ahy nhy chy) := Blk.at 1 rfl
  have ck_2 : w1.cell? ⟨w.heap.size + 1, 2, none⟩ = some (.slice Ahy Nhy Chy) := Blk.at 2 rfl
  exact bodyPost_ret (v := .agg #[.bool shy, .slice ahy nhy chy, .slice Ahy Nhy Chy]) (by simp [results, Try.results27, go_sem, ck_0, ck_1, ck_2]) rfl ⟨_, rfl, hy, hs⟩

set_option maxRecDepth 100000 in
set_option maxHeartbeats 4000000 in
theorem p_Width (vxy : Value) (x y : Rat) (w : World) (hxy : PV2 w vxy x y) (sx : Mid x) (sy : Mid y) :
    Calls Try.prog 25 #[vxy] w (RetP w (y - x)) := by
  obtain ⟨shx, ahx, nhx, chx, Ahx, Nhx, Chx, shy, ahy, nhy, chy, Ahy, Nhy, Chy, rfl, hx, hy⟩ := hxy.shape
  clear hxy
  have hs := Below.refl w.heap.size w
  go_enter Try.func25, Try.ntmps25
  go_wp2_with fail
  refine Calls.abs ?_
  intro w1 hW
  have hG : Gr [] w w1 := by rw [hW]; exact (Gr.refl _ _).alloc.alloc
  have hbw : Below w.heap.size w w1 := hG.below0 hs.size
  have hk : KeepD w w1 := hG.keep True.intro
  have sz_w1 : w.heap.size ≤ w.heap.size := hs.size
  have Blx : Bx w1 (w.heap.size) 50 #[.bool shx, .slice ahx nhx chx, .slice Ahx Nhx Chx, .bool shy, .slice ahy nhy chy, .slice Ahy Nhy Chy] := by rw [hW]; exact ((Bx.new0 _ _ _).alloc _)
  have Blk : Bx w1 (w.heap.size + 1) 26 #[.bool false, .slice none 0 0, .slice none 0 0] := by rw [hW]; exact (Bx.new0 _ _ _)
  replace hs := hs.trans hbw
  replace hx := hx.keep hk
  replace hy := hy.keep hk
  clear hW hG hk hbw
  have hz_w1 : w.heap.size + 1 < w1.heap.size := Blk.lt
  with_reducible refine (pSub hy hx (SzQ.fit sy) (SzQ.fit sx)).mono ?_
  rintro e w2 ⟨_, rfl, h1, hb⟩
  obtain ⟨sh1, ah1, nh1, ch1, Ah1, Nh1, Ch1, rfl⟩ := h1.shape
  replace hs := bStep hs hb
  replace Blx := Blx.mono hb
  replace Blk := Blk.mono hb
  replace hx := hx.mono hb
  replace hy := hy.mono hb
  clear hb
  have ck_0 : w2.cell? ⟨w.heap.size + 1, 0, none⟩ = some (.bool false) := Blk.at 0 rfl
  have ck_1 : w2.cell? ⟨w.heap.size + 1, 1, none⟩ = some (.slice none 0 0) := Blk.at 1 rfl
  have ck_2 : w2.cell? ⟨w.heap.size + 1, 2, none⟩ = some (.slice none 0 0) := Blk.at 2 rfl
  have fk := Blk.free
  have Lk : w.heap.size + 1 < w2.heap.size := Blk.lt
  go_wp2
  clear ck_0 ck_1 ck_2 fk Lk
  refine bodyPost.abs ?_
  intro w3 hW
  have hG : Gr [w.heap.size + 1] w2 w3 := by rw [hW]; exact (Gr.refl _ _).set.set.set
  have hsz := hs.size
  have lk := Blk.lt
  have hbw : Below w.heap.size w2 w3 := hG.below1 hs.size (by first | omega | assumption)
  have hk : KeepD w2 w3 := hG.keep ⟨⟨_, Blk.ty, by decide⟩, True.intro⟩
  have Bl1k : Bx w3 (w.heap.size + 1) 26 #[.bool sh1, .slice ah1 nh1 ch1, .slice Ah1 Nh1 Ch1] := by rw [hW]; exact Blk.set3
  replace hs := hs.trans hbw
  replace Blx := hG.bx Blx (notMem1 (by omega))
  replace Blk := Bl1k
  clear Bl1k
  replace hx := hx.keep hk
  replace hy := hy.keep hk
  replace h1 := h1.keep hk
  clear hW hG hk hbw hsz lk
  have ck_0 : w3.cell? ⟨w.heap.size + 1, 0, none⟩ = some (.bool sh1) := Blk.at 0 rfl
  have ck_1 : w3.cell? ⟨w.heap.size + 1, 1, none⟩ = some (.slice ah1 nh1 ch1) := Blk.at 1 rfl
  have ck_2 : w3.cell? ⟨w.heap.size + 1, 2, none⟩ = some (.slice Ah1 Nh1 Ch1) := Blk.at 2 rfl
  exact bodyPost_ret (v := .agg #[.bool sh1, .slice ah1 nh1 ch1, .slice Ah1 Nh1 Ch1]) (by simp [results, Try.results25, go_sem, ck_0, ck_1, ck_2]) rfl ⟨_, rfl, h1, hs⟩




end Go.Proofs.Ytmnipggjjcmjkaa
