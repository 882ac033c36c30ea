/-
  The program's ranges: Make, Only, Lo, Hi, Width, Has, In, Before.
-/
import Derived.Test.YtkfekkhhfpkfaaaGreatPkGrQ
import Derived.Test.YtkfekkhhfpkfaaaGreatPkHeldQ
set_option linter.unusedSimpArgs false
set_option linter.unusedVariables false
set_option maxRecDepth 100000
set_option maxHeartbeats 4000000
namespace Go.Proofs.YtkfekkhhfpkfaaaGreat
open Go.RowKit Dg
attribute [local go_sem ↓] Go.wp_at_zero Go.wp_at_succ
theorem p_Make_le (vx : Value) (x : Rat) (vy : Value) (y : Rat) (w : World) (hx : PV w vx x) (sx : Mid x) (hy : PV w vy y) (sy : Mid y) (hle : x ≤ y) :
  Calls Tryz.prog 96 #[vx, vy] w (Ret2 (fun w v => PV2 w v (x) (y)) (fun _ v => v = .int .i64 (0)) w) := by
 obtain ⟨shx, ahx, nhx, chx, Ahx, Nhx, Chx, rfl⟩ := hx.shape
 obtain ⟨shy, ahy, nhy, chy, Ahy, Nhy, Chy, rfl⟩ := hy.shape
 have hs := Below.refl w.heap.size w
 have HLE := Lib.hid hle
 clear hle
 go_enter Tryz.func96, Tryz.ntmps96
 go_wp2_with fail
 refine Calls.abs ?_
 intro w1 hW
 have hG : Gr [] w w1 := by rw [hW]; exact (Gr.refl _ _).alloc.alloc.alloc
 have hbw : Below w.heap.size w w1 := hG.below0 hs.size
 have hk : KeepD w w1 := hG.keep True.intro
 have sz_w1 : w.heap.size ≤ w.heap.size := hs.size
 have B4 : Bx w1 (w.heap.size) 32 #[.bool shx, .slice ahx nhx chx, .slice Ahx Nhx Chx] := by rw [hW]; exact (((Bx.new0 _ _ _).alloc _).alloc _)
 have B3 : Bx w1 (w.heap.size + 1) 32 #[.bool shy, .slice ahy nhy chy, .slice Ahy Nhy Chy] := by rw [hW]; exact ((Bx.new0 _ _ _).alloc _)
 have Blk : Bx w1 (w.heap.size + 1 + 1) 85 #[.bool false, .slice none 0 0, .slice none 0 0, .bool false, .slice none 0 0, .slice none 0 0] := by rw [hW]; exact (Bx.new0 _ _ _)
 replace hs := hs.trans hbw
 replace hx := hx.keep hk
 replace hy := hy.keep hk
 clear hW hG hk hbw
 have hz_w1 := Blk.lt
 with_reducible refine (pCmp hx hy (SzQ.fit sx) (SzQ.fit sy)).mono ?_
 rintro e w2 ⟨rfl, hb⟩
 replace hs := bStep hs hb
 replace B4 := B4.mono hb
 replace B3 := B3.mono hb
 replace Blk := Blk.mono hb
 replace hx := hx.mono hb
 replace hy := hy.mono hb
 clear hb
 obtain ⟨sg1, Hsg1⟩ : ∃ s : Int, s = sgQ (x - y) := ⟨_, rfl⟩
 rw [← Hsg1]
 replace Hsg1 := Lib.hid Hsg1
 have q2 : ¬ (y < x) := Rat.not_lt.2 HLE.out
 have q2_ : ¬ (0 < sg1) := by have h := sq_gt x y; rw [← Hsg1.out] at h; exact fun h1 => q2 (h.1 h1)
 have q2H := Lib.hid q2
 clear q2
 have q2d : decide (0 < sg1) = false := decide_eq_false q2_
 have Bb := B4.a0
 have Bc := B4.a1
 have Bd := B4.a2
 have Llo := B4.lt
 have B8 := B3.a0
 have B9 := B3.a1
 have Ba := B3.a2
 have Lhi := B3.lt
 have B0 := Blk.a0
 have B1 := Blk.a1
 have B2 := Blk.a2
 have B5 := Blk.a3
 have B6 := Blk.a4
 have B7 := Blk.a5
 have fk := Blk.free
 have Lk := Blk.lt
 go_wp2
 clear Bb Bc Bd B8 B9 Ba B0 B1 B2 B5 B6 B7 fk Llo Lhi Lk
 refine bodyPost.abs ?_
 intro w3 hW
 have hG : Gr [w.heap.size + 1 + 1] w2 w3 := by rw [hW]; exact (Gr.refl _ _).set.set.set.set.set.set
 have hsz := hs.size
 have lk := Blk.lt
 have hbw : Below w.heap.size w2 w3 := hG.below1 hs.size (by first | omega | assumption)
 have hk : KeepD w2 w3 := hG.keep ⟨⟨_, Blk.ty, by decide⟩, True.intro⟩
 have Bl1k : Bx w3 (w.heap.size + 1 + 1) 85 #[.bool shx, .slice ahx nhx chx, .slice Ahx Nhx Chx, .bool shy, .slice ahy nhy chy, .slice Ahy Nhy Chy] := by rw [hW]; exact Blk.set6
 replace hs := hs.trans hbw
 replace B4 := hG.bx B4 (notMem1 (by omega))
 replace B3 := hG.bx B3 (notMem1 (by omega))
 replace Blk := Bl1k
 clear Bl1k
 replace hx := hx.keep hk
 replace hy := hy.keep hk
 clear hW hG hk hbw hsz lk
 have B0 := Blk.a0
 have B1 := Blk.a1
 have B2 := Blk.a2
 have B5 := Blk.a3
 have B6 := Blk.a4
 have B7 := Blk.a5
 exact bodyPost_ret (v := .tuple #[.agg #[.bool shx, .slice ahx nhx chx, .slice Ahx Nhx Chx, .bool shy, .slice ahy nhy chy, .slice Ahy Nhy Chy], .int .i64 0]) (by simp [results, Tryz.results96, go_sem, B0, B1, B2, B5, B6, B7]) rfl ⟨_, _, rfl, (PV2.mk hx hy), rfl, hs⟩
theorem p_Only (vx : Value) (x : Rat) (w : World) (hx : PV w vx x) :
  Calls Tryz.prog 90 #[vx] w (Ret1 (fun w v => PV2 w v (x) (x)) w) := by
 obtain ⟨shx, ahx, nhx, chx, Ahx, Nhx, Chx, rfl⟩ := hx.shape
 have hs := Below.refl w.heap.size w
 go_enter Tryz.func90, Tryz.ntmps90
 go_wp2
 refine bodyPost.abs ?_
 intro w1 hW
 have hG : Gr [] w w1 := by rw [hW]; exact (Gr.refl _ _).alloc.alloc
 have hbw : Below w.heap.size w w1 := hG.below0 hs.size
 have hk : KeepD w w1 := hG.keep True.intro
 have sz_w1 : w.heap.size ≤ w.heap.size := hs.size
 have Blx : Bx w1 (w.heap.size) 32 #[.bool shx, .slice ahx nhx chx, .slice Ahx Nhx Chx] := by rw [hW]; exact ((Bx.new0 _ _ _).alloc _)
 have Blk : Bx w1 (w.heap.size + 1) 85 #[.bool shx, .slice ahx nhx chx, .slice Ahx Nhx Chx, .bool shx, .slice ahx nhx chx, .slice Ahx Nhx Chx] := by rw [hW]; exact (Bx.new0 _ _ _)
 replace hs := hs.trans hbw
 replace hx := hx.keep hk
 clear hW hG hk hbw
 have hz_w1 := Blk.lt
 have B0 := Blk.a0
 have B1 := Blk.a1
 have B2 := Blk.a2
 have B5 := Blk.a3
 have B6 := Blk.a4
 have B7 := Blk.a5
 exact bodyPost_ret (v := .agg #[.bool shx, .slice ahx nhx chx, .slice Ahx Nhx Chx, .bool shx, .slice ahx nhx chx, .slice Ahx Nhx Chx]) (by simp [results, Tryz.results90, go_sem, B0, B1, B2, B5, B6, B7]) rfl ⟨_, rfl, (PV2.mk hx hx), hs⟩
theorem p_Lo (vxy : Value) (x y : Rat) (w : World) (hxy : PV2 w vxy x y) :
  Calls Tryz.prog 94 #[vxy] w (RetP w (x)) := by
 obtain ⟨shx, ahx, nhx, chx, Ahx, Nhx, Chx, shy, ahy, nhy, chy, Ahy, Nhy, Chy, rfl, hx, hy⟩ := hxy.shape
 clear hxy
 have hs := Below.refl w.heap.size w
 go_enter Tryz.func94, Tryz.ntmps94
 go_wp2
 refine bodyPost.abs ?_
 intro w1 hW
 have hG : Gr [] w w1 := by rw [hW]; exact (Gr.refl _ _).alloc.alloc
 have hbw : Below w.heap.size w w1 := hG.below0 hs.size
 have hk : KeepD w w1 := hG.keep True.intro
 have sz_w1 : w.heap.size ≤ w.heap.size := hs.size
 have Blx : Bx w1 (w.heap.size) 85 #[.bool shx, .slice ahx nhx chx, .slice Ahx Nhx Chx, .bool shy, .slice ahy nhy chy, .slice Ahy Nhy Chy] := by rw [hW]; exact ((Bx.new0 _ _ _).alloc _)
 have Blk : Bx w1 (w.heap.size + 1) 32 #[.bool shx, .slice ahx nhx chx, .slice Ahx Nhx Chx] := by rw [hW]; exact (Bx.new0 _ _ _)
 replace hs := hs.trans hbw
 replace hx := hx.keep hk
 replace hy := hy.keep hk
 clear hW hG hk hbw
 have hz_w1 := Blk.lt
 have B0 := Blk.a0
 have B1 := Blk.a1
 have B2 := Blk.a2
 exact bodyPost_ret (v := .agg #[.bool shx, .slice ahx nhx chx, .slice Ahx Nhx Chx]) (by simp [results, Tryz.results94, go_sem, B0, B1, B2]) rfl ⟨_, rfl, hx, hs⟩
theorem p_Hi (vxy : Value) (x y : Rat) (w : World) (hxy : PV2 w vxy x y) :
  Calls Tryz.prog 95 #[vxy] w (RetP w (y)) := by
 obtain ⟨shx, ahx, nhx, chx, Ahx, Nhx, Chx, shy, ahy, nhy, chy, Ahy, Nhy, Chy, rfl, hx, hy⟩ := hxy.shape
 clear hxy
 have hs := Below.refl w.heap.size w
 go_enter Tryz.func95, Tryz.ntmps95
 go_wp2
 refine bodyPost.abs ?_
 intro w1 hW
 have hG : Gr [] w w1 := by rw [hW]; exact (Gr.refl _ _).alloc.alloc
 have hbw : Below w.heap.size w w1 := hG.below0 hs.size
 have hk : KeepD w w1 := hG.keep True.intro
 have sz_w1 : w.heap.size ≤ w.heap.size := hs.size
 have Blx : Bx w1 (w.heap.size) 85 #[.bool shx, .slice ahx nhx chx, .slice Ahx Nhx Chx, .bool shy, .slice ahy nhy chy, .slice Ahy Nhy Chy] := by rw [hW]; exact ((Bx.new0 _ _ _).alloc _)
 have Blk : Bx w1 (w.heap.size + 1) 32 #[.bool shy, .slice ahy nhy chy, .slice Ahy Nhy Chy] := by rw [hW]; exact (Bx.new0 _ _ _)
 replace hs := hs.trans hbw
 replace hx := hx.keep hk
 replace hy := hy.keep hk
 clear hW hG hk hbw
 have hz_w1 := Blk.lt
 have B0 := Blk.a0
 have B1 := Blk.a1
 have B2 := Blk.a2
 exact bodyPost_ret (v := .agg #[.bool shy, .slice ahy nhy chy, .slice Ahy Nhy Chy]) (by simp [results, Tryz.results95, go_sem, B0, B1, B2]) rfl ⟨_, rfl, hy, hs⟩
end Go.Proofs.YtkfekkhhfpkfaaaGreat
namespace Go.Proofs.YtkfekkhhfpkfaaaGreat
open Go.RowKit Dg
attribute [local go_sem ↓] Go.wp_at_zero Go.wp_at_succ
def mnQ (x y : Rat) : Rat := if x ≤ y then x else y
def mxQ (x y : Rat) : Rat := if y ≤ x then x else y
theorem mnQ_sz {K : Nat} {x y : Rat} (hx : SzQ K x) (hy : SzQ K y) : SzQ K (mnQ x y) := by unfold mnQ; split <;> assumption
theorem mxQ_sz {K : Nat} {x y : Rat} (hx : SzQ K x) (hy : SzQ K y) : SzQ K (mxQ x y) := by unfold mxQ; split <;> assumption
theorem r_Only (vx : Value) (x : Rat) (w : World) (hx : RV w vx x) :
  Calls Tryz.prog 93 #[vx] w (Ret1 (fun w v => RV2 w v (x) (x)) w) := by
 obtain ⟨Bc, B9, Bb, Ba, B6, B8, B7, rfl⟩ := hx.shape
 have hs := Below.refl w.heap.size w
 go_enter Tryz.func93, Tryz.ntmps93
 go_wp2
 refine bodyPost.abs ?_
 intro w1 hW
 have hG : Gr [] w w1 := by rw [hW]; exact (Gr.refl _ _).alloc.alloc
 have B5 : Below w.heap.size w w1 := hG.below0 hs.size
 have hk : KeepD w w1 := hG.keep True.intro
 have C8 : w.heap.size ≤ w.heap.size := hs.size
 have B0 : Bx w1 (w.heap.size) 38 #[.bool Bc, .slice B9 Bb Ba, .slice B6 B8 B7] := by rw [hW]; exact ((Bx.new0 _ _ _).alloc _)
 have Blk : Bx w1 (w.heap.size + 1) 87 #[.bool Bc, .slice B9 Bb Ba, .slice B6 B8 B7, .bool Bc, .slice B9 Bb Ba, .slice B6 B8 B7] := by rw [hW]; exact (Bx.new0 _ _ _)
 replace hs := hs.trans B5
 replace hx := hx.keep hk
 clear hW hG hk B5
 have C7 := Blk.lt
 have B2 := Blk.a0
 have B3 := Blk.a1
 have B4 := Blk.a2
 have C4 := Blk.a3
 have C5 := Blk.a4
 have C6 := Blk.a5
 exact bodyPost_ret (v := .agg #[.bool Bc, .slice B9 Bb Ba, .slice B6 B8 B7, .bool Bc, .slice B9 Bb Ba, .slice B6 B8 B7]) (by simp [results, Tryz.results93, go_sem, B2, B3, B4, C4, C5, C6]) rfl ⟨_, rfl, (RV2.mk hx hx), hs⟩
theorem r_least (vx : Value) (x : Rat) (vy : Value) (y : Rat) (w : World) (hx : RV w vx x) (sx : Mid x) (hy : RV w vy y) (sy : Mid y) :
  Calls Tryz.prog 136 #[vx, vy] w (RetQ w (mnQ x y)) := by
 obtain ⟨Bc, B9, Bb, Ba, B6, B8, B7, rfl⟩ := hx.shape
 obtain ⟨Br, Bo, Bq, Bp, Bl, Bn, Bm, rfl⟩ := hy.shape
 have hs := Below.refl w.heap.size w
 go_enter Tryz.func136, Tryz.ntmps136
 go_wp2_with fail
 refine Calls.abs ?_
 intro w1 hW
 have hG : Gr [] w w1 := by rw [hW]; exact (Gr.refl _ _).alloc.alloc.alloc
 have B5 : Below w.heap.size w w1 := hG.below0 hs.size
 have hk : KeepD w w1 := hG.keep True.intro
 have C8 : w.heap.size ≤ w.heap.size := hs.size
 have B0 : Bx w1 (w.heap.size) 38 #[.bool Bc, .slice B9 Bb Ba, .slice B6 B8 B7] := by rw [hW]; exact (((Bx.new0 _ _ _).alloc _).alloc _)
 have B1 : Bx w1 (w.heap.size + 1) 38 #[.bool Br, .slice Bo Bq Bp, .slice Bl Bn Bm] := by rw [hW]; exact ((Bx.new0 _ _ _).alloc _)
 have Blk : Bx w1 (w.heap.size + 1 + 1) 38 #[.bool false, .slice none 0 0, .slice none 0 0] := by rw [hW]; exact (Bx.new0 _ _ _)
 replace hs := hs.trans B5
 replace hx := hx.keep hk
 replace hy := hy.keep hk
 clear hW hG hk B5
 have C7 := Blk.lt
 refine (rCmp hx hy (SzQ.fit sx) (SzQ.fit sy)).mono ?_
 rintro e w2 ⟨rfl, hb⟩
 replace hs := bStep hs hb
 replace B0 := B0.mono hb
 replace B1 := B1.mono hb
 replace Blk := Blk.mono hb
 replace hx := hx.mono hb
 replace hy := hy.mono hb
 clear hb
 obtain ⟨C1, Bs⟩ : ∃ s : Int, s = sgQ (x - y) := ⟨_, rfl⟩
 rw [← Bs]
 replace Bs := Lib.hid Bs
 by_cases q2 : x ≤ y
 ·have C3 : C1 ≤ 0 := by have h := sq_le x y; rw [← Bs.out] at h; exact h.2 q2
  have C2 := Lib.hid q2
  clear q2
  have q2d : decide (C1 ≤ 0) = true := decide_eq_true C3
  have Bf := B0.a0
  have Bg := B0.a1
  have Bh := B0.a2
  have Lx := B0.lt
  have B2 := Blk.a0
  have B3 := Blk.a1
  have B4 := Blk.a2
  have fk := Blk.free
  have Lk := Blk.lt
  go_wp2
  clear Bf Bg Bh B2 B3 B4 fk Lx Lk
  refine bodyPost.abs ?_
  intro w3 hW
  have hG : Gr [w.heap.size + 1 + 1] w2 w3 := by rw [hW]; exact (Gr.refl _ _).set.set.set
  have C0 := hs.size
  have lk := Blk.lt
  have B5 : Below w.heap.size w2 w3 := hG.below1 hs.size (by first | omega | assumption)
  have hk : KeepD w2 w3 := hG.keep ⟨⟨_, Blk.ty, by decide⟩, True.intro⟩
  have Bd : Bx w3 (w.heap.size + 1 + 1) 38 #[.bool Bc, .slice B9 Bb Ba, .slice B6 B8 B7] := by rw [hW]; exact Blk.set3
  replace hs := hs.trans B5
  replace B0 := hG.bx B0 (notMem1 (by omega))
  replace B1 := hG.bx B1 (notMem1 (by omega))
  replace Blk := Bd
  clear Bd
  replace hx := hx.keep hk
  replace hy := hy.keep hk
  clear hW hG hk B5 C0 lk
  have B2 := Blk.a0
  have B3 := Blk.a1
  have B4 := Blk.a2
  exact bodyPost_ret (v := .agg #[.bool Bc, .slice B9 Bb Ba, .slice B6 B8 B7]) (by simp [results, Tryz.results136, go_sem, B2, B3, B4]) rfl ⟨_, rfl, (hx.of_eq (by unfold mnQ; rw [if_pos C2.out])), hs⟩
 ·have C3 : ¬ (C1 ≤ 0) := by have h := sq_le x y; rw [← Bs.out] at h; exact fun h1 => q2 (h.1 h1)
  have C2 := Lib.hid q2
  clear q2
  have q2d : decide (C1 ≤ 0) = false := decide_eq_false C3
  have Bi := B1.a0
  have Bj := B1.a1
  have Bk := B1.a2
  have Ly := B1.lt
  have B2 := Blk.a0
  have B3 := Blk.a1
  have B4 := Blk.a2
  have fk := Blk.free
  have Lk := Blk.lt
  go_wp2
  clear Bi Bj Bk B2 B3 B4 fk Ly Lk
  refine bodyPost.abs ?_
  intro w3 hW
  have hG : Gr [w.heap.size + 1 + 1] w2 w3 := by rw [hW]; exact (Gr.refl _ _).set.set.set
  have C0 := hs.size
  have lk := Blk.lt
  have B5 : Below w.heap.size w2 w3 := hG.below1 hs.size (by first | omega | assumption)
  have hk : KeepD w2 w3 := hG.keep ⟨⟨_, Blk.ty, by decide⟩, True.intro⟩
  have Bd : Bx w3 (w.heap.size + 1 + 1) 38 #[.bool Br, .slice Bo Bq Bp, .slice Bl Bn Bm] := by rw [hW]; exact Blk.set3
  replace hs := hs.trans B5
  replace B0 := hG.bx B0 (notMem1 (by omega))
  replace B1 := hG.bx B1 (notMem1 (by omega))
  replace Blk := Bd
  clear Bd
  replace hx := hx.keep hk
  replace hy := hy.keep hk
  clear hW hG hk B5 C0 lk
  have B2 := Blk.a0
  have B3 := Blk.a1
  have B4 := Blk.a2
  exact bodyPost_ret (v := .agg #[.bool Br, .slice Bo Bq Bp, .slice Bl Bn Bm]) (by simp [results, Tryz.results136, go_sem, B2, B3, B4]) rfl ⟨_, rfl, (hy.of_eq (by unfold mnQ; rw [if_neg C2.out])), hs⟩
theorem r_most (vx : Value) (x : Rat) (vy : Value) (y : Rat) (w : World) (hx : RV w vx x) (sx : Mid x) (hy : RV w vy y) (sy : Mid y) :
  Calls Tryz.prog 137 #[vx, vy] w (RetQ w (mxQ x y)) := by
 obtain ⟨Bc, B9, Bb, Ba, B6, B8, B7, rfl⟩ := hx.shape
 obtain ⟨Br, Bo, Bq, Bp, Bl, Bn, Bm, rfl⟩ := hy.shape
 have hs := Below.refl w.heap.size w
 go_enter Tryz.func137, Tryz.ntmps137
 go_wp2_with fail
 refine Calls.abs ?_
 intro w1 hW
 have hG : Gr [] w w1 := by rw [hW]; exact (Gr.refl _ _).alloc.alloc.alloc
 have B5 : Below w.heap.size w w1 := hG.below0 hs.size
 have hk : KeepD w w1 := hG.keep True.intro
 have C8 : w.heap.size ≤ w.heap.size := hs.size
 have B0 : Bx w1 (w.heap.size) 38 #[.bool Bc, .slice B9 Bb Ba, .slice B6 B8 B7] := by rw [hW]; exact (((Bx.new0 _ _ _).alloc _).alloc _)
 have B1 : Bx w1 (w.heap.size + 1) 38 #[.bool Br, .slice Bo Bq Bp, .slice Bl Bn Bm] := by rw [hW]; exact ((Bx.new0 _ _ _).alloc _)
 have Blk : Bx w1 (w.heap.size + 1 + 1) 38 #[.bool false, .slice none 0 0, .slice none 0 0] := by rw [hW]; exact (Bx.new0 _ _ _)
 replace hs := hs.trans B5
 replace hx := hx.keep hk
 replace hy := hy.keep hk
 clear hW hG hk B5
 have C7 := Blk.lt
 refine (rCmp hx hy (SzQ.fit sx) (SzQ.fit sy)).mono ?_
 rintro e w2 ⟨rfl, hb⟩
 replace hs := bStep hs hb
 replace B0 := B0.mono hb
 replace B1 := B1.mono hb
 replace Blk := Blk.mono hb
 replace hx := hx.mono hb
 replace hy := hy.mono hb
 clear hb
 obtain ⟨C1, Bs⟩ : ∃ s : Int, s = sgQ (x - y) := ⟨_, rfl⟩
 rw [← Bs]
 replace Bs := Lib.hid Bs
 by_cases q2 : y ≤ x
 ·have C3 : 0 ≤ C1 := by have h := sq_ge x y; rw [← Bs.out] at h; exact h.2 q2
  have C2 := Lib.hid q2
  clear q2
  have q2d : decide (0 ≤ C1) = true := decide_eq_true C3
  have Bf := B0.a0
  have Bg := B0.a1
  have Bh := B0.a2
  have Lx := B0.lt
  have B2 := Blk.a0
  have B3 := Blk.a1
  have B4 := Blk.a2
  have fk := Blk.free
  have Lk := Blk.lt
  go_wp2
  clear Bf Bg Bh B2 B3 B4 fk Lx Lk
  refine bodyPost.abs ?_
  intro w3 hW
  have hG : Gr [w.heap.size + 1 + 1] w2 w3 := by rw [hW]; exact (Gr.refl _ _).set.set.set
  have C0 := hs.size
  have lk := Blk.lt
  have B5 : Below w.heap.size w2 w3 := hG.below1 hs.size (by first | omega | assumption)
  have hk : KeepD w2 w3 := hG.keep ⟨⟨_, Blk.ty, by decide⟩, True.intro⟩
  have Bd : Bx w3 (w.heap.size + 1 + 1) 38 #[.bool Bc, .slice B9 Bb Ba, .slice B6 B8 B7] := by rw [hW]; exact Blk.set3
  replace hs := hs.trans B5
  replace B0 := hG.bx B0 (notMem1 (by omega))
  replace B1 := hG.bx B1 (notMem1 (by omega))
  replace Blk := Bd
  clear Bd
  replace hx := hx.keep hk
  replace hy := hy.keep hk
  clear hW hG hk B5 C0 lk
  have B2 := Blk.a0
  have B3 := Blk.a1
  have B4 := Blk.a2
  exact bodyPost_ret (v := .agg #[.bool Bc, .slice B9 Bb Ba, .slice B6 B8 B7]) (by simp [results, Tryz.results137, go_sem, B2, B3, B4]) rfl ⟨_, rfl, (hx.of_eq (by unfold mxQ; rw [if_pos C2.out])), hs⟩
 ·have C3 : ¬ (0 ≤ C1) := by have h := sq_ge x y; rw [← Bs.out] at h; exact fun h1 => q2 (h.1 h1)
  have C2 := Lib.hid q2
  clear q2
  have q2d : decide (0 ≤ C1) = false := decide_eq_false C3
  have Bi := B1.a0
  have Bj := B1.a1
  have Bk := B1.a2
  have Ly := B1.lt
  have B2 := Blk.a0
  have B3 := Blk.a1
  have B4 := Blk.a2
  have fk := Blk.free
  have Lk := Blk.lt
  go_wp2
  clear Bi Bj Bk B2 B3 B4 fk Ly Lk
  refine bodyPost.abs ?_
  intro w3 hW
  have hG : Gr [w.heap.size + 1 + 1] w2 w3 := by rw [hW]; exact (Gr.refl _ _).set.set.set
  have C0 := hs.size
  have lk := Blk.lt
  have B5 : Below w.heap.size w2 w3 := hG.below1 hs.size (by first | omega | assumption)
  have hk : KeepD w2 w3 := hG.keep ⟨⟨_, Blk.ty, by decide⟩, True.intro⟩
  have Bd : Bx w3 (w.heap.size + 1 + 1) 38 #[.bool Br, .slice Bo Bq Bp, .slice Bl Bn Bm] := by rw [hW]; exact Blk.set3
  replace hs := hs.trans B5
  replace B0 := hG.bx B0 (notMem1 (by omega))
  replace B1 := hG.bx B1 (notMem1 (by omega))
  replace Blk := Bd
  clear Bd
  replace hx := hx.keep hk
  replace hy := hy.keep hk
  clear hW hG hk B5 C0 lk
  have B2 := Blk.a0
  have B3 := Blk.a1
  have B4 := Blk.a2
  exact bodyPost_ret (v := .agg #[.bool Br, .slice Bo Bq Bp, .slice Bl Bn Bm]) (by simp [results, Tryz.results137, go_sem, B2, B3, B4]) rfl ⟨_, rfl, (hy.of_eq (by unfold mxQ; rw [if_neg C2.out])), hs⟩
theorem r_Hull (vxy : Value) (x y : Rat) (vzu : Value) (z u : Rat) (w : World) (hxy : RV2 w vxy x y) (sx : Mid x) (sy : Mid y) (hzu : RV2 w vzu z u) (sz : Mid z) (su : Mid u) :
  Calls Tryz.prog 92 #[vxy, vzu] w (Ret1 (fun w v => RV2 w v (mnQ x z) (mxQ y u)) w) := by
 obtain ⟨Bc, B9, Bb, Ba, B6, B8, B7, Br, Bo, Bq, Bp, Bl, Bn, Bm, rfl, hx, hy⟩ := hxy.shape
 clear hxy
 obtain ⟨Cm, Cg, Ck, Ci, Ca, Ce, Cc, Cl, Cf, Cj, Ch, C9, Cd, Cb, rfl, hz, hu⟩ := hzu.shape
 clear hzu
 have hs := Below.refl w.heap.size w
 go_enter Tryz.func92, Tryz.ntmps92
 go_upto_region 1 with fail
 refine Code.abs ?_
 intro w1 hW
 have hG : Gr [] w w1 := by rw [hW]; exact (Gr.refl _ _).alloc.alloc.alloc
 have B5 : Below w.heap.size w w1 := hG.below0 hs.size
 have hk : KeepD w w1 := hG.keep True.intro
 have C8 : w.heap.size ≤ w.heap.size := hs.size
 have B0 : Bx w1 (w.heap.size) 87 #[.bool Bc, .slice B9 Bb Ba, .slice B6 B8 B7, .bool Br, .slice Bo Bq Bp, .slice Bl Bn Bm] := by rw [hW]; exact (((Bx.new0 _ _ _).alloc _).alloc _)
 have B1 : Bx w1 (w.heap.size + 1) 87 #[.bool Cm, .slice Cg Ck Ci, .slice Ca Ce Cc, .bool Cl, .slice Cf Cj Ch, .slice C9 Cd Cb] := by rw [hW]; exact ((Bx.new0 _ _ _).alloc _)
 have Blk : Bx w1 (w.heap.size + 1 + 1) 87 #[.bool false, .slice none 0 0, .slice none 0 0, .bool false, .slice none 0 0, .slice none 0 0] := by rw [hW]; exact (Bx.new0 _ _ _)
 replace hs := hs.trans B5
 replace hx := hx.keep hk
 replace hy := hy.keep hk
 replace hz := hz.keep hk
 replace hu := hu.keep hk
 clear hW hG hk B5
 have C7 := Blk.lt
 refine U_region (S := fun w' => w'.cell? ⟨w.heap.size, 0, none⟩ = some (.bool Bc) ∧ w'.cell? ⟨w.heap.size, 1, none⟩ = some (.slice B9 Bb Ba) ∧ w'.cell? ⟨w.heap.size, 2, none⟩ = some (.slice B6 B8 B7) ∧ w'.cell? ⟨w.heap.size, 3, none⟩ = some (.bool Br) ∧ w'.cell? ⟨w.heap.size, 4, none⟩ = some (.slice Bo Bq Bp) ∧ w'.cell? ⟨w.heap.size, 5, none⟩ = some (.slice Bl Bn Bm) ∧ w'.cell? ⟨w.heap.size + 1, 0, none⟩ = some (.bool Cm) ∧ w'.cell? ⟨w.heap.size + 1, 1, none⟩ = some (.slice Cg Ck Ci) ∧ w'.cell? ⟨w.heap.size + 1, 2, none⟩ = some (.slice Ca Ce Cc) ∧ w'.cell? ⟨w.heap.size + 1, 3, none⟩ = some (.bool Cl) ∧ w'.cell? ⟨w.heap.size + 1, 4, none⟩ = some (.slice Cf Cj Ch) ∧ w'.cell? ⟨w.heap.size + 1, 5, none⟩ = some (.slice C9 Cd Cb)) (by kernel_rfl) 11 ?_
 refine AnyU.abs ?_
 intro w2 hW
 have hb : Below w1.heap.size w1 w2 := by rw [hW]; exact bDrew _
 replace hs := bStep hs hb
 replace B0 := B0.mono hb
 replace B1 := B1.mono hb
 replace Blk := Blk.mono hb
 replace hx := hx.mono hb
 replace hy := hy.mono hb
 replace hz := hz.mono hb
 replace hu := hu.mono hb
 clear hb hW
 have Bf := B0.a0
 have Bg := B0.a1
 have Bh := B0.a2
 have Bt := B0.a3
 have Bu := B0.a4
 have Bv := B0.a5
 have Bi := B1.a0
 have Bj := B1.a1
 have Bk := B1.a2
 have Bw := B1.a3
 have By := B1.a4
 have Bz := B1.a5
 have hH := (show w2.cell? ⟨w.heap.size, 0, none⟩ = some (.bool Bc) ∧ w2.cell? ⟨w.heap.size, 1, none⟩ = some (.slice B9 Bb Ba) ∧ w2.cell? ⟨w.heap.size, 2, none⟩ = some (.slice B6 B8 B7) ∧ w2.cell? ⟨w.heap.size, 3, none⟩ = some (.bool Br) ∧ w2.cell? ⟨w.heap.size, 4, none⟩ = some (.slice Bo Bq Bp) ∧ w2.cell? ⟨w.heap.size, 5, none⟩ = some (.slice Bl Bn Bm) ∧ w2.cell? ⟨w.heap.size + 1, 0, none⟩ = some (.bool Cm) ∧ w2.cell? ⟨w.heap.size + 1, 1, none⟩ = some (.slice Cg Ck Ci) ∧ w2.cell? ⟨w.heap.size + 1, 2, none⟩ = some (.slice Ca Ce Cc) ∧ w2.cell? ⟨w.heap.size + 1, 3, none⟩ = some (.bool Cl) ∧ w2.cell? ⟨w.heap.size + 1, 4, none⟩ = some (.slice Cf Cj Ch) ∧ w2.cell? ⟨w.heap.size + 1, 5, none⟩ = some (.slice C9 Cd Cb) from ⟨Bf, Bg, Bh, Bt, Bu, Bv, Bi, Bj, Bk, Bw, By, Bz⟩)
 refine U_take (i := 0) (v := ?_) rfl (by kernel_rfl) (by kernel_rfl) (by kernel_rfl) (by kernel_rfl) (fun _ _ _ h => h) (Or.inl ⟨by rfl, ?_⟩) hH ?_
 rotate_left
 ·intro w Be
  try dsimp only at Be
  go_simp
  try with_reducible rfl
 try simp only [Act.put, List.setIfInBounds_toArray, List.set_cons_zero, List.set_cons_succ]
 refine U_take (i := 1) (v := ?_) rfl (by kernel_rfl) (by kernel_rfl) (by kernel_rfl) (by kernel_rfl) (fun _ _ _ h => h) (Or.inl ⟨by rfl, ?_⟩) hH ?_
 rotate_left
 ·intro w Be
  try dsimp only at Be
  go_simp
  try with_reducible rfl
 try simp only [Act.put, List.setIfInBounds_toArray, List.set_cons_zero, List.set_cons_succ]
 refine U_take (i := 2) (v := ?_) rfl (by kernel_rfl) (by kernel_rfl) (by kernel_rfl) (by kernel_rfl) (fun _ _ _ h => h) (Or.inl ⟨by rfl, ?_⟩) hH ?_
 rotate_left
 ·intro w Be
  try dsimp only at Be
  go_simp
  try with_reducible rfl
 try simp only [Act.put, List.setIfInBounds_toArray, List.set_cons_zero, List.set_cons_succ]
 refine U_take (i := 3) (v := ?_) rfl (by kernel_rfl) (by kernel_rfl) (by kernel_rfl) (by kernel_rfl) (fun _ _ _ h => h) (Or.inl ⟨by rfl, ?_⟩) hH ?_
 rotate_left
 ·intro w Be
  try dsimp only at Be
  go_simp
  try with_reducible rfl
 try simp only [Act.put, List.setIfInBounds_toArray, List.set_cons_zero, List.set_cons_succ]
 refine U_take (i := 5) (v := ?_) rfl (by kernel_rfl) (by kernel_rfl) (by kernel_rfl) (by kernel_rfl) (fun _ _ _ h => h) (Or.inl ⟨by rfl, ?_⟩) hH ?_
 rotate_left
 ·intro w Be
  try dsimp only at Be
  go_simp
  try with_reducible rfl
 try simp only [Act.put, List.setIfInBounds_toArray, List.set_cons_zero, List.set_cons_succ]
 refine U_take (i := 6) (v := ?_) rfl (by kernel_rfl) (by kernel_rfl) (by kernel_rfl) (by kernel_rfl) (fun _ _ _ h => h) (Or.inl ⟨by rfl, ?_⟩) hH ?_
 rotate_left
 ·intro w Be
  try dsimp only at Be
  go_simp
  try with_reducible rfl
 try simp only [Act.put, List.setIfInBounds_toArray, List.set_cons_zero, List.set_cons_succ]
 refine U_take (i := 7) (v := ?_) rfl (by kernel_rfl) (by kernel_rfl) (by kernel_rfl) (by kernel_rfl) (fun _ _ _ h => h) (Or.inl ⟨by rfl, ?_⟩) hH ?_
 rotate_left
 ·intro w Be
  try dsimp only at Be
  go_simp
  try with_reducible rfl
 try simp only [Act.put, List.setIfInBounds_toArray, List.set_cons_zero, List.set_cons_succ]
 refine U_take (i := 8) (v := ?_) rfl (by kernel_rfl) (by kernel_rfl) (by kernel_rfl) (by kernel_rfl) (fun _ _ _ h => h) (Or.inl ⟨by rfl, ?_⟩) hH ?_
 rotate_left
 ·intro w Be
  try dsimp only at Be
  go_simp
  try with_reducible rfl
 try simp only [Act.put, List.setIfInBounds_toArray, List.set_cons_zero, List.set_cons_succ]
 clear hH
 refine U_one (i := 4) (by kernel_rfl) rfl (fun K hK => ?_)
 go_simp
 (with_reducible refine (r_least _ _ _ _ _ hx (SzQ.mid sx) hz (SzQ.mid sz)).mono ?_)
 rintro e w3 ⟨_, rfl, h1, hb⟩
 obtain ⟨sh1, ah1, nh1, ch1, Ah1, Nh1, Ch1, rfl⟩ := h1.shape
 replace hs := bStep hs hb
 replace B0 := B0.mono hb
 replace B1 := B1.mono hb
 replace Blk := Blk.mono hb
 replace hx := hx.mono hb
 replace hy := hy.mono hb
 replace hz := hz.mono hb
 replace hu := hu.mono hb
 replace Bf := cellK Bf hb
 replace Bg := cellK Bg hb
 replace Bh := cellK Bh hb
 replace Bt := cellK Bt hb
 replace Bu := cellK Bu hb
 replace Bv := cellK Bv hb
 replace Bi := cellK Bi hb
 replace Bj := cellK Bj hb
 replace Bk := cellK Bk hb
 replace Bw := cellK Bw hb
 replace By := cellK By hb
 replace Bz := cellK Bz hb
 clear hb
 try go_wp2_with fail
 refine hK.out _ _ ⟨Bf, Bg, Bh, Bt, Bu, Bv, Bi, Bj, Bk, Bw, By, Bz⟩ (fun hH => ?_)
 clear hK K
 try simp only [Act.put, List.setIfInBounds_toArray, List.set_cons_zero, List.set_cons_succ]
 clear hH
 refine U_one (i := 9) (by kernel_rfl) rfl (fun K hK => ?_)
 go_simp
 (with_reducible refine (r_most _ _ _ _ _ hy (SzQ.mid sy) hu (SzQ.mid su)).mono ?_)
 rintro e w4 ⟨_, rfl, h2, hb⟩
 obtain ⟨sh2, ah2, nh2, ch2, Ah2, Nh2, Ch2, rfl⟩ := h2.shape
 replace hs := bStep hs hb
 replace B0 := B0.mono hb
 replace B1 := B1.mono hb
 replace Blk := Blk.mono hb
 replace hx := hx.mono hb
 replace hy := hy.mono hb
 replace hz := hz.mono hb
 replace hu := hu.mono hb
 replace h1 := h1.mono hb
 replace Bf := cellK Bf hb
 replace Bg := cellK Bg hb
 replace Bh := cellK Bh hb
 replace Bt := cellK Bt hb
 replace Bu := cellK Bu hb
 replace Bv := cellK Bv hb
 replace Bi := cellK Bi hb
 replace Bj := cellK Bj hb
 replace Bk := cellK Bk hb
 replace Bw := cellK Bw hb
 replace By := cellK By hb
 replace Bz := cellK Bz hb
 clear hb
 try go_wp2_with fail
 refine hK.out _ _ ⟨Bf, Bg, Bh, Bt, Bu, Bv, Bi, Bj, Bk, Bw, By, Bz⟩ (fun hH => ?_)
 clear hK K
 try simp only [Act.put, List.setIfInBounds_toArray, List.set_cons_zero, List.set_cons_succ]
 refine U_take (i := 10) (v := ?_) rfl (by kernel_rfl) (by kernel_rfl) (by kernel_rfl) (by kernel_rfl) (fun _ _ _ h => h) (Or.inl ⟨by rfl, ?_⟩) hH ?_
 rotate_left
 ·intro w Be
  try dsimp only at Be
  go_simp
  try with_reducible rfl
 try simp only [Act.put, List.setIfInBounds_toArray, List.set_cons_zero, List.set_cons_succ]
 clear hH
 have B2 := Blk.a0
 have B3 := Blk.a1
 have B4 := Blk.a2
 have C4 := Blk.a3
 have C5 := Blk.a4
 have C6 := Blk.a5
 have fk := Blk.free
 have Lk := Blk.lt
 refine U_last (by kernel_rfl) rfl (by kernel_rfl) (fun K hK => ?_)
 go_simp
 refine hK.out _ _ ?_
 clear hK K
 intro w5 hW
 have hG : Gr [w.heap.size + 1 + 1] w4 w5 := by rw [hW]; exact (Gr.refl _ _).set.set.set.set.set.set
 have C0 := hs.size
 have lk := Blk.lt
 have B5 : Below w.heap.size w4 w5 := hG.below1 hs.size (by first | omega | assumption)
 have hk : KeepD w4 w5 := hG.keep ⟨⟨_, Blk.ty, by decide⟩, True.intro⟩
 have Bd : Bx w5 (w.heap.size + 1 + 1) 87 #[.bool sh1, .slice ah1 nh1 ch1, .slice Ah1 Nh1 Ch1, .bool sh2, .slice ah2 nh2 ch2, .slice Ah2 Nh2 Ch2] := by rw [hW]; exact Blk.set6
 replace hs := hs.trans B5
 replace B0 := hG.bx B0 (notMem1 (by omega))
 replace B1 := hG.bx B1 (notMem1 (by omega))
 replace Blk := Bd
 clear Bd
 replace hx := hx.keep hk
 replace hy := hy.keep hk
 replace hz := hz.keep hk
 replace hu := hu.keep hk
 replace h1 := h1.keep hk
 replace h2 := h2.keep hk
 clear hW hG hk B5 C0 lk
 try simp only [Act.put, List.setIfInBounds_toArray, List.set_cons_zero, List.set_cons_succ]
 clear Bf Bg Bh Bt Bu Bv Bi Bj Bk Bw By Bz
 go_wp2
 have B2 := Blk.a0
 have B3 := Blk.a1
 have B4 := Blk.a2
 have C4 := Blk.a3
 have C5 := Blk.a4
 have C6 := Blk.a5
 exact bodyPost_ret (v := .agg #[.bool sh1, .slice ah1 nh1 ch1, .slice Ah1 Nh1 Ch1, .bool sh2, .slice ah2 nh2 ch2, .slice Ah2 Nh2 Ch2]) (by simp [results, Tryz.results92, go_sem, B2, B3, B4, C4, C5, C6]) rfl ⟨_, rfl, (RV2.mk h1 h2), hs⟩
end Go.Proofs.YtkfekkhhfpkfaaaGreat
