/-
  The reference's ranges: Only, least, most, Hull, SMul, Has, Before.
-/
import Derived.Test.YtlfnapfnpkhggaaGreatPkGrQ
import Derived.Test.YtlfnapfnpkhggaaGreatPkHeldQ
set_option linter.unusedSimpArgs false
set_option linter.unusedVariables false
namespace Go.Proofs.YtlfnapfnpkhggaaGreat
open Go.RowKit Dg
attribute [local go_sem ↓] Go.wp_at_zero Go.wp_at_succ

/-- The lesser one, the greater one of two numbers. -/
def mnQ (x y : Rat) : Rat := if x ≤ y then x else y
def mxQ (x y : Rat) : Rat := if y ≤ x then x else y
theorem mnQ_sz {K : Nat} {x y : Rat} (hx : SzQ K x) (hy : SzQ K y) : SzQ K (mnQ x y) := by unfold mnQ; split <;> assumption
theorem mxQ_sz {K : Nat} {x y : Rat} (hx : SzQ K x) (hy : SzQ K y) : SzQ K (mxQ x y) := by unfold mxQ; split <;> assumption

set_option maxRecDepth 100000 in
set_option maxHeartbeats 4000000 in
theorem r_Only (vx : Value) (x : Rat) (w : World) (hx : RV w vx x) :
    Calls Tryz.prog 104 #[vx] w (Ret1 (fun w v => RV2 w v (x) (x)) w) := by
  obtain ⟨shx, ahx, nhx, chx, Ahx, Nhx, Chx, rfl⟩ := hx.shape
  have hs := Below.refl w.heap.size w
  go_enter Tryz.func104, Tryz.ntmps104
  go_wp2
  refine bodyPost.abs ?_
  intro w1 hW
  have hG : Gr [] w w1 := by rw [hW]; exact (Gr.refl _ _).alloc.alloc
  have hbw : Below w.heap.size w w1 := hG.below0 hs.size
  have hk : KeepD w w1 := hG.keep True.intro
  have sz_w1 : w.heap.size ≤ w.heap.size := hs.size
  have Blx : Bx w1 (w.heap.size) 45 #[.bool shx, .slice ahx nhx chx, .slice Ahx Nhx Chx] := by rw [hW]; exact ((Bx.new0 _ _ _).alloc _)
  have Blk : Bx w1 (w.heap.size + 1) 88 #[.bool shx, .slice ahx nhx chx, .slice Ahx Nhx Chx, .bool shx, .slice ahx nhx chx, .slice Ahx Nhx Chx] := by rw [hW]; exact (Bx.new0 _ _ _)
  replace hs := hs.trans hbw
  replace hx := hx.keep hk
  clear hW hG hk hbw
  have hz_w1 : w.heap.size + 1 < w1.heap.size := Blk.lt
  have ck_0 : w1.cell? ⟨w.heap.size + 1, 0, none⟩ = some (.bool shx) := Blk.at 0 rfl
  have ck_1 : w1.cell? ⟨w.heap.size + 1, 1, none⟩ = some (.slice ahx nhx chx) := Blk.at 1 rfl
  have ck_2 : w1.cell? ⟨w.heap.size + 1, 2, none⟩ = some (.slice Ahx Nhx Chx) := Blk.at 2 rfl
  have ck_3 : w1.cell? ⟨w.heap.size + 1, 3, none⟩ = some (.bool shx) := Blk.at 3 rfl
  have ck_4 : w1.cell? ⟨w.heap.size + 1, 4, none⟩ = some (.slice ahx nhx chx) := Blk.at 4 rfl
  have ck_5 : w1.cell? ⟨w.heap.size + 1, 5, none⟩ = some (.slice Ahx Nhx Chx) := Blk.at 5 rfl
  exact bodyPost_ret (v := .agg #[.bool shx, .slice ahx nhx chx, .slice Ahx Nhx Chx, .bool shx, .slice ahx nhx chx, .slice Ahx Nhx Chx]) (by simp [results, Tryz.results104, go_sem, ck_0, ck_1, ck_2, ck_3, ck_4, ck_5]) rfl ⟨_, rfl, (RV2.mk hx hx), hs⟩

set_option maxRecDepth 100000 in
set_option maxHeartbeats 4000000 in
theorem r_least (vx : Value) (x : Rat) (vy : Value) (y : Rat) (w : World) (hx : RV w vx x) (sx : Mid x) (hy : RV w vy y) (sy : Mid y) :
    Calls Tryz.prog 154 #[vx, vy] w (RetQ w (mnQ x y)) := by
  obtain ⟨shx, ahx, nhx, chx, Ahx, Nhx, Chx, rfl⟩ := hx.shape
  obtain ⟨shy, ahy, nhy, chy, Ahy, Nhy, Chy, rfl⟩ := hy.shape
  have hs := Below.refl w.heap.size w
  go_enter Tryz.func154, Tryz.ntmps154
  go_wp2_with fail
  refine Calls.abs ?_
  intro w1 hW
  have hG : Gr [] w w1 := by rw [hW]; exact (Gr.refl _ _).alloc.alloc.alloc
  have hbw : Below w.heap.size w w1 := hG.below0 hs.size
  have hk : KeepD w w1 := hG.keep True.intro
  have sz_w1 : w.heap.size ≤ w.heap.size := hs.size
  have Blx : Bx w1 (w.heap.size) 45 #[.bool shx, .slice ahx nhx chx, .slice Ahx Nhx Chx] := by rw [hW]; exact (((Bx.new0 _ _ _).alloc _).alloc _)
  have Bly : Bx w1 (w.heap.size + 1) 45 #[.bool shy, .slice ahy nhy chy, .slice Ahy Nhy Chy] := by rw [hW]; exact ((Bx.new0 _ _ _).alloc _)
  have Blk : Bx w1 (w.heap.size + 1 + 1) 45 #[.bool false, .slice none 0 0, .slice none 0 0] := by rw [hW]; exact (Bx.new0 _ _ _)
  replace hs := hs.trans hbw
  replace hx := hx.keep hk
  replace hy := hy.keep hk
  clear hW hG hk hbw
  have hz_w1 : w.heap.size + 1 + 1 < w1.heap.size := Blk.lt
  refine (rCmp hx hy (SzQ.fit sx) (SzQ.fit sy)).mono ?_
  rintro e w2 ⟨rfl, hb⟩
  replace hs := bStep hs hb
  replace Blx := Blx.mono hb
  replace Bly := Bly.mono hb
  replace Blk := Blk.mono hb
  replace hx := hx.mono hb
  replace hy := hy.mono hb
  clear hb
  obtain ⟨sg1, Hsg1⟩ : ∃ s : Int, s = sgQ (x - y) := ⟨_, rfl⟩
  rw [← Hsg1]
  replace Hsg1 := Lib.hid Hsg1
  by_cases q2 : x ≤ y
  · have q2_ : sg1 ≤ 0 := by have h := sq_le x y; rw [← Hsg1.out] at h; exact h.2 q2
    have q2H := Lib.hid q2
    clear q2
    have q2d : decide (sg1 ≤ 0) = true := decide_eq_true q2_
    have cx_0 : w2.cell? ⟨w.heap.size, 0, none⟩ = some (.bool shx) := Blx.at 0 rfl
    have cx_1 : w2.cell? ⟨w.heap.size, 1, none⟩ = some (.slice ahx nhx chx) := Blx.at 1 rfl
    have cx_2 : w2.cell? ⟨w.heap.size, 2, none⟩ = some (.slice Ahx Nhx Chx) := Blx.at 2 rfl
    have Lx : w.heap.size < w2.heap.size := Blx.lt
    have ck_0 : w2.cell? ⟨w.heap.size + 1 + 1, 0, none⟩ = some (.bool false) := Blk.at 0 rfl
    have ck_1 : w2.cell? ⟨w.heap.size + 1 + 1, 1, none⟩ = some (.slice none 0 0) := Blk.at 1 rfl
    have ck_2 : w2.cell? ⟨w.heap.size + 1 + 1, 2, none⟩ = some (.slice none 0 0) := Blk.at 2 rfl
    have fk := Blk.free
    have Lk : w.heap.size + 1 + 1 < w2.heap.size := Blk.lt
    go_wp2
    clear cx_0 cx_1 cx_2 ck_0 ck_1 ck_2 fk Lx Lk
    refine bodyPost.abs ?_
    intro w3 hW
    have hG : Gr [w.heap.size + 1 + 1] w2 w3 := by rw [hW]; exact (Gr.refl _ _).set.set.set
    have hsz := hs.size
    have lk := Blk.lt
    have hbw : Below w.heap.size w2 w3 := hG.below1 hs.size (by first | omega | assumption)
    have hk : KeepD w2 w3 := hG.keep ⟨⟨_, Blk.ty, by decide⟩, True.intro⟩
    have Bl1k : Bx w3 (w.heap.size + 1 + 1) 45 #[.bool shx, .slice ahx nhx chx, .slice Ahx Nhx Chx] := by rw [hW]; exact Blk.set3
    replace hs := hs.trans hbw
    replace Blx := hG.bx Blx (notMem1 (by omega))
    replace Bly := hG.bx Bly (notMem1 (by omega))
    replace Blk := Bl1k
    clear Bl1k
    replace hx := hx.keep hk
    replace hy := hy.keep hk
    clear hW hG hk hbw hsz lk
    have ck_0 : w3.cell? ⟨w.heap.size + 1 + 1, 0, none⟩ = some (.bool shx) := Blk.at 0 rfl
    have ck_1 : w3.cell? ⟨w.heap.size + 1 + 1, 1, none⟩ = some (.slice ahx nhx chx) := Blk.at 1 rfl
    have ck_2 : w3.cell? ⟨w.heap.size + 1 + 1, 2, none⟩ = some (.slice Ahx Nhx Chx) := Blk.at 2 rfl
    exact bodyPost_ret (v := .agg #[.bool shx, .slice ahx nhx chx, .slice Ahx Nhx Chx]) (by simp [results, Tryz.results154, go_sem, ck_0, ck_1, ck_2]) rfl ⟨_, rfl, (hx.of_eq (by unfold mnQ; rw [if_pos q2H.out])), hs⟩
  · have q2_ : ¬ (sg1 ≤ 0) := by have h := sq_le x y; rw [← Hsg1.out] at h; exact fun h1 => q2 (h.1 h1)
    have q2H := Lib.hid q2
    clear q2
    have q2d : decide (sg1 ≤ 0) = false := decide_eq_false q2_
    have cy_0 : w2.cell? ⟨w.heap.size + 1, 0, none⟩ = some (.bool shy) := Bly.at 0 rfl
    have cy_1 : w2.cell? ⟨w.heap.size + 1, 1, none⟩ = some (.slice ahy nhy chy) := Bly.at 1 rfl
    have cy_2 : w2.cell? ⟨w.heap.size + 1, 2, none⟩ = some (.slice Ahy Nhy Chy) := Bly.at 2 rfl
    have Ly : w.heap.size + 1 < w2.heap.size := Bly.lt
    have ck_0 : w2.cell? ⟨w.heap.size + 1 + 1, 0, none⟩ = some (.bool false) := Blk.at 0 rfl
    have ck_1 : w2.cell? ⟨w.heap.size + 1 + 1, 1, none⟩ = some (.slice none 0 0) := Blk.at 1 rfl
    have ck_2 : w2.cell? ⟨w.heap.size + 1 + 1, 2, none⟩ = some (.slice none 0 0) := Blk.at 2 rfl
    have fk := Blk.free
    have Lk : w.heap.size + 1 + 1 < w2.heap.size := Blk.lt
    go_wp2
    clear cy_0 cy_1 cy_2 ck_0 ck_1 ck_2 fk Ly Lk
    refine bodyPost.abs ?_
    intro w3 hW
    have hG : Gr [w.heap.size + 1 + 1] w2 w3 := by rw [hW]; exact (Gr.refl _ _).set.set.set
    have hsz := hs.size
    have lk := Blk.lt
    have hbw : Below w.heap.size w2 w3 := hG.below1 hs.size (by first | omega | assumption)
    have hk : KeepD w2 w3 := hG.keep ⟨⟨_, Blk.ty, by decide⟩, True.intro⟩
    have Bl1k : Bx w3 (w.heap.size + 1 + 1) 45 #[.bool shy, .slice ahy nhy chy, .slice Ahy Nhy Chy] := by rw [hW]; exact Blk.set3
    replace hs := hs.trans hbw
    replace Blx := hG.bx Blx (notMem1 (by omega))
    replace Bly := hG.bx Bly (notMem1 (by omega))
    replace Blk := Bl1k
    clear Bl1k
    replace hx := hx.keep hk
    replace hy := hy.keep hk
    clear hW hG hk hbw hsz lk
    have ck_0 : w3.cell? ⟨w.heap.size + 1 + 1, 0, none⟩ = some (.bool shy) := Blk.at 0 rfl
    have ck_1 : w3.cell? ⟨w.heap.size + 1 + 1, 1, none⟩ = some (.slice ahy nhy chy) := Blk.at 1 rfl
    have ck_2 : w3.cell? ⟨w.heap.size + 1 + 1, 2, none⟩ = some (.slice Ahy Nhy Chy) := Blk.at 2 rfl
    exact bodyPost_ret (v := .agg #[.bool shy, .slice ahy nhy chy, .slice Ahy Nhy Chy]) (by simp [results, Tryz.results154, go_sem, ck_0, ck_1, ck_2]) rfl ⟨_, rfl, (hy.of_eq (by unfold mnQ; rw [if_neg q2H.out])), hs⟩

set_option maxRecDepth 100000 in
set_option maxHeartbeats 4000000 in
theorem r_most (vx : Value) (x : Rat) (vy : Value) (y : Rat) (w : World) (hx : RV w vx x) (sx : Mid x) (hy : RV w vy y) (sy : Mid y) :
    Calls Tryz.prog 155 #[vx, vy] w (RetQ w (mxQ x y)) := by
  obtain ⟨shx, ahx, nhx, chx, Ahx, Nhx, Chx, rfl⟩ := hx.shape
  obtain ⟨shy, ahy, nhy, chy, Ahy, Nhy, Chy, rfl⟩ := hy.shape
  have hs := Below.refl w.heap.size w
  go_enter Tryz.func155, Tryz.ntmps155
  go_wp2_with fail
  refine Calls.abs ?_
  intro w1 hW
  have hG : Gr [] w w1 := by rw [hW]; exact (Gr.refl _ _).alloc.alloc.alloc
  have hbw : Below w.heap.size w w1 := hG.below0 hs.size
  have hk : KeepD w w1 := hG.keep True.intro
  have sz_w1 : w.heap.size ≤ w.heap.size := hs.size
  have Blx : Bx w1 (w.heap.size) 45 #[.bool shx, .slice ahx nhx chx, .slice Ahx Nhx Chx] := by rw [hW]; exact (((Bx.new0 _ _ _).alloc _).alloc _)
  have Bly : Bx w1 (w.heap.size + 1) 45 #[.bool shy, .slice ahy nhy chy, .slice Ahy Nhy Chy] := by rw [hW]; exact ((Bx.new0 _ _ _).alloc _)
  have Blk : Bx w1 (w.heap.size + 1 + 1) 45 #[.bool false, .slice none 0 0, .slice none 0 0] := by rw [hW]; exact (Bx.new0 _ _ _)
  replace hs := hs.trans hbw
  replace hx := hx.keep hk
  replace hy := hy.keep hk
  clear hW hG hk hbw
  have hz_w1 : w.heap.size + 1 + 1 < w1.heap.size := Blk.lt
  refine (rCmp hx hy (SzQ.fit sx) (SzQ.fit sy)).mono ?_
  rintro e w2 ⟨rfl, hb⟩
  replace hs := bStep hs hb
  replace Blx := Blx.mono hb
  replace Bly := Bly.mono hb
  replace Blk := Blk.mono hb
  replace hx := hx.mono hb
  replace hy := hy.mono hb
  clear hb
  obtain ⟨sg1, Hsg1⟩ : ∃ s : Int, s = sgQ (x - y) := ⟨_, rfl⟩
  rw [← Hsg1]
  replace Hsg1 := Lib.hid Hsg1
  by_cases q2 : y ≤ x
  · have q2_ : 0 ≤ sg1 := by have h := sq_ge x y; rw [← Hsg1.out] at h; exact h.2 q2
    have q2H := Lib.hid q2
    clear q2
    have q2d : decide (0 ≤ sg1) = true := decide_eq_true q2_
    have cx_0 : w2.cell? ⟨w.heap.size, 0, none⟩ = some (.bool shx) := Blx.at 0 rfl
    have cx_1 : w2.cell? ⟨w.heap.size, 1, none⟩ = some (.slice ahx nhx chx) := Blx.at 1 rfl
    have cx_2 : w2.cell? ⟨w.heap.size, 2, none⟩ = some (.slice Ahx Nhx Chx) := Blx.at 2 rfl
    have Lx : w.heap.size < w2.heap.size := Blx.lt
    have ck_0 : w2.cell? ⟨w.heap.size + 1 + 1, 0, none⟩ = some (.bool false) := Blk.at 0 rfl
    have ck_1 : w2.cell? ⟨w.heap.size + 1 + 1, 1, none⟩ = some (.slice none 0 0) := Blk.at 1 rfl
    have ck_2 : w2.cell? ⟨w.heap.size + 1 + 1, 2, none⟩ = some (.slice none 0 0) := Blk.at 2 rfl
    have fk := Blk.free
    have Lk : w.heap.size + 1 + 1 < w2.heap.size := Blk.lt
    go_wp2
    clear cx_0 cx_1 cx_2 ck_0 ck_1 ck_2 fk Lx Lk
    refine bodyPost.abs ?_
    intro w3 hW
    have hG : Gr [w.heap.size + 1 + 1] w2 w3 := by rw [hW]; exact (Gr.refl _ _).set.set.set
    have hsz := hs.size
    have lk := Blk.lt
    have hbw : Below w.heap.size w2 w3 := hG.below1 hs.size (by first | omega | assumption)
    have hk : KeepD w2 w3 := hG.keep ⟨⟨_, Blk.ty, by decide⟩, True.intro⟩
    have Bl1k : Bx w3 (w.heap.size + 1 + 1) 45 #[.bool shx, .slice ahx nhx chx, .slice Ahx Nhx Chx] := by rw [hW]; exact Blk.set3
    replace hs := hs.trans hbw
    replace Blx := hG.bx Blx (notMem1 (by omega))
    replace Bly := hG.bx Bly (notMem1 (by omega))
    replace Blk := Bl1k
    clear Bl1k
    replace hx := hx.keep hk
    replace hy := hy.keep hk
    clear hW hG hk hbw hsz lk
    have ck_0 : w3.cell? ⟨w.heap.size + 1 + 1, 0, none⟩ = some (.bool shx) := Blk.at 0 rfl
    have ck_1 : w3.cell? ⟨w.heap.size + 1 + 1, 1, none⟩ = some (.slice ahx nhx chx) := Blk.at 1 rfl
    have ck_2 : w3.cell? ⟨w.heap.size + 1 + 1, 2, none⟩ = some (.slice Ahx Nhx Chx) := Blk.at 2 rfl
    exact bodyPost_ret (v := .agg #[.bool shx, .slice ahx nhx chx, .slice Ahx Nhx Chx]) (by simp [results, Tryz.results155, go_sem, ck_0, ck_1, ck_2]) rfl ⟨_, rfl, (hx.of_eq (by unfold mxQ; rw [if_pos q2H.out])), hs⟩
  · have q2_ : ¬ (0 ≤ sg1) := by have h := sq_ge x y; rw [← Hsg1.out] at h; exact fun h1 => q2 (h.1 h1)
    have q2H := Lib.hid q2
    clear q2
    have q2d : decide (0 ≤ sg1) = false := decide_eq_false q2_
    have cy_0 : w2.cell? ⟨w.heap.size + 1, 0, none⟩ = some (.bool shy) := Bly.at 0 rfl
    have cy_1 : w2.cell? ⟨w.heap.size + 1, 1, none⟩ = some (.slice ahy nhy chy) := Bly.at 1 rfl
    have cy_2 : w2.cell? ⟨w.heap.size + 1, 2, none⟩ = some (.slice Ahy Nhy Chy) := Bly.at 2 rfl
    have Ly : w.heap.size + 1 < w2.heap.size := Bly.lt
    have ck_0 : w2.cell? ⟨w.heap.size + 1 + 1, 0, none⟩ = some (.bool false) := Blk.at 0 rfl
    have ck_1 : w2.cell? ⟨w.heap.size + 1 + 1, 1, none⟩ = some (.slice none 0 0) := Blk.at 1 rfl
    have ck_2 : w2.cell? ⟨w.heap.size + 1 + 1, 2, none⟩ = some (.slice none 0 0) := Blk.at 2 rfl
    have fk := Blk.free
    have Lk : w.heap.size + 1 + 1 < w2.heap.size := Blk.lt
    go_wp2
    clear cy_0 cy_1 cy_2 ck_0 ck_1 ck_2 fk Ly Lk
    refine bodyPost.abs ?_
    intro w3 hW
    have hG : Gr [w.heap.size + 1 + 1] w2 w3 := by rw [hW]; exact (Gr.refl _ _).set.set.set
    have hsz := hs.size
    have lk := Blk.lt
    have hbw : Below w.heap.size w2 w3 := hG.below1 hs.size (by first | omega | assumption)
    have hk : KeepD w2 w3 := hG.keep ⟨⟨_, Blk.ty, by decide⟩, True.intro⟩
    have Bl1k : Bx w3 (w.heap.size + 1 + 1) 45 #[.bool shy, .slice ahy nhy chy, .slice Ahy Nhy Chy] := by rw [hW]; exact Blk.set3
    replace hs := hs.trans hbw
    replace Blx := hG.bx Blx (notMem1 (by omega))
    replace Bly := hG.bx Bly (notMem1 (by omega))
    replace Blk := Bl1k
    clear Bl1k
    replace hx := hx.keep hk
    replace hy := hy.keep hk
    clear hW hG hk hbw hsz lk
    have ck_0 : w3.cell? ⟨w.heap.size + 1 + 1, 0, none⟩ = some (.bool shy) := Blk.at 0 rfl
    have ck_1 : w3.cell? ⟨w.heap.size + 1 + 1, 1, none⟩ = some (.slice ahy nhy chy) := Blk.at 1 rfl
    have ck_2 : w3.cell? ⟨w.heap.size + 1 + 1, 2, none⟩ = some (.slice Ahy Nhy Chy) := Blk.at 2 rfl
    exact bodyPost_ret (v := .agg #[.bool shy, .slice ahy nhy chy, .slice Ahy Nhy Chy]) (by simp [results, Tryz.results155, go_sem, ck_0, ck_1, ck_2]) rfl ⟨_, rfl, (hy.of_eq (by unfold mxQ; rw [if_neg q2H.out])), hs⟩

set_option maxRecDepth 100000 in
set_option maxHeartbeats 4000000 in
theorem r_Hull (vxy : Value) (x y : Rat) (vzu : Value) (z u : Rat) (w : World) (hxy : RV2 w vxy x y) (sx : Mid x) (sy : Mid y) (hzu : RV2 w vzu z u) (sz : Mid z) (su : Mid u) :
    Calls Tryz.prog 103 #[vxy, vzu] w (Ret1 (fun w v => RV2 w v (mnQ x z) (mxQ y u)) w) := by
  obtain ⟨shx, ahx, nhx, chx, Ahx, Nhx, Chx, shy, ahy, nhy, chy, Ahy, Nhy, Chy, rfl, hx, hy⟩ := hxy.shape
  clear hxy
  obtain ⟨shz, ahz, nhz, chz, Ahz, Nhz, Chz, shu, ahu, nhu, chu, Ahu, Nhu, Chu, rfl, hz, hu⟩ := hzu.shape
  clear hzu
  have hs := Below.refl w.heap.size w
  go_enter Tryz.func103, Tryz.ntmps103
  go_upto_region 1 with fail
  refine Code.abs ?_
  intro w1 hW
  have hG : Gr [] w w1 := by rw [hW]; exact (Gr.refl _ _).alloc.alloc.alloc
  have hbw : Below w.heap.size w w1 := hG.below0 hs.size
  have hk : KeepD w w1 := hG.keep True.intro
  have sz_w1 : w.heap.size ≤ w.heap.size := hs.size
  have Blx : Bx w1 (w.heap.size) 88 #[.bool shx, .slice ahx nhx chx, .slice Ahx Nhx Chx, .bool shy, .slice ahy nhy chy, .slice Ahy Nhy Chy] := by rw [hW]; exact (((Bx.new0 _ _ _).alloc _).alloc _)
  have Bly : Bx w1 (w.heap.size + 1) 88 #[.bool shz, .slice ahz nhz chz, .slice Ahz Nhz Chz, .bool shu, .slice ahu nhu chu, .slice Ahu Nhu Chu] := by rw [hW]; exact ((Bx.new0 _ _ _).alloc _)
  have Blk : Bx w1 (w.heap.size + 1 + 1) 88 #[.bool false, .slice none 0 0, .slice none 0 0, .bool false, .slice none 0 0, .slice none 0 0] := by rw [hW]; exact (Bx.new0 _ _ _)
  replace hs := hs.trans hbw
  replace hx := hx.keep hk
  replace hy := hy.keep hk
  replace hz := hz.keep hk
  replace hu := hu.keep hk
  clear hW hG hk hbw
  have hz_w1 : w.heap.size + 1 + 1 < w1.heap.size := Blk.lt
  refine U_region (S := fun w' => w'.cell? ⟨w.heap.size, 0, none⟩ = some (.bool shx) ∧ w'.cell? ⟨w.heap.size, 1, none⟩ = some (.slice ahx nhx chx) ∧ w'.cell? ⟨w.heap.size, 2, none⟩ = some (.slice Ahx Nhx Chx) ∧ w'.cell? ⟨w.heap.size, 3, none⟩ = some (.bool shy) ∧ w'.cell? ⟨w.heap.size, 4, none⟩ = some (.slice ahy nhy chy) ∧ w'.cell? ⟨w.heap.size, 5, none⟩ = some (.slice Ahy Nhy Chy) ∧ w'.cell? ⟨w.heap.size + 1, 0, none⟩ = some (.bool shz) ∧ w'.cell? ⟨w.heap.size + 1, 1, none⟩ = some (.slice ahz nhz chz) ∧ w'.cell? ⟨w.heap.size + 1, 2, none⟩ = some (.slice Ahz Nhz Chz) ∧ w'.cell? ⟨w.heap.size + 1, 3, none⟩ = some (.bool shu) ∧ w'.cell? ⟨w.heap.size + 1, 4, none⟩ = some (.slice ahu nhu chu) ∧ w'.cell? ⟨w.heap.size + 1, 5, none⟩ = some (.slice Ahu Nhu Chu)) (by kernel_rfl) 11 ?_
  refine AnyU.abs ?_
  intro w2 hW
  have hb : Below w1.heap.size w1 w2 := by rw [hW]; exact bDrew _
  replace hs := bStep hs hb
  replace Blx := Blx.mono hb
  replace Bly := Bly.mono hb
  replace Blk := Blk.mono hb
  replace hx := hx.mono hb
  replace hy := hy.mono hb
  replace hz := hz.mono hb
  replace hu := hu.mono hb
  clear hb hW
  have cx_0 : w2.cell? ⟨w.heap.size, 0, none⟩ = some (.bool shx) := Blx.at 0 rfl
  have cx_1 : w2.cell? ⟨w.heap.size, 1, none⟩ = some (.slice ahx nhx chx) := Blx.at 1 rfl
  have cx_2 : w2.cell? ⟨w.heap.size, 2, none⟩ = some (.slice Ahx Nhx Chx) := Blx.at 2 rfl
  have cx_3 : w2.cell? ⟨w.heap.size, 3, none⟩ = some (.bool shy) := Blx.at 3 rfl
  have cx_4 : w2.cell? ⟨w.heap.size, 4, none⟩ = some (.slice ahy nhy chy) := Blx.at 4 rfl
  have cx_5 : w2.cell? ⟨w.heap.size, 5, none⟩ = some (.slice Ahy Nhy Chy) := Blx.at 5 rfl
  have cy_0 : w2.cell? ⟨w.heap.size + 1, 0, none⟩ = some (.bool shz) := Bly.at 0 rfl
  have cy_1 : w2.cell? ⟨w.heap.size + 1, 1, none⟩ = some (.slice ahz nhz chz) := Bly.at 1 rfl
  have cy_2 : w2.cell? ⟨w.heap.size + 1, 2, none⟩ = some (.slice Ahz Nhz Chz) := Bly.at 2 rfl
  have cy_3 : w2.cell? ⟨w.heap.size + 1, 3, none⟩ = some (.bool shu) := Bly.at 3 rfl
  have cy_4 : w2.cell? ⟨w.heap.size + 1, 4, none⟩ = some (.slice ahu nhu chu) := Bly.at 4 rfl
  have cy_5 : w2.cell? ⟨w.heap.size + 1, 5, none⟩ = some (.slice Ahu Nhu Chu) := Bly.at 5 rfl
  have hH := (show w2.cell? ⟨w.heap.size, 0, none⟩ = some (.bool shx) ∧ w2.cell? ⟨w.heap.size, 1, none⟩ = some (.slice ahx nhx chx) ∧ w2.cell? ⟨w.heap.size, 2, none⟩ = some (.slice Ahx Nhx Chx) ∧ w2.cell? ⟨w.heap.size, 3, none⟩ = some (.bool shy) ∧ w2.cell? ⟨w.heap.size, 4, none⟩ = some (.slice ahy nhy chy) ∧ w2.cell? ⟨w.heap.size, 5, none⟩ = some (.slice Ahy Nhy Chy) ∧ w2.cell? ⟨w.heap.size + 1, 0, none⟩ = some (.bool shz) ∧ w2.cell? ⟨w.heap.size + 1, 1, none⟩ = some (.slice ahz nhz chz) ∧ w2.cell? ⟨w.heap.size + 1, 2, none⟩ = some (.slice Ahz Nhz Chz) ∧ w2.cell? ⟨w.heap.size + 1, 3, none⟩ = some (.bool shu) ∧ w2.cell? ⟨w.heap.size + 1, 4, none⟩ = some (.slice ahu nhu chu) ∧ w2.cell? ⟨w.heap.size + 1, 5, none⟩ = some (.slice Ahu Nhu Chu) from ⟨cx_0, cx_1, cx_2, cx_3, cx_4, cx_5, cy_0, cy_1, cy_2, cy_3, cy_4, cy_5⟩)
  refine U_take (i := 0) (v := ?_) rfl (by kernel_rfl) (by kernel_rfl) (by kernel_rfl) (by kernel_rfl) (fun _ _ _ h => h) (Or.inl ⟨by rfl, ?_⟩) hH ?_
  rotate_left
  · intro w hSw
    try dsimp only at hSw
    go_simp
    try with_reducible rfl
  try simp only [Act.put, List.setIfInBounds_toArray, List.set_cons_zero, List.set_cons_succ]
  refine U_take (i := 1) (v := ?_) rfl (by kernel_rfl) (by kernel_rfl) (by kernel_rfl) (by kernel_rfl) (fun _ _ _ h => h) (Or.inl ⟨by rfl, ?_⟩) hH ?_
  rotate_left
  · intro w hSw
    try dsimp only at hSw
    go_simp
    try with_reducible rfl
  try simp only [Act.put, List.setIfInBounds_toArray, List.set_cons_zero, List.set_cons_succ]
  refine U_take (i := 2) (v := ?_) rfl (by kernel_rfl) (by kernel_rfl) (by kernel_rfl) (by kernel_rfl) (fun _ _ _ h => h) (Or.inl ⟨by rfl, ?_⟩) hH ?_
  rotate_left
  · intro w hSw
    try dsimp only at hSw
    go_simp
    try with_reducible rfl
  try simp only [Act.put, List.setIfInBounds_toArray, List.set_cons_zero, List.set_cons_succ]
  refine U_take (i := 3) (v := ?_) rfl (by kernel_rfl) (by kernel_rfl) (by kernel_rfl) (by kernel_rfl) (fun _ _ _ h => h) (Or.inl ⟨by rfl, ?_⟩) hH ?_
  rotate_left
  · intro w hSw
    try dsimp only at hSw
    go_simp
    try with_reducible rfl
  try simp only [Act.put, List.setIfInBounds_toArray, List.set_cons_zero, List.set_cons_succ]
  refine U_take (i := 5) (v := ?_) rfl (by kernel_rfl) (by kernel_rfl) (by kernel_rfl) (by kernel_rfl) (fun _ _ _ h => h) (Or.inl ⟨by rfl, ?_⟩) hH ?_
  rotate_left
  · intro w hSw
    try dsimp only at hSw
    go_simp
    try with_reducible rfl
  try simp only [Act.put, List.setIfInBounds_toArray, List.set_cons_zero, List.set_cons_succ]
  refine U_take (i := 6) (v := ?_) rfl (by kernel_rfl) (by kernel_rfl) (by kernel_rfl) (by kernel_rfl) (fun _ _ _ h => h) (Or.inl ⟨by rfl, ?_⟩) hH ?_
  rotate_left
  · intro w hSw
    try dsimp only at hSw
    go_simp
    try with_reducible rfl
  try simp only [Act.put, List.setIfInBounds_toArray, List.set_cons_zero, List.set_cons_succ]
  refine U_take (i := 7) (v := ?_) rfl (by kernel_rfl) (by kernel_rfl) (by kernel_rfl) (by kernel_rfl) (fun _ _ _ h => h) (Or.inl ⟨by rfl, ?_⟩) hH ?_
  rotate_left
  · intro w hSw
    try dsimp only at hSw
    go_simp
    try with_reducible rfl
  try simp only [Act.put, List.setIfInBounds_toArray, List.set_cons_zero, List.set_cons_succ]
  refine U_take (i := 8) (v := ?_) rfl (by kernel_rfl) (by kernel_rfl) (by kernel_rfl) (by kernel_rfl) (fun _ _ _ h => h) (Or.inl ⟨by rfl, ?_⟩) hH ?_
  rotate_left
  · intro w hSw
    try dsimp only at hSw
    go_simp
    try with_reducible rfl
  try simp only [Act.put, List.setIfInBounds_toArray, List.set_cons_zero, List.set_cons_succ]
  clear hH
  refine U_one (i := 4) (by kernel_rfl) rfl (fun K hK => ?_)
  go_simp
  (with_reducible refine (r_least _ _ _ _ _ hx (SzQ.mid sx) hz (SzQ.mid sz)).mono ?_)
  rintro e w3 ⟨_, rfl, h1, hb⟩
  obtain ⟨sh1, ah1, nh1, ch1, Ah1, Nh1, Ch1, rfl⟩ := h1.shape
  replace hs := bStep hs hb
  replace Blx := Blx.mono hb
  replace Bly := Bly.mono hb
  replace Blk := Blk.mono hb
  replace hx := hx.mono hb
  replace hy := hy.mono hb
  replace hz := hz.mono hb
  replace hu := hu.mono hb
  replace cx_0 := cellK cx_0 hb
  replace cx_1 := cellK cx_1 hb
  replace cx_2 := cellK cx_2 hb
  replace cx_3 := cellK cx_3 hb
  replace cx_4 := cellK cx_4 hb
  replace cx_5 := cellK cx_5 hb
  replace cy_0 := cellK cy_0 hb
  replace cy_1 := cellK cy_1 hb
  replace cy_2 := cellK cy_2 hb
  replace cy_3 := cellK cy_3 hb
  replace cy_4 := cellK cy_4 hb
  replace cy_5 := cellK cy_5 hb
  clear hb
  try go_wp2_with fail
  refine hK.out _ _ ⟨cx_0, cx_1, cx_2, cx_3, cx_4, cx_5, cy_0, cy_1, cy_2, cy_3, cy_4, cy_5⟩ (fun hH => ?_)
  clear hK K
  try simp only [Act.put, List.setIfInBounds_toArray, List.set_cons_zero, List.set_cons_succ]
  clear hH
  refine U_one (i := 9) (by kernel_rfl) rfl (fun K hK => ?_)
  go_simp
  (with_reducible refine (r_most _ _ _ _ _ hy (SzQ.mid sy) hu (SzQ.mid su)).mono ?_)
  rintro e w4 ⟨_, rfl, h2, hb⟩
  obtain ⟨sh2, ah2, nh2, ch2, Ah2, Nh2, Ch2, rfl⟩ := h2.shape
  replace hs := bStep hs hb
  replace Blx := Blx.mono hb
  replace Bly := Bly.mono hb
  replace Blk := Blk.mono hb
  replace hx := hx.mono hb
  replace hy := hy.mono hb
  replace hz := hz.mono hb
  replace hu := hu.mono hb
  replace h1 := h1.mono hb
  replace cx_0 := cellK cx_0 hb
  replace cx_1 := cellK cx_1 hb
  replace cx_2 := cellK cx_2 hb
  replace cx_3 := cellK cx_3 hb
  replace cx_4 := cellK cx_4 hb
  replace cx_5 := cellK cx_5 hb
  replace cy_0 := cellK cy_0 hb
  replace cy_1 := cellK cy_1 hb
  replace cy_2 := cellK cy_2 hb
  replace cy_3 := cellK cy_3 hb
  replace cy_4 := cellK cy_4 hb
  replace cy_5 := cellK cy_5 hb
  clear hb
  try go_wp2_with fail
  refine hK.out _ _ ⟨cx_0, cx_1, cx_2, cx_3, cx_4, cx_5, cy_0, cy_1, cy_2, cy_3, cy_4, cy_5⟩ (fun hH => ?_)
  clear hK K
  try simp only [Act.put, List.setIfInBounds_toArray, List.set_cons_zero, List.set_cons_succ]
  refine U_take (i := 10) (v := ?_) rfl (by kernel_rfl) (by kernel_rfl) (by kernel_rfl) (by kernel_rfl) (fun _ _ _ h => h) (Or.inl ⟨by rfl, ?_⟩) hH ?_
  rotate_left
  · intro w hSw
    try dsimp only at hSw
    go_simp
    try with_reducible rfl
  try simp only [Act.put, List.setIfInBounds_toArray, List.set_cons_zero, List.set_cons_succ]
  clear hH
  have ck_0 : w4.cell? ⟨w.heap.size + 1 + 1, 0, none⟩ = some (.bool false) := Blk.at 0 rfl
  have ck_1 : w4.cell? ⟨w.heap.size + 1 + 1, 1, none⟩ = some (.slice none 0 0) := Blk.at 1 rfl
  have ck_2 : w4.cell? ⟨w.heap.size + 1 + 1, 2, none⟩ = some (.slice none 0 0) := Blk.at 2 rfl
  have ck_3 : w4.cell? ⟨w.heap.size + 1 + 1, 3, none⟩ = some (.bool false) := Blk.at 3 rfl
  have ck_4 : w4.cell? ⟨w.heap.size + 1 + 1, 4, none⟩ = some (.slice none 0 0) := Blk.at 4 rfl
  have ck_5 : w4.cell? ⟨w.heap.size + 1 + 1, 5, none⟩ = some (.slice none 0 0) := Blk.at 5 rfl
  have fk := Blk.free
  have Lk : w.heap.size + 1 + 1 < w4.heap.size := Blk.lt
  refine U_last (by kernel_rfl) rfl (by kernel_rfl) (fun K hK => ?_)
  go_simp
  refine hK.out _ _ ?_
  clear hK K
  intro w5 hW
  have hG : Gr [w.heap.size + 1 + 1] w4 w5 := by rw [hW]; exact (Gr.refl _ _).set.set.set.set.set.set
  have hsz := hs.size
  have lk := Blk.lt
  have hbw : Below w.heap.size w4 w5 := hG.below1 hs.size (by first | omega | assumption)
  have hk : KeepD w4 w5 := hG.keep ⟨⟨_, Blk.ty, by decide⟩, True.intro⟩
  have Bl1k : Bx w5 (w.heap.size + 1 + 1) 88 #[.bool sh1, .slice ah1 nh1 ch1, .slice Ah1 Nh1 Ch1, .bool sh2, .slice ah2 nh2 ch2, .slice Ah2 Nh2 Ch2] := by rw [hW]; exact Blk.set6
  replace hs := hs.trans hbw
  replace Blx := hG.bx Blx (notMem1 (by omega))
  replace Bly := hG.bx Bly (notMem1 (by omega))
  replace Blk := Bl1k
  clear Bl1k
  replace hx := hx.keep hk
  replace hy := hy.keep hk
  replace hz := hz.keep hk
  replace hu := hu.keep hk
  replace h1 := h1.keep hk
  replace h2 := h2.keep hk
  clear hW hG hk hbw hsz lk
  try simp only [Act.put, List.setIfInBounds_toArray, List.set_cons_zero, List.set_cons_succ]
  clear cx_0 cx_1 cx_2 cx_3 cx_4 cx_5 cy_0 cy_1 cy_2 cy_3 cy_4 cy_5
  go_wp2
  have ck_0 : w5.cell? ⟨w.heap.size + 1 + 1, 0, none⟩ = some (.bool sh1) := Blk.at 0 rfl
  have ck_1 : w5.cell? ⟨w.heap.size + 1 + 1, 1, none⟩ = some (.slice ah1 nh1 ch1) := Blk.at 1 rfl
  have ck_2 : w5.cell? ⟨w.heap.size + 1 + 1, 2, none⟩ = some (.slice Ah1 Nh1 Ch1) := Blk.at 2 rfl
  have ck_3 : w5.cell? ⟨w.heap.size + 1 + 1, 3, none⟩ = some (.bool sh2) := Blk.at 3 rfl
  have ck_4 : w5.cell? ⟨w.heap.size + 1 + 1, 4, none⟩ = some (.slice ah2 nh2 ch2) := Blk.at 4 rfl
  have ck_5 : w5.cell? ⟨w.heap.size + 1 + 1, 5, none⟩ = some (.slice Ah2 Nh2 Ch2) := Blk.at 5 rfl
  exact bodyPost_ret (v := .agg #[.bool sh1, .slice ah1 nh1 ch1, .slice Ah1 Nh1 Ch1, .bool sh2, .slice ah2 nh2 ch2, .slice Ah2 Nh2 Ch2]) (by simp [results, Tryz.results103, go_sem, ck_0, ck_1, ck_2, ck_3, ck_4, ck_5]) rfl ⟨_, rfl, (RV2.mk h1 h2), hs⟩

end Go.Proofs.YtlfnapfnpkhggaaGreat
