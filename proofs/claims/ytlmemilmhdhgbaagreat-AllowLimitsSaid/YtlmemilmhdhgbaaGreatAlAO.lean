/-
  allow: whole, less, isChance, tail.
-/
import Derived.Test.YtlmemilmhdhgbaaGreatPkTailO
import Derived.Test.YtlmemilmhdhgbaaGreatPkVecO
import Derived.Test.YtlmemilmhdhgbaaGreatPkHeld3O
set_option linter.unusedSimpArgs false
set_option linter.unusedVariables false
set_option maxRecDepth 100000
set_option maxHeartbeats 16000000
namespace Go.Proofs.YtlmemilmhdhgbaaGreat
open Go.RowKit Dg
attribute [local go_sem ↓] Go.wp_at_zero Go.wp_at_succ
theorem al_whole (n : Int) (w : World) (ln : 0 ≤ n) (un : n ≤ 4294967295) :
  Calls Tryz.prog 35 #[.int .i64 n] w (RetP w ((n : Int))) := by
 have hs := Below.refl w.heap.size w
 go_enter Tryz.func35, Tryz.ntmps35
 go_wp2_with fail
 refine Calls.abs ?_
 intro w1 hW
 have hG : Gr [] w w1 := by rw [hW]; exact (Gr.refl _ _).alloc
 have hbw : Below w.heap.size w w1 := hG.below0 hs.size
 have hk : KeepD w w1 := hG.keep True.intro
 have sz_w1 : w.heap.size ≤ w.heap.size := hs.size
 have Blk : Bx w1 (w.heap.size) 34 #[.bool false, .slice none 0 0, .slice none 0 0] := by rw [hW]; exact (Bx.new0 _ _ _)
 replace hs := hs.trans hbw
 clear hW hG hk hbw
 have hz_w1 : w.heap.size < w1.heap.size := Blk.lt
 with_reducible refine (p_Int_calls n _ (by omega) (by omega)).mono ?_
 rintro e w2 ⟨_, rfl, h1, hb⟩
 obtain ⟨sh1, ah1, nh1, ch1, Ah1, Nh1, Ch1, rfl⟩ := h1.shape
 replace hs := bStep hs hb
 replace Blk := Blk.mono hb
 clear hb
 have B9 : w2.cell? ⟨w.heap.size, 0, none⟩ = some (.bool false) := Blk.at 0 rfl
 have Ba : w2.cell? ⟨w.heap.size, 1, none⟩ = some (.slice none 0 0) := Blk.at 1 rfl
 have Bb : w2.cell? ⟨w.heap.size, 2, none⟩ = some (.slice none 0 0) := Blk.at 2 rfl
 have fk := Blk.free
 have Lk : w.heap.size < w2.heap.size := Blk.lt
 go_wp2
 clear B9 Ba Bb fk Lk
 refine bodyPost.abs ?_
 intro w3 hW
 have hG : Gr [w.heap.size] w2 w3 := by rw [hW]; exact (Gr.refl _ _).set.set.set
 have hsz := hs.size
 have lk := Blk.lt
 have hbw : Below w.heap.size w2 w3 := hG.below1 hs.size (by first | omega | assumption)
 have hk : KeepD w2 w3 := hG.keep ⟨⟨_, Blk.ty, by decide⟩, True.intro⟩
 have Bl1k : Bx w3 (w.heap.size) 34 #[.bool sh1, .slice ah1 nh1 ch1, .slice Ah1 Nh1 Ch1] := by rw [hW]; exact Blk.set3
 replace hs := hs.trans hbw
 replace Blk := Bl1k
 clear Bl1k
 replace h1 := h1.keep hk
 clear hW hG hk hbw hsz lk
 have B9 : w3.cell? ⟨w.heap.size, 0, none⟩ = some (.bool sh1) := Blk.at 0 rfl
 have Ba : w3.cell? ⟨w.heap.size, 1, none⟩ = some (.slice ah1 nh1 ch1) := Blk.at 1 rfl
 have Bb : w3.cell? ⟨w.heap.size, 2, none⟩ = some (.slice Ah1 Nh1 Ch1) := Blk.at 2 rfl
 exact bodyPost_ret (v := .agg #[.bool sh1, .slice ah1 nh1 ch1, .slice Ah1 Nh1 Ch1]) (by simp [results, Tryz.results35, go_sem, B9, Ba, Bb]) rfl ⟨_, rfl, h1, hs⟩
theorem al_one (w : World) : Calls Tryz.prog 35 #[.int .i64 1] w (RetP w 1) := al_whole 1 w (by decide) (by decide)
theorem al_less (vx : Value) (x : Rat) (w : World) (hx : PV w vx x) (sx : Mid x) :
  Calls Tryz.prog 60 #[vx] w (RetP w (1 - x)) := by
 obtain ⟨shx, ahx, nhx, chx, Ahx, Nhx, Chx, rfl⟩ := hx.shape
 have hs := Below.refl w.heap.size w
 go_enter Tryz.func60, Tryz.ntmps60
 go_upto_region 1 with fail
 refine Code.abs ?_
 intro w1 hW
 have hG : Gr [] w w1 := by rw [hW]; exact (Gr.refl _ _).alloc.alloc
 have hbw : Below w.heap.size w w1 := hG.below0 hs.size
 have hk : KeepD w w1 := hG.keep True.intro
 have sz_w1 : w.heap.size ≤ w.heap.size := hs.size
 have Blx : Bx w1 (w.heap.size) 34 #[.bool shx, .slice ahx nhx chx, .slice Ahx Nhx Chx] := by rw [hW]; exact ((Bx.new0 _ _ _).alloc _)
 have Blk : Bx w1 (w.heap.size + 1) 34 #[.bool false, .slice none 0 0, .slice none 0 0] := by rw [hW]; exact (Bx.new0 _ _ _)
 replace hs := hs.trans hbw
 replace hx := hx.keep hk
 clear hW hG hk hbw
 have hz_w1 : w.heap.size + 1 < w1.heap.size := Blk.lt
 refine U_region (S := fun w' => w'.cell? ⟨w.heap.size, 0, none⟩ = some (.bool shx) ∧ w'.cell? ⟨w.heap.size, 1, none⟩ = some (.slice ahx nhx chx) ∧ w'.cell? ⟨w.heap.size, 2, none⟩ = some (.slice Ahx Nhx Chx)) (by kernel_rfl) 3 ?_
 refine AnyU.abs ?_
 intro w2 hW
 have hb : Below w1.heap.size w1 w2 := by rw [hW]; exact bDrew _
 replace hs := bStep hs hb
 replace Blx := Blx.mono hb
 replace Blk := Blk.mono hb
 replace hx := hx.mono hb
 clear hb hW
 have B1 : w2.cell? ⟨w.heap.size, 0, none⟩ = some (.bool shx) := Blx.at 0 rfl
 have B2 : w2.cell? ⟨w.heap.size, 1, none⟩ = some (.slice ahx nhx chx) := Blx.at 1 rfl
 have B3 : w2.cell? ⟨w.heap.size, 2, none⟩ = some (.slice Ahx Nhx Chx) := Blx.at 2 rfl
 have hH := (show w2.cell? ⟨w.heap.size, 0, none⟩ = some (.bool shx) ∧ w2.cell? ⟨w.heap.size, 1, none⟩ = some (.slice ahx nhx chx) ∧ w2.cell? ⟨w.heap.size, 2, none⟩ = some (.slice Ahx Nhx Chx) from ⟨B1, B2, B3⟩)
 refine U_take (i := 1) (v := ?_) rfl (by kernel_rfl) (by kernel_rfl) (by kernel_rfl) (by kernel_rfl) (fun _ _ _ h => h) (Or.inl ⟨by rfl, ?_⟩) hH ?_
 rotate_left
 ·intro w hSw
  try dsimp only at hSw
  go_simp
  try with_reducible rfl
 try simp only [Act.put, List.setIfInBounds_toArray, List.set_cons_zero, List.set_cons_succ]
 clear hH
 refine U_one (i := 0) (by kernel_rfl) rfl (fun K hK => ?_)
 go_simp
 (with_reducible refine (al_one _).mono ?_)
 rintro e w3 ⟨_, rfl, h1, hb⟩
 obtain ⟨sh1, ah1, nh1, ch1, Ah1, Nh1, Ch1, rfl⟩ := h1.shape
 replace hs := bStep hs hb
 replace Blx := Blx.mono hb
 replace Blk := Blk.mono hb
 replace hx := hx.mono hb
 replace B1 := cellK B1 hb
 replace B2 := cellK B2 hb
 replace B3 := cellK B3 hb
 clear hb
 try go_wp2_with fail
 refine hK.out _ _ ⟨B1, B2, B3⟩ (fun hH => ?_)
 clear hK K
 try simp only [Act.put, List.setIfInBounds_toArray, List.set_cons_zero, List.set_cons_succ]
 clear hH
 refine U_one (i := 2) (by kernel_rfl) rfl (fun K hK => ?_)
 go_simp
 (with_reducible refine (pSub h1 hx (SzQ.fit szQ_one) (SzQ.fit sx)).mono ?_)
 rintro e w4 ⟨_, rfl, h2, hb⟩
 obtain ⟨sh2, ah2, nh2, ch2, Ah2, Nh2, Ch2, rfl⟩ := h2.shape
 replace hs := bStep hs hb
 replace Blx := Blx.mono hb
 replace Blk := Blk.mono hb
 replace hx := hx.mono hb
 replace h1 := h1.mono hb
 replace B1 := cellK B1 hb
 replace B2 := cellK B2 hb
 replace B3 := cellK B3 hb
 clear hb
 try go_wp2_with fail
 refine hK.out _ _ ⟨B1, B2, B3⟩ (fun hH => ?_)
 clear hK K
 try simp only [Act.put, List.setIfInBounds_toArray, List.set_cons_zero, List.set_cons_succ]
 clear hH
 have B9 : w4.cell? ⟨w.heap.size + 1, 0, none⟩ = some (.bool false) := Blk.at 0 rfl
 have Ba : w4.cell? ⟨w.heap.size + 1, 1, none⟩ = some (.slice none 0 0) := Blk.at 1 rfl
 have Bb : w4.cell? ⟨w.heap.size + 1, 2, none⟩ = some (.slice none 0 0) := Blk.at 2 rfl
 have fk := Blk.free
 have Lk : w.heap.size + 1 < w4.heap.size := Blk.lt
 refine U_last (by kernel_rfl) rfl (by kernel_rfl) (fun K hK => ?_)
 go_simp
 refine hK.out _ _ ?_
 clear hK K
 intro w5 hW
 have hG : Gr [w.heap.size + 1] w4 w5 := by rw [hW]; exact (Gr.refl _ _).set.set.set
 have hsz := hs.size
 have lk := Blk.lt
 have hbw : Below w.heap.size w4 w5 := hG.below1 hs.size (by first | omega | assumption)
 have hk : KeepD w4 w5 := hG.keep ⟨⟨_, Blk.ty, by decide⟩, True.intro⟩
 have Bl1k : Bx w5 (w.heap.size + 1) 34 #[.bool sh2, .slice ah2 nh2 ch2, .slice Ah2 Nh2 Ch2] := by rw [hW]; exact Blk.set3
 replace hs := hs.trans hbw
 replace Blx := hG.bx Blx (notMem1 (by omega))
 replace Blk := Bl1k
 clear Bl1k
 replace hx := hx.keep hk
 replace h1 := h1.keep hk
 replace h2 := h2.keep hk
 clear hW hG hk hbw hsz lk
 try simp only [Act.put, List.setIfInBounds_toArray, List.set_cons_zero, List.set_cons_succ]
 clear B1 B2 B3
 go_wp2
 have B9 : w5.cell? ⟨w.heap.size + 1, 0, none⟩ = some (.bool sh2) := Blk.at 0 rfl
 have Ba : w5.cell? ⟨w.heap.size + 1, 1, none⟩ = some (.slice ah2 nh2 ch2) := Blk.at 1 rfl
 have Bb : w5.cell? ⟨w.heap.size + 1, 2, none⟩ = some (.slice Ah2 Nh2 Ch2) := Blk.at 2 rfl
 exact bodyPost_ret (v := .agg #[.bool sh2, .slice ah2 nh2 ch2, .slice Ah2 Nh2 Ch2]) (by simp [results, Tryz.results60, go_sem, B9, Ba, Bb]) rfl ⟨_, rfl, h2, hs⟩
theorem al_isChance (vx : Value) (x : Rat) (w : World) (hx : PV w vx x) (sx : Mid x) {rB : Bool} (hRB : rB = decide (0 ≤ x ∧ x ≤ 1)) :
  Calls Tryz.prog 33 #[vx] w (RetV w (.bool rB)) := by
 obtain ⟨shx, ahx, nhx, chx, Ahx, Nhx, Chx, rfl⟩ := hx.shape
 have hs := Below.refl w.heap.size w
 have HRB := Lib.hid hRB
 clear hRB
 go_enter Tryz.func33, Tryz.ntmps33
 go_upto_region 1 with fail
 refine Code.abs ?_
 intro w1 hW
 have hG : Gr [] w w1 := by rw [hW]; exact (Gr.refl _ _).alloc
 have hbw : Below w.heap.size w w1 := hG.below0 hs.size
 have hk : KeepD w w1 := hG.keep True.intro
 have sz_w1 : w.heap.size ≤ w.heap.size := hs.size
 have Blx : Bx w1 (w.heap.size) 34 #[.bool shx, .slice ahx nhx chx, .slice Ahx Nhx Chx] := by rw [hW]; exact (Bx.new0 _ _ _)
 replace hs := hs.trans hbw
 replace hx := hx.keep hk
 clear hW hG hk hbw
 have hz_w1 : w.heap.size < w1.heap.size := Blx.lt
 obtain ⟨sg1, Hsg1⟩ : ∃ s : Int, s = sgQ x := ⟨_, rfl⟩
 replace Hsg1 := Lib.hid Hsg1
 by_cases q2 : 0 ≤ x
 ·have q2_ : 0 ≤ sg1 := by have h := s1_ge x; rw [← Hsg1.out] at h; exact h.2 q2
  have q2H := Lib.hid q2
  clear q2
  have q2d : decide (0 ≤ sg1) = true := decide_eq_true q2_
  obtain ⟨sg4, Hsg4⟩ : ∃ s : Int, s = sgQ (x - 1) := ⟨_, rfl⟩
  replace Hsg4 := Lib.hid Hsg4
  refine U_region (S := fun w' => w'.cell? ⟨w.heap.size, 0, none⟩ = some (.bool shx) ∧ w'.cell? ⟨w.heap.size, 1, none⟩ = some (.slice ahx nhx chx) ∧ w'.cell? ⟨w.heap.size, 2, none⟩ = some (.slice Ahx Nhx Chx)) (by kernel_rfl) 10 ?_
  refine AnyU.abs ?_
  intro w2 hW
  have hb : Below w1.heap.size w1 w2 := by rw [hW]; exact bDrew _
  replace hs := bStep hs hb
  replace Blx := Blx.mono hb
  replace hx := hx.mono hb
  clear hb hW
  have B1 : w2.cell? ⟨w.heap.size, 0, none⟩ = some (.bool shx) := Blx.at 0 rfl
  have B2 : w2.cell? ⟨w.heap.size, 1, none⟩ = some (.slice ahx nhx chx) := Blx.at 1 rfl
  have B3 : w2.cell? ⟨w.heap.size, 2, none⟩ = some (.slice Ahx Nhx Chx) := Blx.at 2 rfl
  have hH := (show w2.cell? ⟨w.heap.size, 0, none⟩ = some (.bool shx) ∧ w2.cell? ⟨w.heap.size, 1, none⟩ = some (.slice ahx nhx chx) ∧ w2.cell? ⟨w.heap.size, 2, none⟩ = some (.slice Ahx Nhx Chx) from ⟨B1, B2, B3⟩)
  refine U_takeN (i := 0) (d := 3) (v := ?_) rfl rfl rfl (by kernel_rfl) (by kernel_rfl) (by kernel_rfl) (fun _ _ _ h => h) (Or.inl ⟨by rfl, ?_⟩) hH ?_
  rotate_left
  ·intro w hSw
   try dsimp only at hSw
   go_simp
   try with_reducible rfl
  simp only [LY]
  clear hH
  refine U_one (i := 1) (by kernel_rfl) rfl (fun K hK => ?_)
  go_simp
  (with_reducible refine (pSign hx).mono ?_)
  rintro e w3 ⟨rfl, hb⟩
  replace hs := bStep hs hb
  replace Blx := Blx.mono hb
  replace hx := hx.mono hb
  replace B1 := cellK B1 hb
  replace B2 := cellK B2 hb
  replace B3 := cellK B3 hb
  clear hb
  rw [← Hsg1.out]
  try go_wp2_with fail
  refine hK.out _ _ ⟨B1, B2, B3⟩ (fun hH => ?_)
  clear hK K
  try simp only [LY]
  refine U_takeN (i := 2) (d := 5) (v := ?_) rfl rfl rfl (by kernel_rfl) (by kernel_rfl) (by kernel_rfl) (fun _ _ _ h => h) (Or.inl ⟨by rfl, ?_⟩) hH ?_
  rotate_left
  ·intro w hSw
   try dsimp only at hSw
   go_simp
   try with_reducible rfl
  simp only [LY]
  refine U_takeN (i := 3) (d := 6) (v := ?_) rfl rfl rfl (by kernel_rfl) (by kernel_rfl) (by kernel_rfl) (fun _ _ _ h => h) (Or.inl ⟨by rfl, ?_⟩) hH ?_
  rotate_left
  ·intro w hSw
   try dsimp only at hSw
   go_simp
   try with_reducible rfl
  simp only [LY]
  refine U_takeN (i := 4) (d := 7) (v := ?_) rfl rfl rfl (by kernel_rfl) (by kernel_rfl) (by kernel_rfl) (fun _ _ _ h => h) (Or.inl ⟨by rfl, ?_⟩) hH ?_
  rotate_left
  ·intro w hSw
   try dsimp only at hSw
   go_simp
   try with_reducible rfl
  simp only [LY]
  clear hH
  refine U_one (i := 5) (by kernel_rfl) rfl (fun K hK => ?_)
  go_simp
  (with_reducible refine (al_one _).mono ?_)
  rintro e w4 ⟨_, rfl, h3, hb⟩
  obtain ⟨sh3, ah3, nh3, ch3, Ah3, Nh3, Ch3, rfl⟩ := h3.shape
  replace hs := bStep hs hb
  replace Blx := Blx.mono hb
  replace hx := hx.mono hb
  replace B1 := cellK B1 hb
  replace B2 := cellK B2 hb
  replace B3 := cellK B3 hb
  clear hb
  try go_wp2_with fail
  refine hK.out _ _ ⟨B1, B2, B3⟩ (fun hH => ?_)
  clear hK K
  try simp only [LY]
  clear hH
  refine U_one (i := 6) (by kernel_rfl) rfl (fun K hK => ?_)
  go_simp
  (with_reducible refine (pCmp hx h3 (SzQ.fit sx) (SzQ.fit szQ_one)).mono ?_)
  rintro e w5 ⟨rfl, hb⟩
  replace hs := bStep hs hb
  replace Blx := Blx.mono hb
  replace hx := hx.mono hb
  replace h3 := h3.mono hb
  replace B1 := cellK B1 hb
  replace B2 := cellK B2 hb
  replace B3 := cellK B3 hb
  clear hb
  rw [← Hsg4.out]
  try go_wp2_with fail
  refine hK.out _ _ ⟨B1, B2, B3⟩ (fun hH => ?_)
  clear hK K
  try simp only [LY]
  refine U_takeN (i := 7) (d := 10) (v := ?_) rfl rfl rfl (by kernel_rfl) (by kernel_rfl) (by kernel_rfl) (fun _ _ _ h => h) (Or.inl ⟨by rfl, ?_⟩) hH ?_
  rotate_left
  ·intro w hSw
   try dsimp only at hSw
   go_simp
   try with_reducible rfl
  simp only [LY]
  refine U_takeN (i := 8) (d := 11) (v := ?_) rfl rfl rfl (by kernel_rfl) (by kernel_rfl) (by kernel_rfl) (fun _ _ _ h => h) (Or.inl ⟨by rfl, ?_⟩) hH ?_
  rotate_left
  ·intro w hSw
   try dsimp only at hSw
   go_simp
   try with_reducible rfl
  simp only [LY]
  refine U_takeN (i := 9) (d := 2) (v := ?_) rfl rfl rfl (by kernel_rfl) (by kernel_rfl) (by kernel_rfl) (fun _ _ _ h => h) (Or.inl ⟨by rfl, ?_⟩) hH ?_
  rotate_left
  ·intro w hSw
   try dsimp only at hSw
   go_simp
   try with_reducible rfl
  simp only [LY]
  clear hH
  refine U_endN (by kernel_rfl) ?_
  clear B1 B2 B3
  by_cases q5 : x ≤ 1
  ·have q5_ : sg4 ≤ 0 := by have h := sq_le x 1; rw [← Hsg4.out] at h; exact h.2 q5
   have q5H := Lib.hid q5
   clear q5
   have q5d : decide (sg4 ≤ 0) = true := decide_eq_true q5_
   try simp only [q5d]
   go_wp2
   go_ret
   exact ⟨(by rw [HRB.out, decide_eq_true (show 0 ≤ x ∧ x ≤ 1 from by have p0 : 0 ≤ x := q2H.out; have p1 : x ≤ 1 := q5H.out; first | assumption | exact ⟨by assumption, by assumption⟩ | exact ⟨⟨by assumption, by assumption⟩, ⟨by assumption, by assumption⟩⟩)]; rfl), hs⟩
  ·have q5_ : ¬ (sg4 ≤ 0) := by have h := sq_le x 1; rw [← Hsg4.out] at h; exact fun h1 => q5 (h.1 h1)
   have q5H := Lib.hid q5
   clear q5
   have q5d : decide (sg4 ≤ 0) = false := decide_eq_false q5_
   try simp only [q5d]
   go_wp2
   go_ret
   exact ⟨(by rw [HRB.out, decide_eq_false (show ¬ (0 ≤ x ∧ x ≤ 1) from by have p0 : 0 ≤ x := q2H.out; have p1 : ¬ (x ≤ 1) := q5H.out; first | assumption | exact fun h => absurd h.1 (by assumption) | exact fun h => absurd h.2 (by assumption))]; rfl), hs⟩
 ·have q2_ : ¬ (0 ≤ sg1) := by have h := s1_ge x; rw [← Hsg1.out] at h; exact fun h1 => q2 (h.1 h1)
  have q2H := Lib.hid q2
  clear q2
  have q2d : decide (0 ≤ sg1) = false := decide_eq_false q2_
  refine U_region (S := fun w' => w'.cell? ⟨w.heap.size, 0, none⟩ = some (.bool shx) ∧ w'.cell? ⟨w.heap.size, 1, none⟩ = some (.slice ahx nhx chx) ∧ w'.cell? ⟨w.heap.size, 2, none⟩ = some (.slice Ahx Nhx Chx)) (by kernel_rfl) 10 ?_
  refine AnyU.abs ?_
  intro w2 hW
  have hb : Below w1.heap.size w1 w2 := by rw [hW]; exact bDrew _
  replace hs := bStep hs hb
  replace Blx := Blx.mono hb
  replace hx := hx.mono hb
  clear hb hW
  have B1 : w2.cell? ⟨w.heap.size, 0, none⟩ = some (.bool shx) := Blx.at 0 rfl
  have B2 : w2.cell? ⟨w.heap.size, 1, none⟩ = some (.slice ahx nhx chx) := Blx.at 1 rfl
  have B3 : w2.cell? ⟨w.heap.size, 2, none⟩ = some (.slice Ahx Nhx Chx) := Blx.at 2 rfl
  have hH := (show w2.cell? ⟨w.heap.size, 0, none⟩ = some (.bool shx) ∧ w2.cell? ⟨w.heap.size, 1, none⟩ = some (.slice ahx nhx chx) ∧ w2.cell? ⟨w.heap.size, 2, none⟩ = some (.slice Ahx Nhx Chx) from ⟨B1, B2, B3⟩)
  refine U_takeN (i := 0) (d := 3) (v := ?_) rfl rfl rfl (by kernel_rfl) (by kernel_rfl) (by kernel_rfl) (fun _ _ _ h => h) (Or.inl ⟨by rfl, ?_⟩) hH ?_
  rotate_left
  ·intro w hSw
   try dsimp only at hSw
   go_simp
   try with_reducible rfl
  simp only [LY]
  clear hH
  refine U_one (i := 1) (by kernel_rfl) rfl (fun K hK => ?_)
  go_simp
  (with_reducible refine (pSign hx).mono ?_)
  rintro e w3 ⟨rfl, hb⟩
  replace hs := bStep hs hb
  replace Blx := Blx.mono hb
  replace hx := hx.mono hb
  replace B1 := cellK B1 hb
  replace B2 := cellK B2 hb
  replace B3 := cellK B3 hb
  clear hb
  rw [← Hsg1.out]
  try go_wp2_with fail
  refine hK.out _ _ ⟨B1, B2, B3⟩ (fun hH => ?_)
  clear hK K
  try simp only [LY]
  refine U_takeN (i := 2) (d := 5) (v := ?_) rfl rfl rfl (by kernel_rfl) (by kernel_rfl) (by kernel_rfl) (fun _ _ _ h => h) (Or.inl ⟨by rfl, ?_⟩) hH ?_
  rotate_left
  ·intro w hSw
   try dsimp only at hSw
   go_simp
   try with_reducible rfl
  simp only [LY]
  refine U_takeN (i := 3) (d := 6) (v := ?_) rfl rfl rfl (by kernel_rfl) (by kernel_rfl) (by kernel_rfl) (fun _ _ _ h => h) (Or.inl ⟨by rfl, ?_⟩) hH ?_
  rotate_left
  ·intro w hSw
   try dsimp only at hSw
   go_simp
   try with_reducible rfl
  simp only [LY]
  refine U_takeN (i := 4) (d := 7) (v := undef) rfl rfl rfl (by kernel_rfl) (by kernel_rfl) (by kernel_rfl) (fun _ _ _ h => h) (Or.inr ⟨by rfl, rfl⟩) hH ?_
  simp only [LY]
  clear hH
  refine U_one (i := 5) (by kernel_rfl) rfl (fun K hK => ?_)
  go_simp
  refine hK.out _ _ ⟨B1, B2, B3⟩ (fun hH => ?_)
  clear hK K
  try simp only [LY]
  clear hH
  refine U_one (i := 6) (by kernel_rfl) rfl (fun K hK => ?_)
  go_simp
  refine hK.out _ _ ⟨B1, B2, B3⟩ (fun hH => ?_)
  clear hK K
  try simp only [LY]
  refine U_takeN (i := 7) (d := 10) (v := undef) rfl rfl rfl (by kernel_rfl) (by kernel_rfl) (by kernel_rfl) (fun _ _ _ h => h) (Or.inr ⟨by rfl, rfl⟩) hH ?_
  simp only [LY]
  refine U_takeN (i := 8) (d := 11) (v := ?_) rfl rfl rfl (by kernel_rfl) (by kernel_rfl) (by kernel_rfl) (fun _ _ _ h => h) (Or.inl ⟨by rfl, ?_⟩) hH ?_
  rotate_left
  ·intro w hSw
   try dsimp only at hSw
   go_simp
   try with_reducible rfl
  simp only [LY]
  refine U_takeN (i := 9) (d := 2) (v := ?_) rfl rfl rfl (by kernel_rfl) (by kernel_rfl) (by kernel_rfl) (fun _ _ _ h => h) (Or.inl ⟨by rfl, ?_⟩) hH ?_
  rotate_left
  ·intro w hSw
   try dsimp only at hSw
   go_simp
   try with_reducible rfl
  simp only [LY]
  clear hH
  refine U_endN (by kernel_rfl) ?_
  clear B1 B2 B3
  go_wp2
  go_ret
  exact ⟨(by rw [HRB.out, decide_eq_false (show ¬ (0 ≤ x ∧ x ≤ 1) from by have p0 : ¬ (0 ≤ x) := q2H.out; first | assumption | exact fun h => absurd h.1 (by assumption) | exact fun h => absurd h.2 (by assumption))]; rfl), hs⟩
theorem al_tail_le (v : Value) (p : Rat) (n : Nat) (k : Int) (w : World) (hp : PV w v p) (sp : SzQ 1 p) (h0 : 0 ≤ p) (h1 : p ≤ 1) (hn : n ≤ 64) (hk : k ≤ 0) :
  Calls Tryz.prog 51 #[.int .i64 n, .int .i64 k, v] w (RetP w (1)) := by
 obtain ⟨shp, ahp, nhp, chp, Ahp, Nhp, Chp, rfl⟩ := hp.shape
 have hs := Below.refl w.heap.size w
 have HBZ := Lib.hid (fun m (hm : m ≤ 64) => binL_mid h0 h1 sp hm)
 have HSZ := Lib.hid (fun m (hm : m ≤ 65) => sum_mid h0 h1 sp hn (0) m hm)
 clear h0 h1
 go_enter Tryz.func51, Tryz.ntmps51
 have q1 : k ≤ 0 := (by omega)
 have q1d : (k ≤ 0) = True := eq_true (by omega)
 go_wp2_with fail
 refine Calls.abs ?_
 intro w1 hW
 have hG : Gr [] w w1 := by rw [hW]; exact (Gr.refl _ _).alloc.alloc
 have hbw : Below w.heap.size w w1 := hG.below0 hs.size
 have hk : KeepD w w1 := hG.keep True.intro
 have sz_w1 : w.heap.size ≤ w.heap.size := hs.size
 have Blp : Bx w1 (w.heap.size) 34 #[.bool shp, .slice ahp nhp chp, .slice Ahp Nhp Chp] := by rw [hW]; exact ((Bx.new0 _ _ _).alloc _)
 have Blk : Bx w1 (w.heap.size + 1) 34 #[.bool false, .slice none 0 0, .slice none 0 0] := by rw [hW]; exact (Bx.new0 _ _ _)
 replace hs := hs.trans hbw
 replace hp := hp.keep hk
 clear hW hG hk hbw
 have hz_w1 : w.heap.size + 1 < w1.heap.size := Blk.lt
 with_reducible refine (al_one _).mono ?_
 rintro e w2 ⟨_, rfl, h2, hb⟩
 obtain ⟨sh2, ah2, nh2, ch2, Ah2, Nh2, Ch2, rfl⟩ := h2.shape
 replace hs := bStep hs hb
 replace Blp := Blp.mono hb
 replace Blk := Blk.mono hb
 replace hp := hp.mono hb
 clear hb
 have B9 : w2.cell? ⟨w.heap.size + 1, 0, none⟩ = some (.bool false) := Blk.at 0 rfl
 have Ba : w2.cell? ⟨w.heap.size + 1, 1, none⟩ = some (.slice none 0 0) := Blk.at 1 rfl
 have Bb : w2.cell? ⟨w.heap.size + 1, 2, none⟩ = some (.slice none 0 0) := Blk.at 2 rfl
 have fk := Blk.free
 have Lk : w.heap.size + 1 < w2.heap.size := Blk.lt
 go_wp2
 clear B9 Ba Bb fk Lk
 refine bodyPost.abs ?_
 intro w3 hW
 have hG : Gr [w.heap.size + 1] w2 w3 := by rw [hW]; exact (Gr.refl _ _).set.set.set
 have hsz := hs.size
 have lk := Blk.lt
 have hbw : Below w.heap.size w2 w3 := hG.below1 hs.size (by first | omega | assumption)
 have hk : KeepD w2 w3 := hG.keep ⟨⟨_, Blk.ty, by decide⟩, True.intro⟩
 have Bl1k : Bx w3 (w.heap.size + 1) 34 #[.bool sh2, .slice ah2 nh2 ch2, .slice Ah2 Nh2 Ch2] := by rw [hW]; exact Blk.set3
 replace hs := hs.trans hbw
 replace Blp := hG.bx Blp (notMem1 (by omega))
 replace Blk := Bl1k
 clear Bl1k
 replace hp := hp.keep hk
 replace h2 := h2.keep hk
 clear hW hG hk hbw hsz lk
 have B9 : w3.cell? ⟨w.heap.size + 1, 0, none⟩ = some (.bool sh2) := Blk.at 0 rfl
 have Ba : w3.cell? ⟨w.heap.size + 1, 1, none⟩ = some (.slice ah2 nh2 ch2) := Blk.at 1 rfl
 have Bb : w3.cell? ⟨w.heap.size + 1, 2, none⟩ = some (.slice Ah2 Nh2 Ch2) := Blk.at 2 rfl
 exact bodyPost_ret (v := .agg #[.bool sh2, .slice ah2 nh2 ch2, .slice Ah2 Nh2 Ch2]) (by simp [results, Tryz.results51, go_sem, B9, Ba, Bb]) rfl ⟨_, rfl, h2, hs⟩
theorem alP_info : (Tryz.prog.info? 34).map (fun i => (i.zero, i.size, i.bytes)) = some (some (.agg #[.bool false, .slice none 0 0, .slice none 0 0]), 3, 56) := by kernel_rfl
theorem al_tail_gt (v : Value) (p : Rat) (n : Nat) (kk : Nat) (w : World) (hp : PV w v p) (sp : SzQ 1 p) (h0 : 0 ≤ p) (h1 : p ≤ 1) (hn : n ≤ 64) (hk : 0 < kk) :
  Calls Tryz.prog 51 #[.int .i64 n, .int .i64 kk, v] w (RetP w (tlQ p n kk)) := by
 obtain ⟨shp, ahp, nhp, chp, Ahp, Nhp, Chp, rfl⟩ := hp.shape
 have hs := Below.refl w.heap.size w
 have HBZ := Lib.hid (fun m (hm : m ≤ 64) => binL_mid h0 h1 sp hm)
 have HSZ := Lib.hid (fun m (hm : m ≤ 65) => sum_mid h0 h1 sp hn (kk) m hm)
 clear h0 h1
 obtain ⟨i0, hi, hz0, hz1, hz2⟩ := info_parts alP_info
 go_enter Tryz.func51, Tryz.ntmps51
 have q1 : ¬ (kk ≤ 0) := (by omega)
 have q1d : ((kk : Int) ≤ 0) = False := eq_false (by omega)
 go_wp2_with fail
 refine Calls.abs ?_
 intro w1 hW
 have hG : Gr [] w w1 := by rw [hW]; exact (Gr.refl _ _).alloc.alloc
 have hbw : Below w.heap.size w w1 := hG.below0 hs.size
 have hk : KeepD w w1 := hG.keep True.intro
 have sz_w1 : w.heap.size ≤ w.heap.size := hs.size
 have Blp : Bx w1 (w.heap.size) 34 #[.bool shp, .slice ahp nhp chp, .slice Ahp Nhp Chp] := by rw [hW]; exact ((Bx.new0 _ _ _).alloc _)
 have Blk : Bx w1 (w.heap.size + 1) 34 #[.bool false, .slice none 0 0, .slice none 0 0] := by rw [hW]; exact (Bx.new0 _ _ _)
 replace hs := hs.trans hbw
 replace hp := hp.keep hk
 clear hW hG hk hbw
 have hz_w1 : w.heap.size + 1 < w1.heap.size := Blk.lt
 with_reducible refine (al_one _).mono ?_
 rintro e w2 ⟨_, rfl, h2, hb⟩
 obtain ⟨sh2, ah2, nh2, ch2, Ah2, Nh2, Ch2, rfl⟩ := h2.shape
 replace hs := bStep hs hb
 replace Blp := Blp.mono hb
 replace Blk := Blk.mono hb
 replace hp := hp.mono hb
 clear hb
 have B5 : w2.cell? ⟨w.heap.size, 0, none⟩ = some (.bool shp) := Blp.at 0 rfl
 have B6 : w2.cell? ⟨w.heap.size, 1, none⟩ = some (.slice ahp nhp chp) := Blp.at 1 rfl
 have B7 : w2.cell? ⟨w.heap.size, 2, none⟩ = some (.slice Ahp Nhp Chp) := Blp.at 2 rfl
 have Lp : w.heap.size < w2.heap.size := Blp.lt
 go_wp2_with fail
 clear B5 B6 B7 Lp
 refine Calls.abs ?_
 intro w3 hW
 have hG : Gr [] w2 w3 := by rw [hW]; exact (Gr.refl _ _).alloc
 have hbw : Below w.heap.size w2 w3 := hG.below0 hs.size
 have hk : KeepD w2 w3 := hG.keep True.intro
 have sz_w3 : w.heap.size ≤ w2.heap.size := hs.size
 have np_w3 : w.heap.size < w2.heap.size := Blp.lt
 have nk_w3 : w.heap.size + 1 < w2.heap.size := Blk.lt
 have B0 : Bx w3 (w2.heap.size) 34 #[.bool sh2, .slice ah2 nh2 ch2, .slice Ah2 Nh2 Ch2] := by rw [hW]; exact (Bx.new0 _ _ _)
 replace hs := hs.trans hbw
 replace Blp := hG.bx Blp notMem0
 replace Blk := hG.bx Blk notMem0
 replace hp := hp.keep hk
 replace h2 := h2.keep hk
 clear hW hG hk hbw
 have hz_w3 : w2.heap.size < w3.heap.size := B0.lt
 with_reducible refine (al_less _ _ _ hp (SzQ.mid sp)).mono ?_
 rintro e w4 ⟨_, rfl, h3, hb⟩
 obtain ⟨sh3, ah3, nh3, ch3, Ah3, Nh3, Ch3, rfl⟩ := h3.shape
 replace hs := bStep hs hb
 replace Blp := Blp.mono hb
 replace Blk := Blk.mono hb
 replace B0 := B0.mono hb
 replace hp := hp.mono hb
 replace h2 := h2.mono hb
 clear hb
 go_wp2
 refine Code.abs ?_
 intro w5 hW
 have hG : Gr [] w4 w5 := by rw [hW]; exact (Gr.refl _ _).alloc
 have hbw : Below w.heap.size w4 w5 := hG.below0 hs.size
 have hk : KeepD w4 w5 := hG.keep True.intro
 have sz_w5 : w.heap.size ≤ w4.heap.size := hs.size
 have np_w5 : w.heap.size < w4.heap.size := Blp.lt
 have nk_w5 : w.heap.size + 1 < w4.heap.size := Blk.lt
 have nls_w5 : w2.heap.size < w4.heap.size := B0.lt
 have Blq : Bx w5 (w4.heap.size) 34 #[.bool sh3, .slice ah3 nh3 ch3, .slice Ah3 Nh3 Ch3] := by rw [hW]; exact (Bx.new0 _ _ _)
 replace hs := hs.trans hbw
 replace Blp := hG.bx Blp notMem0
 replace Blk := hG.bx Blk notMem0
 replace B0 := hG.bx B0 notMem0
 replace hp := hp.keep hk
 replace h2 := h2.keep hk
 replace h3 := h3.keep hk
 clear hW hG hk hbw
 have hz_w5 : w4.heap.size < w5.heap.size := Blq.lt
 go_loopw [7, 22] (fun s7 s22 wq => ∃ m : Nat, m ≤ n ∧ s22 = .int .i64 m ∧ Below w.heap.size w wq ∧ Bx wq (w.heap.size) 34 #[.bool shp, .slice ahp nhp chp, .slice Ahp Nhp Chp] ∧ Bx wq (w.heap.size + 1) 34 #[.bool false, .slice none 0 0, .slice none 0 0] ∧ Bx wq (w2.heap.size) 34 #[.bool sh2, .slice ah2 nh2 ch2, .slice Ah2 Nh2 Ch2] ∧ Bx wq (w4.heap.size) 34 #[.bool sh3, .slice ah3 nh3 ch3, .slice Ah3 Nh3 Ch3] ∧ PV wq (.agg #[.bool shp, .slice ahp nhp chp, .slice Ahp Nhp Chp]) (p) ∧ PV wq (.agg #[.bool sh2, .slice ah2 nh2 ch2, .slice Ah2 Nh2 Ch2]) (1) ∧ PV wq (.agg #[.bool sh3, .slice ah3 nh3 ch3, .slice Ah3 Nh3 Ch3]) (1 - p) ∧ Rows 3 34 PC wq s7 (binL p m)) (fun s7 s22 _ => n - (intOf s22).toNat)
 case atStart => exact ⟨0, Nat.zero_le _, rfl, hs, Blp, Blk, B0, Blq, hp, h2, h3, rowsP1 B0 h2⟩
 case round =>
  clear Blp Blk B0 Blq hp h2 h3 hs
  obtain ⟨m, k_le, rfl, hs, Blp, Blk, B0, Blq, hp, h2, h3, hl⟩ := hrel
  obtain ⟨wo, hwo⟩ : ∃ x, x = wr := ⟨_, rfl⟩
  subst hwo
  obtain ⟨bhl, ohl, khl, rfl, hl1, hl2, -⟩ := hl.open_ (by rw [binL_len]; omega)
  have hbl1 : (binL p m).length ≤ m + 1 := Nat.le_of_eq (binL_len p m)
  have hbl2 : m + 1 ≤ (binL p m).length := Nat.le_of_eq (binL_len p m).symm
  by_cases q4 : m < n
  ·have q4d : ((m : Int) < (n : Int)) = True := eq_true (by omega)
   go_wp2
   have HB0_5 := Lib.hid hs
   clear hs
   have hs := Below.refl wo.heap.size wo
   have nb_p : w.heap.size < wo.heap.size := Blp.lt
   have nb_k : w.heap.size + 1 < wo.heap.size := Blk.lt
   have nb_ls : w2.heap.size < wo.heap.size := B0.lt
   have nb_q : w4.heap.size < wo.heap.size := Blq.lt
   have Fhl := Lib.hid hl
   clear hl
   go_loopw [9, 27] (fun s9 s27 wq => ∃ j : Nat, j ≤ (binL p m).length + 1 ∧ s27 = .int .i64 j ∧ Below wo.heap.size wo wq ∧ Bx wq (w.heap.size) 34 #[.bool shp, .slice ahp nhp chp, .slice Ahp Nhp Chp] ∧ Bx wq (w.heap.size + 1) 34 #[.bool false, .slice none 0 0, .slice none 0 0] ∧ Bx wq (w2.heap.size) 34 #[.bool sh2, .slice ah2 nh2 ch2, .slice Ah2 Nh2 Ch2] ∧ Bx wq (w4.heap.size) 34 #[.bool sh3, .slice ah3 nh3 ch3, .slice Ah3 Nh3 Ch3] ∧ PV wq (.agg #[.bool shp, .slice ahp nhp chp, .slice Ahp Nhp Chp]) (p) ∧ PV wq (.agg #[.bool sh2, .slice ah2 nh2 ch2, .slice Ah2 Nh2 Ch2]) (1) ∧ PV wq (.agg #[.bool sh3, .slice ah3 nh3 ch3, .slice Ah3 Nh3 Ch3]) (1 - p) ∧ OwnR wo.heap.size 34 3 PC wq s9 (nxL p m j)) (fun s9 s27 _ => (binL p m).length + 1 - (intOf s27).toNat)
   case atStart => exact ⟨0, Nat.zero_le _, rfl, hs, Blp, Blk, B0, Blq, hp, h2, h3, OwnR.nil _ _ _ _ _⟩
   case round =>
    clear Blp Blk B0 Blq hp h2 h3 hs
    obtain ⟨j, k_le, rfl, hs, Blp, Blk, B0, Blq, hp, h2, h3, Opn⟩ := hrel
    have lnx : (nxL p m j).length ≤ j := Nat.le_of_eq (nxL_len p m j)
    by_cases q6 : (j : Int) < ((binL p m).length : Int) + 1
    ·have q6d : ((j : Int) < ((binL p m).length : Int) + 1) = True := eq_true (by omega)
     by_cases q7 : j < (binL p m).length
     ·have q7d : ((j : Int) < ((binL p m).length : Int)) = True := eq_true (by omega)
      go_upto_region 13 with fail
      refine Code.abs ?_
      intro w46 hW
      have hG : Gr [] wr w46 := by rw [hW]; exact (Gr.refl _ _).alloc
      have hbw : Below wo.heap.size wr w46 := hG.below0 hs.size
      have hk : KeepD wr w46 := hG.keep True.intro
      have sz_w46 : wo.heap.size ≤ wr.heap.size := hs.size
      have np_w46 : w.heap.size < wr.heap.size := Blp.lt
      have nk_w46 : w.heap.size + 1 < wr.heap.size := Blk.lt
      have nls_w46 : w2.heap.size < wr.heap.size := B0.lt
      have nq_w46 : w4.heap.size < wr.heap.size := Blq.lt
      have Blx : Bx w46 (wr.heap.size) 34 #[.bool false, .slice none 0 0, .slice none 0 0] := by rw [hW]; exact (Bx.new0 _ _ _)
      have Ap_pn_x := Opn.ap (g := wr.heap.size) (by omega)
      replace hs := hs.trans hbw
      replace Blp := hG.bx Blp notMem0
      replace Blk := hG.bx Blk notMem0
      replace B0 := hG.bx B0 notMem0
      replace Blq := hG.bx Blq notMem0
      replace hp := hp.keep hk
      replace h2 := h2.keep hk
      replace h3 := h3.keep hk
      replace Opn := Opn.mono PC.kept (hG.below0 (Nat.le_refl _))
      clear hW hG hk hbw
      have hz_w46 : wr.heap.size < w46.heap.size := Blx.lt
      have BI8a : j < (binL p m).length := by omega
      have BI8b : ((j : Int) : Int) < ((binL p m).length : Int) := by omega
      obtain ⟨ge9a, ae9a, ne9a, ce9a, Ae9a, Ne9a, De9a, Bo, Bp, Bq, he9a, le9⟩ := rowP_at (rowsJ PC.kept _ _ _ Fhl.out hs) (show j < (binL p m).length by omega)
      refine U_region (S := fun w' => w'.cell? ⟨w4.heap.size, 0, none⟩ = some (.bool sh3) ∧ w'.cell? ⟨w4.heap.size, 1, none⟩ = some (.slice ah3 nh3 ch3) ∧ w'.cell? ⟨w4.heap.size, 2, none⟩ = some (.slice Ah3 Nh3 Ch3) ∧ w'.cell? ⟨bhl, ohl + j * 3, none⟩ = some (.bool ge9a) ∧ w'.cell? ⟨bhl, ohl + j * 3 + 1, none⟩ = some (.slice ae9a ne9a ce9a) ∧ w'.cell? ⟨bhl, ohl + j * 3 + 2, none⟩ = some (.slice Ae9a Ne9a De9a)) (by kernel_rfl) 6 ?_
      refine AnyU.abs ?_
      intro w47 hW
      have hb : Below w46.heap.size w46 w47 := by rw [hW]; exact bDrew _
      replace hs := bStep hs hb
      replace Blp := Blp.mono hb
      replace Blk := Blk.mono hb
      replace B0 := B0.mono hb
      replace Blq := Blq.mono hb
      replace Blx := Blx.mono hb
      replace hp := hp.mono hb
      replace h2 := h2.mono hb
      replace h3 := h3.mono hb
      replace he9a := he9a.mono hb
      replace Opn := Opn.mono PC.kept hb
      replace Bo := cellK Bo hb
      replace Bp := cellK Bp hb
      replace Bq := cellK Bq hb
      clear hb hW
      have Br : w47.cell? ⟨w4.heap.size, 0, none⟩ = some (.bool sh3) := Blq.at 0 rfl
      have Bs : w47.cell? ⟨w4.heap.size, 1, none⟩ = some (.slice ah3 nh3 ch3) := Blq.at 1 rfl
      have Bt : w47.cell? ⟨w4.heap.size, 2, none⟩ = some (.slice Ah3 Nh3 Ch3) := Blq.at 2 rfl
      have hH := (show w47.cell? ⟨w4.heap.size, 0, none⟩ = some (.bool sh3) ∧ w47.cell? ⟨w4.heap.size, 1, none⟩ = some (.slice ah3 nh3 ch3) ∧ w47.cell? ⟨w4.heap.size, 2, none⟩ = some (.slice Ah3 Nh3 Ch3) ∧ w47.cell? ⟨bhl, ohl + j * 3, none⟩ = some (.bool ge9a) ∧ w47.cell? ⟨bhl, ohl + j * 3 + 1, none⟩ = some (.slice ae9a ne9a ce9a) ∧ w47.cell? ⟨bhl, ohl + j * 3 + 2, none⟩ = some (.slice Ae9a Ne9a De9a) from ⟨Br, Bs, Bt, Bo, Bp, Bq⟩)
      refine U_take (i := 0) (v := ?_) rfl (by kernel_rfl) (by kernel_rfl) (by kernel_rfl) (by kernel_rfl) (fun _ _ _ h => h) (Or.inl ⟨by rfl, ?_⟩) hH ?_
      rotate_left
      ·intro w hSw
       try dsimp only at hSw
       go_simp
       try with_reducible rfl
      try simp only [Act.put, List.setIfInBounds_toArray, List.set_cons_zero, List.set_cons_succ]
      refine U_take (i := 1) (v := ?_) rfl (by kernel_rfl) (by kernel_rfl) (by kernel_rfl) (by kernel_rfl) (fun _ _ _ h => h) (Or.inl ⟨by rfl, ?_⟩) hH ?_
      rotate_left
      ·intro w hSw
       try dsimp only at hSw
       go_simp
       try with_reducible rfl
      try simp only [Act.put, List.setIfInBounds_toArray, List.set_cons_zero, List.set_cons_succ]
      refine U_take (i := 2) (v := ?_) rfl (by kernel_rfl) (by kernel_rfl) (by kernel_rfl) (by kernel_rfl) (fun _ _ _ h => h) (Or.inl ⟨by rfl, ?_⟩) hH ?_
      rotate_left
      ·intro w hSw
       try dsimp only at hSw
       go_simp
       try with_reducible rfl
      try simp only [Act.put, List.setIfInBounds_toArray, List.set_cons_zero, List.set_cons_succ]
      refine U_take (i := 3) (v := ?_) rfl (by kernel_rfl) (by kernel_rfl) (by kernel_rfl) (by kernel_rfl) (fun _ _ _ h => h) (Or.inl ⟨by rfl, ?_⟩) hH ?_
      rotate_left
      ·intro w hSw
       try dsimp only at hSw
       go_simp
       try with_reducible rfl
      try simp only [Act.put, List.setIfInBounds_toArray, List.set_cons_zero, List.set_cons_succ]
      refine U_take (i := 4) (v := ?_) rfl (by kernel_rfl) (by kernel_rfl) (by kernel_rfl) (by kernel_rfl) (fun _ _ _ h => h) (Or.inl ⟨by rfl, ?_⟩) hH ?_
      rotate_left
      ·intro w hSw
       try dsimp only at hSw
       go_simp
       try with_reducible rfl
      try simp only [Act.put, List.setIfInBounds_toArray, List.set_cons_zero, List.set_cons_succ]
      clear hH
      refine U_one (i := 5) (by kernel_rfl) rfl (fun K hK => ?_)
      go_simp
      (with_reducible refine (pMul he9a h3 (SzQ.fit (HBZ.out m (by omega) j (by omega))) (SzQ.fit (SzQ.sub szQ_one sp))).mono ?_)
      rintro e w48 ⟨_, rfl, h10, hb⟩
      obtain ⟨sh10, ah10, nh10, ch10, Ah10, Nh10, Ch10, rfl⟩ := h10.shape
      replace hs := bStep hs hb
      replace Blp := Blp.mono hb
      replace Blk := Blk.mono hb
      replace B0 := B0.mono hb
      replace Blq := Blq.mono hb
      replace Blx := Blx.mono hb
      replace hp := hp.mono hb
      replace h2 := h2.mono hb
      replace h3 := h3.mono hb
      replace he9a := he9a.mono hb
      replace Opn := Opn.mono PC.kept hb
      replace Br := cellK Br hb
      replace Bs := cellK Bs hb
      replace Bt := cellK Bt hb
      replace Bo := cellK Bo hb
      replace Bp := cellK Bp hb
      replace Bq := cellK Bq hb
      clear hb
      try go_wp2_with fail
      refine hK.out _ _ ⟨Br, Bs, Bt, Bo, Bp, Bq⟩ (fun hH => ?_)
      clear hK K
      try simp only [Act.put, List.setIfInBounds_toArray, List.set_cons_zero, List.set_cons_succ]
      clear hH
      have B1 : w48.cell? ⟨wr.heap.size, 0, none⟩ = some (.bool false) := Blx.at 0 rfl
      have B2 : w48.cell? ⟨wr.heap.size, 1, none⟩ = some (.slice none 0 0) := Blx.at 1 rfl
      have B3 : w48.cell? ⟨wr.heap.size, 2, none⟩ = some (.slice none 0 0) := Blx.at 2 rfl
      have fx := Blx.free
      have Lx : wr.heap.size < w48.heap.size := Blx.lt
      refine U_last (by kernel_rfl) rfl (by kernel_rfl) (fun K hK => ?_)
      go_simp
      refine hK.out _ _ ?_
      clear hK K
      intro w49 hW
      have hG : Gr [wr.heap.size] w48 w49 := by rw [hW]; exact (Gr.refl _ _).set.set.set
      have hsz := hs.size
      have lx := Blx.lt
      have hbw : Below wo.heap.size w48 w49 := hG.below1 hs.size (by first | omega | assumption)
      have hk : KeepD w48 w49 := hG.keep ⟨⟨_, Blx.ty, by decide⟩, True.intro⟩
      have Bl1x : Bx w49 (wr.heap.size) 34 #[.bool sh10, .slice ah10 nh10 ch10, .slice Ah10 Nh10 Ch10] := by rw [hW]; exact Blx.set3
      replace hs := hs.trans hbw
      replace Blp := hG.bx Blp (notMem1 (by omega))
      replace Blk := hG.bx Blk (notMem1 (by omega))
      replace B0 := hG.bx B0 (notMem1 (by omega))
      replace Blq := hG.bx Blq (notMem1 (by omega))
      replace Blx := Bl1x
      clear Bl1x
      replace hp := hp.keep hk
      replace h2 := h2.keep hk
      replace h3 := h3.keep hk
      replace he9a := he9a.keep hk
      replace h10 := h10.keep hk
      replace Opn := Opn.gr PC.kept hG (Ap_pn_x).one hk
      clear hW hG hk hbw hsz lx
      try simp only [Act.put, List.setIfInBounds_toArray, List.set_cons_zero, List.set_cons_succ]
      clear Br Bs Bt Bo Bp Bq
      by_cases q11 : 0 < j
      ·have q11d : ((0 : Int) < (j : Int)) = True := eq_true (by omega)
       go_upto_region 15 with fail
       have SW12a := IntWalk.i64_in ((j : Int) - 1) (by omega)
       have SW12b : (0 : Int) ≤ (j : Int) - 1 := by omega
       have SW12c : ((j : Int) - 1).toNat = (j - 1) := by omega
       have SW12d : (j : Int) - 1 < ((binL p m).length : Int) := by omega
       have SW12e : (1 : Int) ≤ (j : Int) := by omega
       have SW12f : (j : Int) < ((binL p m).length : Int) + 1 := by omega
       have BI13a : (j - 1) < (binL p m).length := by omega
       have BI13b : ((j : Int) - 1 : Int) < ((binL p m).length : Int) := by omega
       obtain ⟨ge14a, ae14a, ne14a, ce14a, Ae14a, Ne14a, De14a, Bf, Bg, Bh, he14a, le14⟩ := rowP_at (rowsJ PC.kept _ _ _ Fhl.out hs) (show (j - 1) < (binL p m).length by omega)
       refine U_region (S := fun w' => w'.cell? ⟨wr.heap.size, 0, none⟩ = some (.bool sh10) ∧ w'.cell? ⟨wr.heap.size, 1, none⟩ = some (.slice ah10 nh10 ch10) ∧ w'.cell? ⟨wr.heap.size, 2, none⟩ = some (.slice Ah10 Nh10 Ch10) ∧ w'.cell? ⟨w.heap.size, 0, none⟩ = some (.bool shp) ∧ w'.cell? ⟨w.heap.size, 1, none⟩ = some (.slice ahp nhp chp) ∧ w'.cell? ⟨w.heap.size, 2, none⟩ = some (.slice Ahp Nhp Chp) ∧ w'.cell? ⟨bhl, ohl + (j - 1) * 3, none⟩ = some (.bool ge14a) ∧ w'.cell? ⟨bhl, ohl + (j - 1) * 3 + 1, none⟩ = some (.slice ae14a ne14a ce14a) ∧ w'.cell? ⟨bhl, ohl + (j - 1) * 3 + 2, none⟩ = some (.slice Ae14a Ne14a De14a)) (by kernel_rfl) 9 ?_
       refine AnyU.abs ?_
       intro w50 hW
       have hb : Below w49.heap.size w49 w50 := by rw [hW]; exact bDrew _
       replace hs := bStep hs hb
       replace Blp := Blp.mono hb
       replace Blk := Blk.mono hb
       replace B0 := B0.mono hb
       replace Blq := Blq.mono hb
       replace Blx := Blx.mono hb
       replace hp := hp.mono hb
       replace h2 := h2.mono hb
       replace h3 := h3.mono hb
       replace he9a := he9a.mono hb
       replace h10 := h10.mono hb
       replace he14a := he14a.mono hb
       replace Opn := Opn.mono PC.kept hb
       replace Bf := cellK Bf hb
       replace Bg := cellK Bg hb
       replace Bh := cellK Bh hb
       clear hb hW
       have B1 : w50.cell? ⟨wr.heap.size, 0, none⟩ = some (.bool sh10) := Blx.at 0 rfl
       have B2 : w50.cell? ⟨wr.heap.size, 1, none⟩ = some (.slice ah10 nh10 ch10) := Blx.at 1 rfl
       have B3 : w50.cell? ⟨wr.heap.size, 2, none⟩ = some (.slice Ah10 Nh10 Ch10) := Blx.at 2 rfl
       have B5 : w50.cell? ⟨w.heap.size, 0, none⟩ = some (.bool shp) := Blp.at 0 rfl
       have B6 : w50.cell? ⟨w.heap.size, 1, none⟩ = some (.slice ahp nhp chp) := Blp.at 1 rfl
       have B7 : w50.cell? ⟨w.heap.size, 2, none⟩ = some (.slice Ahp Nhp Chp) := Blp.at 2 rfl
       have hH := (show w50.cell? ⟨wr.heap.size, 0, none⟩ = some (.bool sh10) ∧ w50.cell? ⟨wr.heap.size, 1, none⟩ = some (.slice ah10 nh10 ch10) ∧ w50.cell? ⟨wr.heap.size, 2, none⟩ = some (.slice Ah10 Nh10 Ch10) ∧ w50.cell? ⟨w.heap.size, 0, none⟩ = some (.bool shp) ∧ w50.cell? ⟨w.heap.size, 1, none⟩ = some (.slice ahp nhp chp) ∧ w50.cell? ⟨w.heap.size, 2, none⟩ = some (.slice Ahp Nhp Chp) ∧ w50.cell? ⟨bhl, ohl + (j - 1) * 3, none⟩ = some (.bool ge14a) ∧ w50.cell? ⟨bhl, ohl + (j - 1) * 3 + 1, none⟩ = some (.slice ae14a ne14a ce14a) ∧ w50.cell? ⟨bhl, ohl + (j - 1) * 3 + 2, none⟩ = some (.slice Ae14a Ne14a De14a) from ⟨B1, B2, B3, B5, B6, B7, Bf, Bg, Bh⟩)
       refine U_take (i := 0) (v := ?_) rfl (by kernel_rfl) (by kernel_rfl) (by kernel_rfl) (by kernel_rfl) (fun _ _ _ h => h) (Or.inl ⟨by rfl, ?_⟩) hH ?_
       rotate_left
       ·intro w hSw
        try dsimp only at hSw
        go_simp
        try with_reducible rfl
       try simp only [Act.put, List.setIfInBounds_toArray, List.set_cons_zero, List.set_cons_succ]
       refine U_take (i := 1) (v := ?_) rfl (by kernel_rfl) (by kernel_rfl) (by kernel_rfl) (by kernel_rfl) (fun _ _ _ h => h) (Or.inl ⟨by rfl, ?_⟩) hH ?_
       rotate_left
       ·intro w hSw
        try dsimp only at hSw
        go_simp
        try with_reducible rfl
       try simp only [Act.put, List.setIfInBounds_toArray, List.set_cons_zero, List.set_cons_succ]
       refine U_take (i := 2) (v := ?_) rfl (by kernel_rfl) (by kernel_rfl) (by kernel_rfl) (by kernel_rfl) (fun _ _ _ h => h) (Or.inl ⟨by rfl, ?_⟩) hH ?_
       rotate_left
       ·intro w hSw
        try dsimp only at hSw
        go_simp
        try with_reducible rfl
       try simp only [Act.put, List.setIfInBounds_toArray, List.set_cons_zero, List.set_cons_succ]
       refine U_take (i := 3) (v := ?_) rfl (by kernel_rfl) (by kernel_rfl) (by kernel_rfl) (by kernel_rfl) (fun _ _ _ h => h) (Or.inl ⟨by rfl, ?_⟩) hH ?_
       rotate_left
       ·intro w hSw
        try dsimp only at hSw
        go_simp
        try with_reducible rfl
       try simp only [Act.put, List.setIfInBounds_toArray, List.set_cons_zero, List.set_cons_succ]
       refine U_take (i := 4) (v := ?_) rfl (by kernel_rfl) (by kernel_rfl) (by kernel_rfl) (by kernel_rfl) (fun _ _ _ h => h) (Or.inl ⟨by rfl, ?_⟩) hH ?_
       rotate_left
       ·intro w hSw
        try dsimp only at hSw
        go_simp
        try with_reducible rfl
       try simp only [Act.put, List.setIfInBounds_toArray, List.set_cons_zero, List.set_cons_succ]
       refine U_take (i := 5) (v := ?_) rfl (by kernel_rfl) (by kernel_rfl) (by kernel_rfl) (by kernel_rfl) (fun _ _ _ h => h) (Or.inl ⟨by rfl, ?_⟩) hH ?_
       rotate_left
       ·intro w hSw
        try dsimp only at hSw
        go_simp
        try with_reducible rfl
       try simp only [Act.put, List.setIfInBounds_toArray, List.set_cons_zero, List.set_cons_succ]
       refine U_take (i := 6) (v := ?_) rfl (by kernel_rfl) (by kernel_rfl) (by kernel_rfl) (by kernel_rfl) (fun _ _ _ h => h) (Or.inl ⟨by rfl, ?_⟩) hH ?_
       rotate_left
       ·intro w hSw
        try dsimp only at hSw
        go_simp
        try with_reducible rfl
       try simp only [Act.put, List.setIfInBounds_toArray, List.set_cons_zero, List.set_cons_succ]
       clear hH
       refine U_one (i := 7) (by kernel_rfl) rfl (fun K hK => ?_)
       go_simp
       (with_reducible refine (pMul he14a hp (SzQ.fit (HBZ.out m (by omega) (j - 1) (by omega))) (SzQ.fit sp)).mono ?_)
       rintro e w51 ⟨_, rfl, h15, hb⟩
       obtain ⟨sh15, ah15, nh15, ch15, Ah15, Nh15, Ch15, rfl⟩ := h15.shape
       replace hs := bStep hs hb
       replace Blp := Blp.mono hb
       replace Blk := Blk.mono hb
       replace B0 := B0.mono hb
       replace Blq := Blq.mono hb
       replace Blx := Blx.mono hb
       replace hp := hp.mono hb
       replace h2 := h2.mono hb
       replace h3 := h3.mono hb
       replace he9a := he9a.mono hb
       replace h10 := h10.mono hb
       replace he14a := he14a.mono hb
       replace Opn := Opn.mono PC.kept hb
       replace B1 := cellK B1 hb
       replace B2 := cellK B2 hb
       replace B3 := cellK B3 hb
       replace B5 := cellK B5 hb
       replace B6 := cellK B6 hb
       replace B7 := cellK B7 hb
       replace Bf := cellK Bf hb
       replace Bg := cellK Bg hb
       replace Bh := cellK Bh hb
       clear hb
       try go_wp2_with fail
       refine hK.out _ _ ⟨B1, B2, B3, B5, B6, B7, Bf, Bg, Bh⟩ (fun hH => ?_)
       clear hK K
       try simp only [Act.put, List.setIfInBounds_toArray, List.set_cons_zero, List.set_cons_succ]
       clear hH
       refine U_one (i := 8) (by kernel_rfl) rfl (fun K hK => ?_)
       go_simp
       (with_reducible refine (pAdd h10 h15 (SzQ.fit (SzQ.mul (HBZ.out m (by omega) j (by omega)) (SzQ.sub szQ_one sp))) (SzQ.fit (SzQ.mul (HBZ.out m (by omega) (j - 1) (by omega)) sp))).mono ?_)
       rintro e w52 ⟨_, rfl, h16, hb⟩
       obtain ⟨sh16, ah16, nh16, ch16, Ah16, Nh16, Ch16, rfl⟩ := h16.shape
       replace hs := bStep hs hb
       replace Blp := Blp.mono hb
       replace Blk := Blk.mono hb
       replace B0 := B0.mono hb
       replace Blq := Blq.mono hb
       replace Blx := Blx.mono hb
       replace hp := hp.mono hb
       replace h2 := h2.mono hb
       replace h3 := h3.mono hb
       replace he9a := he9a.mono hb
       replace h10 := h10.mono hb
       replace he14a := he14a.mono hb
       replace h15 := h15.mono hb
       replace Opn := Opn.mono PC.kept hb
       replace B1 := cellK B1 hb
       replace B2 := cellK B2 hb
       replace B3 := cellK B3 hb
       replace B5 := cellK B5 hb
       replace B6 := cellK B6 hb
       replace B7 := cellK B7 hb
       replace Bf := cellK Bf hb
       replace Bg := cellK Bg hb
       replace Bh := cellK Bh hb
       clear hb
       try go_wp2_with fail
       refine hK.out _ _ ⟨B1, B2, B3, B5, B6, B7, Bf, Bg, Bh⟩ (fun hH => ?_)
       clear hK K
       try simp only [Act.put, List.setIfInBounds_toArray, List.set_cons_zero, List.set_cons_succ]
       clear hH
       have B1 : w52.cell? ⟨wr.heap.size, 0, none⟩ = some (.bool sh10) := Blx.at 0 rfl
       have B2 : w52.cell? ⟨wr.heap.size, 1, none⟩ = some (.slice ah10 nh10 ch10) := Blx.at 1 rfl
       have B3 : w52.cell? ⟨wr.heap.size, 2, none⟩ = some (.slice Ah10 Nh10 Ch10) := Blx.at 2 rfl
       have fx := Blx.free
       have Lx : wr.heap.size < w52.heap.size := Blx.lt
       refine U_last (by kernel_rfl) rfl (by kernel_rfl) (fun K hK => ?_)
       go_simp
       refine hK.out _ _ ?_
       clear hK K
       intro w53 hW
       have hG : Gr [wr.heap.size] w52 w53 := by rw [hW]; exact (Gr.refl _ _).set.set.set
       have hsz := hs.size
       have lx := Blx.lt
       have hbw : Below wo.heap.size w52 w53 := hG.below1 hs.size (by first | omega | assumption)
       have hk : KeepD w52 w53 := hG.keep ⟨⟨_, Blx.ty, by decide⟩, True.intro⟩
       have Bl1x : Bx w53 (wr.heap.size) 34 #[.bool sh16, .slice ah16 nh16 ch16, .slice Ah16 Nh16 Ch16] := by rw [hW]; exact Blx.set3
       replace hs := hs.trans hbw
       replace Blp := hG.bx Blp (notMem1 (by omega))
       replace Blk := hG.bx Blk (notMem1 (by omega))
       replace B0 := hG.bx B0 (notMem1 (by omega))
       replace Blq := hG.bx Blq (notMem1 (by omega))
       replace Blx := Bl1x
       clear Bl1x
       replace hp := hp.keep hk
       replace h2 := h2.keep hk
       replace h3 := h3.keep hk
       replace he9a := he9a.keep hk
       replace h10 := h10.keep hk
       replace he14a := he14a.keep hk
       replace h15 := h15.keep hk
       replace h16 := h16.keep hk
       replace Opn := Opn.gr PC.kept hG (Ap_pn_x).one hk
       clear hW hG hk hbw hsz lx
       try simp only [Act.put, List.setIfInBounds_toArray, List.set_cons_zero, List.set_cons_succ]
       clear B1 B2 B3 B5 B6 B7 Bf Bg Bh
       have B1 : w53.cell? ⟨wr.heap.size, 0, none⟩ = some (.bool sh16) := Blx.at 0 rfl
       have B2 : w53.cell? ⟨wr.heap.size, 1, none⟩ = some (.slice ah16 nh16 ch16) := Blx.at 1 rfl
       have B3 : w53.cell? ⟨wr.heap.size, 2, none⟩ = some (.slice Ah16 Nh16 Ch16) := Blx.at 2 rfl
       have Lx : wr.heap.size < w53.heap.size := Blx.lt
       go_wp2_with (at_builtin; refine wpList.stop ?_)
       refine ⟨?_⟩
       clear B1 B2 B3 Lx
       refine wpList.abs ?_
       intro w54 hW
       have hG : Gr [] w53 w54 := by rw [hW]; exact (Gr.refl _ _).alloc
       have hbw : Below wo.heap.size w53 w54 := hG.below0 hs.size
       have hk : KeepD w53 w54 := hG.keep True.intro
       have sz_w54 : wo.heap.size ≤ w53.heap.size := hs.size
       have np_w54 : w.heap.size < w53.heap.size := Blp.lt
       have nk_w54 : w.heap.size + 1 < w53.heap.size := Blk.lt
       have nls_w54 : w2.heap.size < w53.heap.size := B0.lt
       have nq_w54 : w4.heap.size < w53.heap.size := Blq.lt
       have nx_w54 : wr.heap.size < w53.heap.size := Blx.lt
       have B8 : Bx w54 (w53.heap.size) 34 #[.bool sh16, .slice ah16 nh16 ch16, .slice Ah16 Nh16 Ch16] := by rw [hW]; exact (Bx.new0 _ _ _)
       replace hs := hs.trans hbw
       replace Blp := hG.bx Blp notMem0
       replace Blk := hG.bx Blk notMem0
       replace B0 := hG.bx B0 notMem0
       replace Blq := hG.bx Blq notMem0
       replace Blx := hG.bx Blx notMem0
       replace hp := hp.keep hk
       replace h2 := h2.keep hk
       replace h3 := h3.keep hk
       replace he9a := he9a.keep hk
       replace h10 := h10.keep hk
       replace he14a := he14a.keep hk
       replace h15 := h15.keep hk
       replace h16 := h16.keep hk
       replace Opn := Opn.mono PC.kept (hG.below0 (Nat.le_refl _))
       clear hW hG hk hbw
       have hz_w54 : w53.heap.size < w54.heap.size := B8.lt
       obtain ⟨css, ho1, ho2, ho3, hown0⟩ := Opn
       refine wpList_append_lies _ rfl _ _ _ rfl wo.heap.size 34 i0 _ 3 56 Tryz.underlying27 hi hz0 hz1 hz2 rfl (by omega) _ _ css.flatten rfl hown0 ⟨w53.heap.size, 0, none⟩ 1 1 [.bool sh16, .slice ah16 nh16 ch16, .slice Ah16 Nh16 Ch16] rfl rfl B8.news ?_ (by omega) ?_ ?_ ?_ _ rfl ?_
       ·intro u hu; simp only [List.mem_cons, List.mem_nil_iff, or_false] at hu; rcases hu with rfl | rfl | rfl <;> rfl
       ·unfold maxLen; (try simp only [List.length_append, List.length_cons, List.length_nil]); omega
       ·(try simp only [List.length_append, List.length_cons, List.length_nil]); omega
       ·exact hs.size
       intro gpn cappn w55 hown1 hgrow hat hlt_
       have hk_ := KeepD.owns hown0 hgrow (by decide)
       have ho := owns_onlyT hown0 hgrow
       replace hs := hs.grown hgrow hs.size (fun k hk => (hown0.lt k hk).1)
       replace Opn := OwnR.push' PC.kept ho1 ho2 ho3 (x := ((nthQ (binL p m) j) * (1 - p)) + ((nthQ (binL p m) (j - 1)) * p)) rfl ⟨_, _, _, rfl, h16⟩ (by simp) hown1 hk_
       replace Blp := Blp.grown hgrow (fun e => by have := (hown0.lt _ e.symm).1; omega)
       replace Blk := Blk.grown hgrow (fun e => by have := (hown0.lt _ e.symm).1; omega)
       replace B0 := B0.grown hgrow (fun e => by have := (hown0.lt _ e.symm).1; omega)
       replace Blq := Blq.grown hgrow (fun e => by have := (hown0.lt _ e.symm).1; omega)
       have Ap_pn_x1 := Ap_pn_x.app hat Blx.lt
       replace Blx := Blx.grown hgrow Ap_pn_x.ne
       replace Ap_pn_x := Ap_pn_x1
       clear Ap_pn_x1
       replace hp := hp.keep hk_
       replace h2 := h2.keep hk_
       replace h3 := h3.keep hk_
       replace he9a := he9a.keep hk_
       replace h10 := h10.keep hk_
       replace he14a := he14a.keep hk_
       replace h15 := h15.keep hk_
       replace h16 := h16.keep hk_
       clear hk_ ho ho1 ho2 ho3 hown0 hown1 hgrow hat hlt_ B8
       go_wp2
       go_roundw
       case rel => exact ⟨j + 1, by omega, by go_num, hs, Blp, Blk, B0, Blq, hp, h2, h3, by rw [nxL_succ, nx_mid (by omega) (by omega)]; exact Opn⟩
       all_goals first | (simp [intOf]; done) | (simp [intOf]; omega)
      ·have q11d : ((0 : Int) < (j : Int)) = False := eq_false (by omega)
       have B1 : w49.cell? ⟨wr.heap.size, 0, none⟩ = some (.bool sh10) := Blx.at 0 rfl
       have B2 : w49.cell? ⟨wr.heap.size, 1, none⟩ = some (.slice ah10 nh10 ch10) := Blx.at 1 rfl
       have B3 : w49.cell? ⟨wr.heap.size, 2, none⟩ = some (.slice Ah10 Nh10 Ch10) := Blx.at 2 rfl
       have Lx : wr.heap.size < w49.heap.size := Blx.lt
       go_wp2_with (at_builtin; refine wpList.stop ?_)
       refine ⟨?_⟩
       clear B1 B2 B3 Lx
       refine wpList.abs ?_
       intro w50 hW
       have hG : Gr [] w49 w50 := by rw [hW]; exact (Gr.refl _ _).alloc
       have hbw : Below wo.heap.size w49 w50 := hG.below0 hs.size
       have hk : KeepD w49 w50 := hG.keep True.intro
       have sz_w50 : wo.heap.size ≤ w49.heap.size := hs.size
       have np_w50 : w.heap.size < w49.heap.size := Blp.lt
       have nk_w50 : w.heap.size + 1 < w49.heap.size := Blk.lt
       have nls_w50 : w2.heap.size < w49.heap.size := B0.lt
       have nq_w50 : w4.heap.size < w49.heap.size := Blq.lt
       have nx_w50 : wr.heap.size < w49.heap.size := Blx.lt
       have B8 : Bx w50 (w49.heap.size) 34 #[.bool sh10, .slice ah10 nh10 ch10, .slice Ah10 Nh10 Ch10] := by rw [hW]; exact (Bx.new0 _ _ _)
       replace hs := hs.trans hbw
       replace Blp := hG.bx Blp notMem0
       replace Blk := hG.bx Blk notMem0
       replace B0 := hG.bx B0 notMem0
       replace Blq := hG.bx Blq notMem0
       replace Blx := hG.bx Blx notMem0
       replace hp := hp.keep hk
       replace h2 := h2.keep hk
       replace h3 := h3.keep hk
       replace he9a := he9a.keep hk
       replace h10 := h10.keep hk
       replace Opn := Opn.mono PC.kept (hG.below0 (Nat.le_refl _))
       clear hW hG hk hbw
       have hz_w50 : w49.heap.size < w50.heap.size := B8.lt
       obtain ⟨css, ho1, ho2, ho3, hown0⟩ := Opn
       refine wpList_append_lies _ rfl _ _ _ rfl wo.heap.size 34 i0 _ 3 56 Tryz.underlying27 hi hz0 hz1 hz2 rfl (by omega) _ _ css.flatten rfl hown0 ⟨w49.heap.size, 0, none⟩ 1 1 [.bool sh10, .slice ah10 nh10 ch10, .slice Ah10 Nh10 Ch10] rfl rfl B8.news ?_ (by omega) ?_ ?_ ?_ _ rfl ?_
       ·intro u hu; simp only [List.mem_cons, List.mem_nil_iff, or_false] at hu; rcases hu with rfl | rfl | rfl <;> rfl
       ·unfold maxLen; (try simp only [List.length_append, List.length_cons, List.length_nil]); omega
       ·(try simp only [List.length_append, List.length_cons, List.length_nil]); omega
       ·exact hs.size
       intro gpn cappn w51 hown1 hgrow hat hlt_
       have hk_ := KeepD.owns hown0 hgrow (by decide)
       have ho := owns_onlyT hown0 hgrow
       replace hs := hs.grown hgrow hs.size (fun k hk => (hown0.lt k hk).1)
       replace Opn := OwnR.push' PC.kept ho1 ho2 ho3 (x := (nthQ (binL p m) j) * (1 - p)) rfl ⟨_, _, _, rfl, h10⟩ (by simp) hown1 hk_
       replace Blp := Blp.grown hgrow (fun e => by have := (hown0.lt _ e.symm).1; omega)
       replace Blk := Blk.grown hgrow (fun e => by have := (hown0.lt _ e.symm).1; omega)
       replace B0 := B0.grown hgrow (fun e => by have := (hown0.lt _ e.symm).1; omega)
       replace Blq := Blq.grown hgrow (fun e => by have := (hown0.lt _ e.symm).1; omega)
       have Ap_pn_x1 := Ap_pn_x.app hat Blx.lt
       replace Blx := Blx.grown hgrow Ap_pn_x.ne
       replace Ap_pn_x := Ap_pn_x1
       clear Ap_pn_x1
       replace hp := hp.keep hk_
       replace h2 := h2.keep hk_
       replace h3 := h3.keep hk_
       replace he9a := he9a.keep hk_
       replace h10 := h10.keep hk_
       clear hk_ ho ho1 ho2 ho3 hown0 hown1 hgrow hat hlt_ B8
       go_wp2
       go_roundw
       case rel => exact ⟨j + 1, by omega, by go_num, hs, Blp, Blk, B0, Blq, hp, h2, h3, by obtain rfl : j = 0 := (by omega); rw [nxL_succ, nx_first]; exact Opn⟩
       all_goals first | (simp [intOf]; done) | (simp [intOf]; omega)
     ·have q7d : ((j : Int) < ((binL p m).length : Int)) = False := eq_false (by omega)
      have q8 : 0 < j := (by omega)
      have q8d : ((0 : Int) < (j : Int)) = True := eq_true (by omega)
      go_upto_region 15 with fail
      refine Code.abs ?_
      intro w46 hW
      have hG : Gr [] wr w46 := by rw [hW]; exact (Gr.refl _ _).alloc
      have hbw : Below wo.heap.size wr w46 := hG.below0 hs.size
      have hk : KeepD wr w46 := hG.keep True.intro
      have sz_w46 : wo.heap.size ≤ wr.heap.size := hs.size
      have np_w46 : w.heap.size < wr.heap.size := Blp.lt
      have nk_w46 : w.heap.size + 1 < wr.heap.size := Blk.lt
      have nls_w46 : w2.heap.size < wr.heap.size := B0.lt
      have nq_w46 : w4.heap.size < wr.heap.size := Blq.lt
      have Blx : Bx w46 (wr.heap.size) 34 #[.bool false, .slice none 0 0, .slice none 0 0] := by rw [hW]; exact (Bx.new0 _ _ _)
      have Ap_pn_x := Opn.ap (g := wr.heap.size) (by omega)
      replace hs := hs.trans hbw
      replace Blp := hG.bx Blp notMem0
      replace Blk := hG.bx Blk notMem0
      replace B0 := hG.bx B0 notMem0
      replace Blq := hG.bx Blq notMem0
      replace hp := hp.keep hk
      replace h2 := h2.keep hk
      replace h3 := h3.keep hk
      replace Opn := Opn.mono PC.kept (hG.below0 (Nat.le_refl _))
      clear hW hG hk hbw
      have hz_w46 : wr.heap.size < w46.heap.size := Blx.lt
      have SW9a := IntWalk.i64_in ((j : Int) - 1) (by omega)
      have SW9b : (0 : Int) ≤ (j : Int) - 1 := by omega
      have SW9c : ((j : Int) - 1).toNat = (j - 1) := by omega
      have SW9d : (j : Int) - 1 < ((binL p m).length : Int) := by omega
      have SW9e : (1 : Int) ≤ (j : Int) := by omega
      have SW9f : (j : Int) < ((binL p m).length : Int) + 1 := by omega
      have BI10a : (j - 1) < (binL p m).length := by omega
      have BI10b : ((j : Int) - 1 : Int) < ((binL p m).length : Int) := by omega
      obtain ⟨ge11a, ae11a, ne11a, ce11a, Ae11a, Ne11a, De11a, Bc, Bd, Be, he11a, le11⟩ := rowP_at (rowsJ PC.kept _ _ _ Fhl.out hs) (show (j - 1) < (binL p m).length by omega)
      refine U_region (S := fun w' => w'.cell? ⟨wr.heap.size, 0, none⟩ = some (.bool false) ∧ w'.cell? ⟨wr.heap.size, 1, none⟩ = some (.slice none 0 0) ∧ w'.cell? ⟨wr.heap.size, 2, none⟩ = some (.slice none 0 0) ∧ w'.cell? ⟨w.heap.size, 0, none⟩ = some (.bool shp) ∧ w'.cell? ⟨w.heap.size, 1, none⟩ = some (.slice ahp nhp chp) ∧ w'.cell? ⟨w.heap.size, 2, none⟩ = some (.slice Ahp Nhp Chp) ∧ w'.cell? ⟨bhl, ohl + (j - 1) * 3, none⟩ = some (.bool ge11a) ∧ w'.cell? ⟨bhl, ohl + (j - 1) * 3 + 1, none⟩ = some (.slice ae11a ne11a ce11a) ∧ w'.cell? ⟨bhl, ohl + (j - 1) * 3 + 2, none⟩ = some (.slice Ae11a Ne11a De11a)) (by kernel_rfl) 9 ?_
      refine AnyU.abs ?_
      intro w47 hW
      have hb : Below w46.heap.size w46 w47 := by rw [hW]; exact bDrew _
      replace hs := bStep hs hb
      replace Blp := Blp.mono hb
      replace Blk := Blk.mono hb
      replace B0 := B0.mono hb
      replace Blq := Blq.mono hb
      replace Blx := Blx.mono hb
      replace hp := hp.mono hb
      replace h2 := h2.mono hb
      replace h3 := h3.mono hb
      replace he11a := he11a.mono hb
      replace Opn := Opn.mono PC.kept hb
      replace Bc := cellK Bc hb
      replace Bd := cellK Bd hb
      replace Be := cellK Be hb
      clear hb hW
      have B1 : w47.cell? ⟨wr.heap.size, 0, none⟩ = some (.bool false) := Blx.at 0 rfl
      have B2 : w47.cell? ⟨wr.heap.size, 1, none⟩ = some (.slice none 0 0) := Blx.at 1 rfl
      have B3 : w47.cell? ⟨wr.heap.size, 2, none⟩ = some (.slice none 0 0) := Blx.at 2 rfl
      have B5 : w47.cell? ⟨w.heap.size, 0, none⟩ = some (.bool shp) := Blp.at 0 rfl
      have B6 : w47.cell? ⟨w.heap.size, 1, none⟩ = some (.slice ahp nhp chp) := Blp.at 1 rfl
      have B7 : w47.cell? ⟨w.heap.size, 2, none⟩ = some (.slice Ahp Nhp Chp) := Blp.at 2 rfl
      have hH := (show w47.cell? ⟨wr.heap.size, 0, none⟩ = some (.bool false) ∧ w47.cell? ⟨wr.heap.size, 1, none⟩ = some (.slice none 0 0) ∧ w47.cell? ⟨wr.heap.size, 2, none⟩ = some (.slice none 0 0) ∧ w47.cell? ⟨w.heap.size, 0, none⟩ = some (.bool shp) ∧ w47.cell? ⟨w.heap.size, 1, none⟩ = some (.slice ahp nhp chp) ∧ w47.cell? ⟨w.heap.size, 2, none⟩ = some (.slice Ahp Nhp Chp) ∧ w47.cell? ⟨bhl, ohl + (j - 1) * 3, none⟩ = some (.bool ge11a) ∧ w47.cell? ⟨bhl, ohl + (j - 1) * 3 + 1, none⟩ = some (.slice ae11a ne11a ce11a) ∧ w47.cell? ⟨bhl, ohl + (j - 1) * 3 + 2, none⟩ = some (.slice Ae11a Ne11a De11a) from ⟨B1, B2, B3, B5, B6, B7, Bc, Bd, Be⟩)
      refine U_take (i := 0) (v := ?_) rfl (by kernel_rfl) (by kernel_rfl) (by kernel_rfl) (by kernel_rfl) (fun _ _ _ h => h) (Or.inl ⟨by rfl, ?_⟩) hH ?_
      rotate_left
      ·intro w hSw
       try dsimp only at hSw
       go_simp
       try with_reducible rfl
      try simp only [Act.put, List.setIfInBounds_toArray, List.set_cons_zero, List.set_cons_succ]
      refine U_take (i := 1) (v := ?_) rfl (by kernel_rfl) (by kernel_rfl) (by kernel_rfl) (by kernel_rfl) (fun _ _ _ h => h) (Or.inl ⟨by rfl, ?_⟩) hH ?_
      rotate_left
      ·intro w hSw
       try dsimp only at hSw
       go_simp
       try with_reducible rfl
      try simp only [Act.put, List.setIfInBounds_toArray, List.set_cons_zero, List.set_cons_succ]
      refine U_take (i := 2) (v := ?_) rfl (by kernel_rfl) (by kernel_rfl) (by kernel_rfl) (by kernel_rfl) (fun _ _ _ h => h) (Or.inl ⟨by rfl, ?_⟩) hH ?_
      rotate_left
      ·intro w hSw
       try dsimp only at hSw
       go_simp
       try with_reducible rfl
      try simp only [Act.put, List.setIfInBounds_toArray, List.set_cons_zero, List.set_cons_succ]
      refine U_take (i := 3) (v := ?_) rfl (by kernel_rfl) (by kernel_rfl) (by kernel_rfl) (by kernel_rfl) (fun _ _ _ h => h) (Or.inl ⟨by rfl, ?_⟩) hH ?_
      rotate_left
      ·intro w hSw
       try dsimp only at hSw
       go_simp
       try with_reducible rfl
      try simp only [Act.put, List.setIfInBounds_toArray, List.set_cons_zero, List.set_cons_succ]
      refine U_take (i := 4) (v := ?_) rfl (by kernel_rfl) (by kernel_rfl) (by kernel_rfl) (by kernel_rfl) (fun _ _ _ h => h) (Or.inl ⟨by rfl, ?_⟩) hH ?_
      rotate_left
      ·intro w hSw
       try dsimp only at hSw
       go_simp
       try with_reducible rfl
      try simp only [Act.put, List.setIfInBounds_toArray, List.set_cons_zero, List.set_cons_succ]
      refine U_take (i := 5) (v := ?_) rfl (by kernel_rfl) (by kernel_rfl) (by kernel_rfl) (by kernel_rfl) (fun _ _ _ h => h) (Or.inl ⟨by rfl, ?_⟩) hH ?_
      rotate_left
      ·intro w hSw
       try dsimp only at hSw
       go_simp
       try with_reducible rfl
      try simp only [Act.put, List.setIfInBounds_toArray, List.set_cons_zero, List.set_cons_succ]
      refine U_take (i := 6) (v := ?_) rfl (by kernel_rfl) (by kernel_rfl) (by kernel_rfl) (by kernel_rfl) (fun _ _ _ h => h) (Or.inl ⟨by rfl, ?_⟩) hH ?_
      rotate_left
      ·intro w hSw
       try dsimp only at hSw
       go_simp
       try with_reducible rfl
      try simp only [Act.put, List.setIfInBounds_toArray, List.set_cons_zero, List.set_cons_succ]
      clear hH
      refine U_one (i := 7) (by kernel_rfl) rfl (fun K hK => ?_)
      go_simp
      (with_reducible refine (pMul he11a hp (SzQ.fit (HBZ.out m (by omega) (j - 1) (by omega))) (SzQ.fit sp)).mono ?_)
      rintro e w48 ⟨_, rfl, h12, hb⟩
      obtain ⟨sh12, ah12, nh12, ch12, Ah12, Nh12, Ch12, rfl⟩ := h12.shape
      replace hs := bStep hs hb
      replace Blp := Blp.mono hb
      replace Blk := Blk.mono hb
      replace B0 := B0.mono hb
      replace Blq := Blq.mono hb
      replace Blx := Blx.mono hb
      replace hp := hp.mono hb
      replace h2 := h2.mono hb
      replace h3 := h3.mono hb
      replace he11a := he11a.mono hb
      replace Opn := Opn.mono PC.kept hb
      replace B1 := cellK B1 hb
      replace B2 := cellK B2 hb
      replace B3 := cellK B3 hb
      replace B5 := cellK B5 hb
      replace B6 := cellK B6 hb
      replace B7 := cellK B7 hb
      replace Bc := cellK Bc hb
      replace Bd := cellK Bd hb
      replace Be := cellK Be hb
      clear hb
      try go_wp2_with fail
      refine hK.out _ _ ⟨B1, B2, B3, B5, B6, B7, Bc, Bd, Be⟩ (fun hH => ?_)
      clear hK K
      try simp only [Act.put, List.setIfInBounds_toArray, List.set_cons_zero, List.set_cons_succ]
      clear hH
      refine U_one (i := 8) (by kernel_rfl) rfl (fun K hK => ?_)
      go_simp
      (with_reducible refine (pAdd (PV.zero _) h12 (SzQ.fit szQ_zero) (SzQ.fit (SzQ.mul (HBZ.out m (by omega) (j - 1) (by omega)) sp))).mono ?_)
      rintro e w49 ⟨_, rfl, h13, hb⟩
      obtain ⟨sh13, ah13, nh13, ch13, Ah13, Nh13, Ch13, rfl⟩ := h13.shape
      replace hs := bStep hs hb
      replace Blp := Blp.mono hb
      replace Blk := Blk.mono hb
      replace B0 := B0.mono hb
      replace Blq := Blq.mono hb
      replace Blx := Blx.mono hb
      replace hp := hp.mono hb
      replace h2 := h2.mono hb
      replace h3 := h3.mono hb
      replace he11a := he11a.mono hb
      replace h12 := h12.mono hb
      replace Opn := Opn.mono PC.kept hb
      replace B1 := cellK B1 hb
      replace B2 := cellK B2 hb
      replace B3 := cellK B3 hb
      replace B5 := cellK B5 hb
      replace B6 := cellK B6 hb
      replace B7 := cellK B7 hb
      replace Bc := cellK Bc hb
      replace Bd := cellK Bd hb
      replace Be := cellK Be hb
      clear hb
      try go_wp2_with fail
      refine hK.out _ _ ⟨B1, B2, B3, B5, B6, B7, Bc, Bd, Be⟩ (fun hH => ?_)
      clear hK K
      try simp only [Act.put, List.setIfInBounds_toArray, List.set_cons_zero, List.set_cons_succ]
      clear hH
      have B1 : w49.cell? ⟨wr.heap.size, 0, none⟩ = some (.bool false) := Blx.at 0 rfl
      have B2 : w49.cell? ⟨wr.heap.size, 1, none⟩ = some (.slice none 0 0) := Blx.at 1 rfl
      have B3 : w49.cell? ⟨wr.heap.size, 2, none⟩ = some (.slice none 0 0) := Blx.at 2 rfl
      have fx := Blx.free
      have Lx : wr.heap.size < w49.heap.size := Blx.lt
      refine U_last (by kernel_rfl) rfl (by kernel_rfl) (fun K hK => ?_)
      go_simp
      refine hK.out _ _ ?_
      clear hK K
      intro w50 hW
      have hG : Gr [wr.heap.size] w49 w50 := by rw [hW]; exact (Gr.refl _ _).set.set.set
      have hsz := hs.size
      have lx := Blx.lt
      have hbw : Below wo.heap.size w49 w50 := hG.below1 hs.size (by first | omega | assumption)
      have hk : KeepD w49 w50 := hG.keep ⟨⟨_, Blx.ty, by decide⟩, True.intro⟩
      have Bl1x : Bx w50 (wr.heap.size) 34 #[.bool sh13, .slice ah13 nh13 ch13, .slice Ah13 Nh13 Ch13] := by rw [hW]; exact Blx.set3
      replace hs := hs.trans hbw
      replace Blp := hG.bx Blp (notMem1 (by omega))
      replace Blk := hG.bx Blk (notMem1 (by omega))
      replace B0 := hG.bx B0 (notMem1 (by omega))
      replace Blq := hG.bx Blq (notMem1 (by omega))
      replace Blx := Bl1x
      clear Bl1x
      replace hp := hp.keep hk
      replace h2 := h2.keep hk
      replace h3 := h3.keep hk
      replace he11a := he11a.keep hk
      replace h12 := h12.keep hk
      replace h13 := h13.keep hk
      replace Opn := Opn.gr PC.kept hG (Ap_pn_x).one hk
      clear hW hG hk hbw hsz lx
      try simp only [Act.put, List.setIfInBounds_toArray, List.set_cons_zero, List.set_cons_succ]
      clear B1 B2 B3 B5 B6 B7 Bc Bd Be
      have B1 : w50.cell? ⟨wr.heap.size, 0, none⟩ = some (.bool sh13) := Blx.at 0 rfl
      have B2 : w50.cell? ⟨wr.heap.size, 1, none⟩ = some (.slice ah13 nh13 ch13) := Blx.at 1 rfl
      have B3 : w50.cell? ⟨wr.heap.size, 2, none⟩ = some (.slice Ah13 Nh13 Ch13) := Blx.at 2 rfl
      have Lx : wr.heap.size < w50.heap.size := Blx.lt
      go_wp2_with (at_builtin; refine wpList.stop ?_)
      refine ⟨?_⟩
      clear B1 B2 B3 Lx
      refine wpList.abs ?_
      intro w51 hW
      have hG : Gr [] w50 w51 := by rw [hW]; exact (Gr.refl _ _).alloc
      have hbw : Below wo.heap.size w50 w51 := hG.below0 hs.size
      have hk : KeepD w50 w51 := hG.keep True.intro
      have sz_w51 : wo.heap.size ≤ w50.heap.size := hs.size
      have np_w51 : w.heap.size < w50.heap.size := Blp.lt
      have nk_w51 : w.heap.size + 1 < w50.heap.size := Blk.lt
      have nls_w51 : w2.heap.size < w50.heap.size := B0.lt
      have nq_w51 : w4.heap.size < w50.heap.size := Blq.lt
      have nx_w51 : wr.heap.size < w50.heap.size := Blx.lt
      have B8 : Bx w51 (w50.heap.size) 34 #[.bool sh13, .slice ah13 nh13 ch13, .slice Ah13 Nh13 Ch13] := by rw [hW]; exact (Bx.new0 _ _ _)
      replace hs := hs.trans hbw
      replace Blp := hG.bx Blp notMem0
      replace Blk := hG.bx Blk notMem0
      replace B0 := hG.bx B0 notMem0
      replace Blq := hG.bx Blq notMem0
      replace Blx := hG.bx Blx notMem0
      replace hp := hp.keep hk
      replace h2 := h2.keep hk
      replace h3 := h3.keep hk
      replace he11a := he11a.keep hk
      replace h12 := h12.keep hk
      replace h13 := h13.keep hk
      replace Opn := Opn.mono PC.kept (hG.below0 (Nat.le_refl _))
      clear hW hG hk hbw
      have hz_w51 : w50.heap.size < w51.heap.size := B8.lt
      obtain ⟨css, ho1, ho2, ho3, hown0⟩ := Opn
      refine wpList_append_lies _ rfl _ _ _ rfl wo.heap.size 34 i0 _ 3 56 Tryz.underlying27 hi hz0 hz1 hz2 rfl (by omega) _ _ css.flatten rfl hown0 ⟨w50.heap.size, 0, none⟩ 1 1 [.bool sh13, .slice ah13 nh13 ch13, .slice Ah13 Nh13 Ch13] rfl rfl B8.news ?_ (by omega) ?_ ?_ ?_ _ rfl ?_
      ·intro u hu; simp only [List.mem_cons, List.mem_nil_iff, or_false] at hu; rcases hu with rfl | rfl | rfl <;> rfl
      ·unfold maxLen; (try simp only [List.length_append, List.length_cons, List.length_nil]); omega
      ·(try simp only [List.length_append, List.length_cons, List.length_nil]); omega
      ·exact hs.size
      intro gpn cappn w52 hown1 hgrow hat hlt_
      have hk_ := KeepD.owns hown0 hgrow (by decide)
      have ho := owns_onlyT hown0 hgrow
      replace hs := hs.grown hgrow hs.size (fun k hk => (hown0.lt k hk).1)
      replace Opn := OwnR.push' PC.kept ho1 ho2 ho3 (x := 0 + ((nthQ (binL p m) (j - 1)) * p)) rfl ⟨_, _, _, rfl, h13⟩ (by simp) hown1 hk_
      replace Blp := Blp.grown hgrow (fun e => by have := (hown0.lt _ e.symm).1; omega)
      replace Blk := Blk.grown hgrow (fun e => by have := (hown0.lt _ e.symm).1; omega)
      replace B0 := B0.grown hgrow (fun e => by have := (hown0.lt _ e.symm).1; omega)
      replace Blq := Blq.grown hgrow (fun e => by have := (hown0.lt _ e.symm).1; omega)
      have Ap_pn_x1 := Ap_pn_x.app hat Blx.lt
      replace Blx := Blx.grown hgrow Ap_pn_x.ne
      replace Ap_pn_x := Ap_pn_x1
      clear Ap_pn_x1
      replace hp := hp.keep hk_
      replace h2 := h2.keep hk_
      replace h3 := h3.keep hk_
      replace he11a := he11a.keep hk_
      replace h12 := h12.keep hk_
      replace h13 := h13.keep hk_
      clear hk_ ho ho1 ho2 ho3 hown0 hown1 hgrow hat hlt_ B8
      go_wp2
      go_roundw
      case rel => exact ⟨j + 1, by omega, by go_num, hs, Blp, Blk, B0, Blq, hp, h2, h3, by rw [nxL_succ, nx_last (by omega) (by omega)]; exact Opn⟩
      all_goals first | (simp [intOf]; done) | (simp [intOf]; omega)
    ·have q6d : ((j : Int) < ((binL p m).length : Int) + 1) = False := eq_false (by omega)
     obtain rfl : j = m + 2 := by omega
     have hN := Opn.rows
     rw [nxL_all] at hN
     clear Opn lnx
     replace hs := bStep HB0_5.out hs
     go_wp2
     go_roundw
     case rel => exact ⟨m + 1, by omega, by go_num, hs, Blp, Blk, B0, Blq, hp, h2, h3, hN⟩
     all_goals first | (simp [intOf]; done) | (simp [intOf]; omega)
  ·have q4d : ((m : Int) < (n : Int)) = False := eq_false (by omega)
   go_wp2
   refine Code.abs ?_
   intro w26 hW
   have hG : Gr [] wo w26 := by rw [hW]; exact (Gr.refl _ _).alloc
   have hbw : Below w.heap.size wo w26 := hG.below0 hs.size
   have hk : KeepD wo w26 := hG.keep True.intro
   have sz_w26 : w.heap.size ≤ wo.heap.size := hs.size
   have np_w26 : w.heap.size < wo.heap.size := Blp.lt
   have nk_w26 : w.heap.size + 1 < wo.heap.size := Blk.lt
   have nls_w26 : w2.heap.size < wo.heap.size := B0.lt
   have nq_w26 : w4.heap.size < wo.heap.size := Blq.lt
   have nhl_w26 : bhl < wo.heap.size := hl.lt (by omega)
   have B4 : Bx w26 (wo.heap.size) 34 #[.bool false, .slice none 0 0, .slice none 0 0] := by rw [hW]; exact (Bx.new0 _ _ _)
   replace hs := hs.trans hbw
   replace hl := rowsJ PC.kept _ _ _ hl (hG.below0 (Nat.le_refl _))
   replace Blp := hG.bx Blp notMem0
   replace Blk := hG.bx Blk notMem0
   replace B0 := hG.bx B0 notMem0
   replace Blq := hG.bx Blq notMem0
   replace hp := hp.keep hk
   replace h2 := h2.keep hk
   replace h3 := h3.keep hk
   clear hW hG hk hbw
   have hz_w26 : wo.heap.size < w26.heap.size := B4.lt
   go_loopw [13] (fun s13 wq => ∃ j : Nat, kk ≤ j ∧ j ≤ max kk (n + 1) ∧ s13 = .int .i64 j ∧ Below w.heap.size w wq ∧ Bx wq (w.heap.size) 34 #[.bool shp, .slice ahp nhp chp, .slice Ahp Nhp Chp] ∧ Bx wq (w.heap.size + 1) 34 #[.bool false, .slice none 0 0, .slice none 0 0] ∧ Bx wq (w2.heap.size) 34 #[.bool sh2, .slice ah2 nh2 ch2, .slice Ah2 Nh2 Ch2] ∧ Bx wq (w4.heap.size) 34 #[.bool sh3, .slice ah3 nh3 ch3, .slice Ah3 Nh3 Ch3] ∧ PV wq (.agg #[.bool shp, .slice ahp nhp chp, .slice Ahp Nhp Chp]) (p) ∧ PV wq (.agg #[.bool sh2, .slice ah2 nh2 ch2, .slice Ah2 Nh2 Ch2]) (1) ∧ PV wq (.agg #[.bool sh3, .slice ah3 nh3 ch3, .slice Ah3 Nh3 Ch3]) (1 - p) ∧ Rows 3 34 PC wq (.slice (some ⟨bhl, ohl, none⟩) (binL p m).length khl) ((binL p m)) ∧ BoxP wq (wo.heap.size) (sumF (binQ p n) kk (j - kk))) (fun s13 _ => max kk (n + 1) - (intOf s13).toNat)
   case atStart => exact ⟨kk, Nat.le_refl _, by omega, rfl, hs, Blp, Blk, B0, Blq, hp, h2, h3, hl, ⟨_, _, _, _, _, _, _, B4, ((PV.zero _).of_eq (by rw [Nat.sub_self]; rfl))⟩⟩
   case round =>
    clear Blp Blk B0 Blq B4 hp h2 h3 hl hs
    obtain ⟨j, k_ge, k_le, rfl, hs, Blp, Blk, B0, Blq, hp, h2, h3, hl, ⟨sh5, ah5, nh5, ch5, Ah5, Nh5, Ch5, B4, h5⟩⟩ := hrel
    by_cases q6 : j ≤ n
    ·have q6d : ((j : Int) ≤ (n : Int)) = True := eq_true (by omega)
     go_upto_region 24 with fail
     have BI7a : j < (binL p m).length := by omega
     have BI7b : ((j : Int) : Int) < ((binL p m).length : Int) := by omega
     obtain ⟨ge8a, ae8a, ne8a, ce8a, Ae8a, Ne8a, De8a, Bl, Bm, Bn, he8a, le8⟩ := rowP_at hl (show j < (binL p m).length by omega)
     refine U_region (S := fun w' => w'.cell? ⟨wo.heap.size, 0, none⟩ = some (.bool sh5) ∧ w'.cell? ⟨wo.heap.size, 1, none⟩ = some (.slice ah5 nh5 ch5) ∧ w'.cell? ⟨wo.heap.size, 2, none⟩ = some (.slice Ah5 Nh5 Ch5) ∧ w'.cell? ⟨bhl, ohl + j * 3, none⟩ = some (.bool ge8a) ∧ w'.cell? ⟨bhl, ohl + j * 3 + 1, none⟩ = some (.slice ae8a ne8a ce8a) ∧ w'.cell? ⟨bhl, ohl + j * 3 + 2, none⟩ = some (.slice Ae8a Ne8a De8a)) (by kernel_rfl) 6 ?_
     refine AnyU.abs ?_
     intro w47 hW
     have hb : Below wr.heap.size wr w47 := by rw [hW]; exact bDrew _
     replace hs := bStep hs hb
     replace Blp := Blp.mono hb
     replace Blk := Blk.mono hb
     replace B0 := B0.mono hb
     replace Blq := Blq.mono hb
     replace B4 := B4.mono hb
     replace hp := hp.mono hb
     replace h2 := h2.mono hb
     replace h3 := h3.mono hb
     replace h5 := h5.mono hb
     replace he8a := he8a.mono hb
     replace hl := rowsJ PC.kept _ _ _ hl hb
     replace Bl := cellK Bl hb
     replace Bm := cellK Bm hb
     replace Bn := cellK Bn hb
     clear hb hW
     have Bi : w47.cell? ⟨wo.heap.size, 0, none⟩ = some (.bool sh5) := B4.at 0 rfl
     have Bj : w47.cell? ⟨wo.heap.size, 1, none⟩ = some (.slice ah5 nh5 ch5) := B4.at 1 rfl
     have Bk : w47.cell? ⟨wo.heap.size, 2, none⟩ = some (.slice Ah5 Nh5 Ch5) := B4.at 2 rfl
     have hH := (show w47.cell? ⟨wo.heap.size, 0, none⟩ = some (.bool sh5) ∧ w47.cell? ⟨wo.heap.size, 1, none⟩ = some (.slice ah5 nh5 ch5) ∧ w47.cell? ⟨wo.heap.size, 2, none⟩ = some (.slice Ah5 Nh5 Ch5) ∧ w47.cell? ⟨bhl, ohl + j * 3, none⟩ = some (.bool ge8a) ∧ w47.cell? ⟨bhl, ohl + j * 3 + 1, none⟩ = some (.slice ae8a ne8a ce8a) ∧ w47.cell? ⟨bhl, ohl + j * 3 + 2, none⟩ = some (.slice Ae8a Ne8a De8a) from ⟨Bi, Bj, Bk, Bl, Bm, Bn⟩)
     refine U_take (i := 0) (v := ?_) rfl (by kernel_rfl) (by kernel_rfl) (by kernel_rfl) (by kernel_rfl) (fun _ _ _ h => h) (Or.inl ⟨by rfl, ?_⟩) hH ?_
     rotate_left
     ·intro w hSw
      try dsimp only at hSw
      go_simp
      try with_reducible rfl
     try simp only [Act.put, List.setIfInBounds_toArray, List.set_cons_zero, List.set_cons_succ]
     refine U_take (i := 1) (v := ?_) rfl (by kernel_rfl) (by kernel_rfl) (by kernel_rfl) (by kernel_rfl) (fun _ _ _ h => h) (Or.inl ⟨by rfl, ?_⟩) hH ?_
     rotate_left
     ·intro w hSw
      try dsimp only at hSw
      go_simp
      try with_reducible rfl
     try simp only [Act.put, List.setIfInBounds_toArray, List.set_cons_zero, List.set_cons_succ]
     refine U_take (i := 2) (v := ?_) rfl (by kernel_rfl) (by kernel_rfl) (by kernel_rfl) (by kernel_rfl) (fun _ _ _ h => h) (Or.inl ⟨by rfl, ?_⟩) hH ?_
     rotate_left
     ·intro w hSw
      try dsimp only at hSw
      go_simp
      try with_reducible rfl
     try simp only [Act.put, List.setIfInBounds_toArray, List.set_cons_zero, List.set_cons_succ]
     refine U_take (i := 3) (v := ?_) rfl (by kernel_rfl) (by kernel_rfl) (by kernel_rfl) (by kernel_rfl) (fun _ _ _ h => h) (Or.inl ⟨by rfl, ?_⟩) hH ?_
     rotate_left
     ·intro w hSw
      try dsimp only at hSw
      go_simp
      try with_reducible rfl
     try simp only [Act.put, List.setIfInBounds_toArray, List.set_cons_zero, List.set_cons_succ]
     refine U_take (i := 4) (v := ?_) rfl (by kernel_rfl) (by kernel_rfl) (by kernel_rfl) (by kernel_rfl) (fun _ _ _ h => h) (Or.inl ⟨by rfl, ?_⟩) hH ?_
     rotate_left
     ·intro w hSw
      try dsimp only at hSw
      go_simp
      try with_reducible rfl
     try simp only [Act.put, List.setIfInBounds_toArray, List.set_cons_zero, List.set_cons_succ]
     clear hH
     refine U_one (i := 5) (by kernel_rfl) rfl (fun K hK => ?_)
     go_simp
     (with_reducible refine (pAdd h5 he8a (SzQ.fit (HSZ.out _ (by omega))) (SzQ.fit (HBZ.out m (by omega) j (by omega)))).mono ?_)
     rintro e w48 ⟨_, rfl, h9, hb⟩
     obtain ⟨sh9, ah9, nh9, ch9, Ah9, Nh9, Ch9, rfl⟩ := h9.shape
     replace hs := bStep hs hb
     replace Blp := Blp.mono hb
     replace Blk := Blk.mono hb
     replace B0 := B0.mono hb
     replace Blq := Blq.mono hb
     replace B4 := B4.mono hb
     replace hp := hp.mono hb
     replace h2 := h2.mono hb
     replace h3 := h3.mono hb
     replace h5 := h5.mono hb
     replace he8a := he8a.mono hb
     replace hl := rowsJ PC.kept _ _ _ hl hb
     replace Bi := cellK Bi hb
     replace Bj := cellK Bj hb
     replace Bk := cellK Bk hb
     replace Bl := cellK Bl hb
     replace Bm := cellK Bm hb
     replace Bn := cellK Bn hb
     clear hb
     try go_wp2_with fail
     refine hK.out _ _ ⟨Bi, Bj, Bk, Bl, Bm, Bn⟩ (fun hH => ?_)
     clear hK K
     try simp only [Act.put, List.setIfInBounds_toArray, List.set_cons_zero, List.set_cons_succ]
     clear hH
     have Bi : w48.cell? ⟨wo.heap.size, 0, none⟩ = some (.bool sh5) := B4.at 0 rfl
     have Bj : w48.cell? ⟨wo.heap.size, 1, none⟩ = some (.slice ah5 nh5 ch5) := B4.at 1 rfl
     have Bk : w48.cell? ⟨wo.heap.size, 2, none⟩ = some (.slice Ah5 Nh5 Ch5) := B4.at 2 rfl
     have fsum := B4.free
     have Lsum : wo.heap.size < w48.heap.size := B4.lt
     refine U_last (by kernel_rfl) rfl (by kernel_rfl) (fun K hK => ?_)
     go_simp
     refine hK.out _ _ ?_
     clear hK K
     intro w49 hW
     have hG : Gr [wo.heap.size] w48 w49 := by rw [hW]; exact (Gr.refl _ _).set.set.set
     have hsz := hs.size
     have lsum := B4.lt
     have hbw : Below w.heap.size w48 w49 := hG.below1 hs.size (by first | omega | assumption)
     have hk : KeepD w48 w49 := hG.keep ⟨⟨_, B4.ty, by decide⟩, True.intro⟩
     have Bl1sum : Bx w49 (wo.heap.size) 34 #[.bool sh9, .slice ah9 nh9 ch9, .slice Ah9 Nh9 Ch9] := by rw [hW]; exact B4.set3
     replace hs := hs.trans hbw
     replace hl := hl.gr PC.kept hG (notMem1 (by omega)) hk
     replace Blp := hG.bx Blp (notMem1 (by omega))
     replace Blk := hG.bx Blk (notMem1 (by omega))
     replace B0 := hG.bx B0 (notMem1 (by omega))
     replace Blq := hG.bx Blq (notMem1 (by omega))
     replace B4 := Bl1sum
     clear Bl1sum
     replace hp := hp.keep hk
     replace h2 := h2.keep hk
     replace h3 := h3.keep hk
     replace h5 := h5.keep hk
     replace he8a := he8a.keep hk
     replace h9 := h9.keep hk
     clear hW hG hk hbw hsz lsum
     try simp only [Act.put, List.setIfInBounds_toArray, List.set_cons_zero, List.set_cons_succ]
     clear Bi Bj Bk Bl Bm Bn
     go_wp2
     go_roundw
     case rel => exact ⟨j + 1, by omega, by omega, by go_num, hs, Blp, Blk, B0, Blq, hp, h2, h3, hl, ⟨_, _, _, _, _, _, _, B4, h9.of_eq (by rw [show m = n by omega]; exact sum_next k_ge (by omega))⟩⟩
     all_goals first | (simp [intOf]; done) | (simp [intOf]; omega)
    ·have q6d : ((j : Int) ≤ (n : Int)) = False := eq_false (by omega)
     clear hl
     have Bi : wr.cell? ⟨wo.heap.size, 0, none⟩ = some (.bool sh5) := B4.at 0 rfl
     have Bj : wr.cell? ⟨wo.heap.size, 1, none⟩ = some (.slice ah5 nh5 ch5) := B4.at 1 rfl
     have Bk : wr.cell? ⟨wo.heap.size, 2, none⟩ = some (.slice Ah5 Nh5 Ch5) := B4.at 2 rfl
     have Lsum : wo.heap.size < wr.heap.size := B4.lt
     have B9 : wr.cell? ⟨w.heap.size + 1, 0, none⟩ = some (.bool false) := Blk.at 0 rfl
     have Ba : wr.cell? ⟨w.heap.size + 1, 1, none⟩ = some (.slice none 0 0) := Blk.at 1 rfl
     have Bb : wr.cell? ⟨w.heap.size + 1, 2, none⟩ = some (.slice none 0 0) := Blk.at 2 rfl
     have fk := Blk.free
     have Lk : w.heap.size + 1 < wr.heap.size := Blk.lt
     go_wp2
     clear Bi Bj Bk B9 Ba Bb fk Lsum Lk
     refine bodyPost.abs ?_
     intro w47 hW
     have hG : Gr [w.heap.size + 1] wr w47 := by rw [hW]; exact (Gr.refl _ _).set.set.set
     have hsz := hs.size
     have lk := Blk.lt
     have hbw : Below w.heap.size wr w47 := hG.below1 hs.size (by first | omega | assumption)
     have hk : KeepD wr w47 := hG.keep ⟨⟨_, Blk.ty, by decide⟩, True.intro⟩
     have Bl1k : Bx w47 (w.heap.size + 1) 34 #[.bool sh5, .slice ah5 nh5 ch5, .slice Ah5 Nh5 Ch5] := by rw [hW]; exact Blk.set3
     replace hs := hs.trans hbw
     replace Blp := hG.bx Blp (notMem1 (by omega))
     replace B0 := hG.bx B0 (notMem1 (by omega))
     replace Blq := hG.bx Blq (notMem1 (by omega))
     replace B4 := hG.bx B4 (notMem1 (by omega))
     replace Blk := Bl1k
     clear Bl1k
     replace hp := hp.keep hk
     replace h2 := h2.keep hk
     replace h3 := h3.keep hk
     replace h5 := h5.keep hk
     clear hW hG hk hbw hsz lk
     have B9 : w47.cell? ⟨w.heap.size + 1, 0, none⟩ = some (.bool sh5) := Blk.at 0 rfl
     have Ba : w47.cell? ⟨w.heap.size + 1, 1, none⟩ = some (.slice ah5 nh5 ch5) := Blk.at 1 rfl
     have Bb : w47.cell? ⟨w.heap.size + 1, 2, none⟩ = some (.slice Ah5 Nh5 Ch5) := Blk.at 2 rfl
     exact bodyPost_ret (v := .agg #[.bool sh5, .slice ah5 nh5 ch5, .slice Ah5 Nh5 Ch5]) (by simp [results, Tryz.results51, go_sem, B9, Ba, Bb]) rfl ⟨_, rfl, h5.of_eq (sum_tail p (by omega)), hs⟩
end Go.Proofs.YtlmemilmhdhgbaaGreat
