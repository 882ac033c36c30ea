/-
  Law 01: Of. Law 08: part; its examples (awake).
-/
import Derived.Test.YtmnipggjjcmjkaaGreatAlB
import Derived.Test.YtmnipggjjcmjkaaGreatAlF
set_option linter.unusedSimpArgs false
set_option linter.unusedVariables false
namespace Go.Proofs.YtmnipggjjcmjkaaGreat
open Go.RowKit Dg
attribute [local go_sem ↓] Go.wp_at_zero Go.wp_at_succ

set_option maxRecDepth 100000 in
set_option maxHeartbeats 4000000 in
theorem l1_Of_le (n d : Int) (w : World) (h0 : -9223372036854775808 ≤ n) (h1 : n ≤ 9223372036854775807) (d0 : -9223372036854775808 ≤ d) (d1 : d ≤ 9223372036854775807) (hd : d ≤ 0) : Calls Tryz.prog 13 #[.agg #[.int .i64 n, .int .i64 d]] w (RetP w ((n : Rat))) := by
  have hs := Below.refl w.heap.size w
  go_enter Tryz.func13, Tryz.ntmps13
  have q1 : d ≤ 0 := (by omega)
  have q1d : (d ≤ 0) = True := eq_true (by omega)
  go_wp2_with fail
  refine Calls.abs ?_
  intro w1 hW
  have hG : Gr [] w w1 := by rw [hW]; exact (Gr.refl _ _).alloc.alloc
  have hbw : Below w.heap.size w w1 := hG.below0 hs.size
  have hk : KeepD w w1 := hG.keep True.intro
  have sz_w1 : w.heap.size ≤ w.heap.size := hs.size
  have Blx : Bx w1 (w.heap.size) 23 #[.int .i64 n, .int .i64 d] := by rw [hW]; exact ((Bx.new0 _ _ _).alloc _)
  have Blk : Bx w1 (w.heap.size + 1) 29 #[.bool false, .slice none 0 0, .slice none 0 0] := by rw [hW]; exact (Bx.new0 _ _ _)
  replace hs := hs.trans hbw
  clear hW hG hk hbw
  have hz_w1 : w.heap.size + 1 < w1.heap.size := Blk.lt
  with_reducible refine (p_Int_calls n _ h0 h1).mono ?_
  rintro e w2 ⟨_, rfl, h2, hb⟩
  obtain ⟨sh2, ah2, nh2, ch2, Ah2, Nh2, Ch2, rfl⟩ := h2.shape
  replace hs := bStep hs hb
  replace Blx := Blx.mono hb
  replace Blk := Blk.mono hb
  clear hb
  have ck_0 : w2.cell? ⟨w.heap.size + 1, 0, none⟩ = some (.bool false) := Blk.at 0 rfl
  have ck_1 : w2.cell? ⟨w.heap.size + 1, 1, none⟩ = some (.slice none 0 0) := Blk.at 1 rfl
  have ck_2 : w2.cell? ⟨w.heap.size + 1, 2, none⟩ = some (.slice none 0 0) := Blk.at 2 rfl
  have fk := Blk.free
  have Lk : w.heap.size + 1 < w2.heap.size := Blk.lt
  go_wp2
  clear ck_0 ck_1 ck_2 fk Lk
  refine bodyPost.abs ?_
  intro w3 hW
  have hG : Gr [w.heap.size + 1] w2 w3 := by rw [hW]; exact (Gr.refl _ _).set.set.set
  have hsz := hs.size
  have lk := Blk.lt
  have hbw : Below w.heap.size w2 w3 := hG.below1 hs.size (by first | omega | assumption)
  have hk : KeepD w2 w3 := hG.keep ⟨⟨_, Blk.ty, by decide⟩, True.intro⟩
  have Bl1k : Bx w3 (w.heap.size + 1) 29 #[.bool sh2, .slice ah2 nh2 ch2, .slice Ah2 Nh2 Ch2] := by rw [hW]; exact Blk.set3
  replace hs := hs.trans hbw
  replace Blx := hG.bx Blx (notMem1 (by omega))
  replace Blk := Bl1k
  clear Bl1k
  replace h2 := h2.keep hk
  clear hW hG hk hbw hsz lk
  have ck_0 : w3.cell? ⟨w.heap.size + 1, 0, none⟩ = some (.bool sh2) := Blk.at 0 rfl
  have ck_1 : w3.cell? ⟨w.heap.size + 1, 1, none⟩ = some (.slice ah2 nh2 ch2) := Blk.at 1 rfl
  have ck_2 : w3.cell? ⟨w.heap.size + 1, 2, none⟩ = some (.slice Ah2 Nh2 Ch2) := Blk.at 2 rfl
  exact bodyPost_ret (v := .agg #[.bool sh2, .slice ah2 nh2 ch2, .slice Ah2 Nh2 Ch2]) (by simp [results, Tryz.results13, go_sem, ck_0, ck_1, ck_2]) rfl ⟨_, rfl, h2, hs⟩

set_option maxRecDepth 100000 in
set_option maxHeartbeats 4000000 in
theorem l1_Of_gt (n d : Int) (w : World) (h0 : -9223372036854775808 ≤ n) (h1 : n ≤ 9223372036854775807) (d0 : -9223372036854775808 ≤ d) (d1 : d ≤ 9223372036854775807) (hd : ¬ d ≤ 0) : Calls Tryz.prog 13 #[.agg #[.int .i64 n, .int .i64 d]] w (RetP w ((n : Rat) / (d : Rat))) := by
  have hs := Below.refl w.heap.size w
  go_enter Tryz.func13, Tryz.ntmps13
  have q1 : ¬ (d ≤ 0) := (by omega)
  have q1d : (d ≤ 0) = False := eq_false (by omega)
  go_wp2_with fail
  refine Calls.abs ?_
  intro w1 hW
  have hG : Gr [] w w1 := by rw [hW]; exact (Gr.refl _ _).alloc.alloc
  have hbw : Below w.heap.size w w1 := hG.below0 hs.size
  have hk : KeepD w w1 := hG.keep True.intro
  have sz_w1 : w.heap.size ≤ w.heap.size := hs.size
  have Blx : Bx w1 (w.heap.size) 23 #[.int .i64 n, .int .i64 d] := by rw [hW]; exact ((Bx.new0 _ _ _).alloc _)
  have Blk : Bx w1 (w.heap.size + 1) 29 #[.bool false, .slice none 0 0, .slice none 0 0] := by rw [hW]; exact (Bx.new0 _ _ _)
  replace hs := hs.trans hbw
  clear hW hG hk hbw
  have hz_w1 : w.heap.size + 1 < w1.heap.size := Blk.lt
  with_reducible refine (p_New_calls n d _ h0 h1 (by omega) d1 (by omega)).mono ?_
  rintro e w2 ⟨_, rfl, h2, hb⟩
  obtain ⟨sh2, ah2, nh2, ch2, Ah2, Nh2, Ch2, rfl⟩ := h2.shape
  replace hs := bStep hs hb
  replace Blx := Blx.mono hb
  replace Blk := Blk.mono hb
  clear hb
  go_upto_region 4 with fail
  refine Code.abs ?_
  intro w3 hW
  have hG : Gr [] w2 w3 := by rw [hW]; exact (Gr.refl _ _).alloc
  have hbw : Below w.heap.size w2 w3 := hG.below0 hs.size
  have hk : KeepD w2 w3 := hG.keep True.intro
  have sz_w3 : w.heap.size ≤ w2.heap.size := hs.size
  have nx_w3 : w.heap.size < w2.heap.size := Blx.lt
  have nk_w3 : w.heap.size + 1 < w2.heap.size := Blk.lt
  have Bly : Bx w3 (w2.heap.size) 29 #[.bool sh2, .slice ah2 nh2 ch2, .slice Ah2 Nh2 Ch2] := by rw [hW]; exact (Bx.new0 _ _ _)
  replace hs := hs.trans hbw
  replace Blx := hG.bx Blx notMem0
  replace Blk := hG.bx Blk notMem0
  replace h2 := h2.keep hk
  clear hW hG hk hbw
  have hz_w3 : w2.heap.size < w3.heap.size := Bly.lt
  have cy_0 : w3.cell? ⟨w2.heap.size, 0, none⟩ = some (.bool sh2) := Bly.at 0 rfl
  have cy_1 : w3.cell? ⟨w2.heap.size, 1, none⟩ = some (.slice ah2 nh2 ch2) := Bly.at 1 rfl
  have cy_2 : w3.cell? ⟨w2.heap.size, 2, none⟩ = some (.slice Ah2 Nh2 Ch2) := Bly.at 2 rfl
  have Ly : w2.heap.size < w3.heap.size := Bly.lt
  have ck_0 : w3.cell? ⟨w.heap.size + 1, 0, none⟩ = some (.bool false) := Blk.at 0 rfl
  have ck_1 : w3.cell? ⟨w.heap.size + 1, 1, none⟩ = some (.slice none 0 0) := Blk.at 1 rfl
  have ck_2 : w3.cell? ⟨w.heap.size + 1, 2, none⟩ = some (.slice none 0 0) := Blk.at 2 rfl
  have fk := Blk.free
  have Lk : w.heap.size + 1 < w3.heap.size := Blk.lt
  go_wp2
  clear cy_0 cy_1 cy_2 ck_0 ck_1 ck_2 fk Ly Lk
  refine bodyPost.abs ?_
  intro w4 hW
  have hG : Gr [w.heap.size + 1] w3 w4 := by rw [hW]; exact (Gr.refl _ _).set.set.set
  have hsz := hs.size
  have lk := Blk.lt
  have hbw : Below w.heap.size w3 w4 := hG.below1 hs.size (by first | omega | assumption)
  have hk : KeepD w3 w4 := hG.keep ⟨⟨_, Blk.ty, by decide⟩, True.intro⟩
  have Bl1k : Bx w4 (w.heap.size + 1) 29 #[.bool sh2, .slice ah2 nh2 ch2, .slice Ah2 Nh2 Ch2] := by rw [hW]; exact Blk.set3
  replace hs := hs.trans hbw
  replace Blx := hG.bx Blx (notMem1 (by omega))
  replace Bly := hG.bx Bly (notMem1 (by omega))
  replace Blk := Bl1k
  clear Bl1k
  replace h2 := h2.keep hk
  clear hW hG hk hbw hsz lk
  have ck_0 : w4.cell? ⟨w.heap.size + 1, 0, none⟩ = some (.bool sh2) := Blk.at 0 rfl
  have ck_1 : w4.cell? ⟨w.heap.size + 1, 1, none⟩ = some (.slice ah2 nh2 ch2) := Blk.at 1 rfl
  have ck_2 : w4.cell? ⟨w.heap.size + 1, 2, none⟩ = some (.slice Ah2 Nh2 Ch2) := Blk.at 2 rfl
  exact bodyPost_ret (v := .agg #[.bool sh2, .slice ah2 nh2 ch2, .slice Ah2 Nh2 Ch2]) (by simp [results, Tryz.results13, go_sem, ck_0, ck_1, ck_2]) rfl ⟨_, rfl, h2, hs⟩

theorem l1_Of {n d : Int} {q : Rat} (w : World) (h0 : -9223372036854775808 ≤ n) (h1 : n ≤ 9223372036854775807) (d0 : -9223372036854775808 ≤ d) (d1 : d ≤ 9223372036854775807) (hq : fracQ n d = q) : Calls Tryz.prog 13 #[.agg #[.int .i64 n, .int .i64 d]] w (RetP w q) := by
  by_cases hd : d ≤ 0
  · rw [← hq, show fracQ n d = (n : Rat) from if_pos hd]; exact l1_Of_le n d w h0 h1 d0 d1 hd
  · rw [← hq, show fracQ n d = (n : Rat) / (d : Rat) from if_neg hd]; exact l1_Of_gt n d w h0 h1 d0 d1 hd
end Go.Proofs.YtmnipggjjcmjkaaGreat
