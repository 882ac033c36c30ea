/-
  Reference 08: Detected. Detected of both sides, whatever the numbers.
-/
import Derived.Test.YtmnipggjjcmjkaaGreatAlH
import Derived.Test.YtmnipggjjcmjkaaGreatAlT0
import Derived.Test.YtmnipggjjcmjkaaGreatRangeR
set_option linter.unusedSimpArgs false
set_option linter.unusedVariables false
namespace Go.Proofs.YtmnipggjjcmjkaaGreat
open Go.RowKit Dg
attribute [local go_sem ↓] Go.wp_at_zero Go.wp_at_succ

set_option maxRecDepth 100000 in
set_option maxHeartbeats 4000000 in
theorem r8_One_0 {n f : Int} (w : World) (h1 : 1 ≤ n) (h2 : n ≤ 64) (h0 : 0 ≤ f) (h3 : f ≤ n) : Calls Tryz.prog 93 #[.agg #[.int .i64 n, .int .i64 f]] w (RetV w (.int .i64 0)) := by
  have hs := Below.refl w.heap.size w
  go_enter Tryz.func93, Tryz.ntmps93
  have q1 : ¬ (n < 1) := (by omega)
  have q1d : (n < 1) = False := eq_false (by omega)
  have q2 : ¬ (64 < n) := (by omega)
  have q2d : ((64 : Int) < n) = False := eq_false (by omega)
  have q3 : ¬ (f < 0) := (by omega)
  have q3d : (f < 0) = False := eq_false (by omega)
  have q4 : ¬ (n < f) := (by omega)
  have q4d : (n < f) = False := eq_false (by omega)
  go_wp2
  refine bodyPost.abs ?_
  intro w1 hW
  have hG : Gr [] w w1 := by rw [hW]; exact (Gr.refl _ _).alloc
  have hbw : Below w.heap.size w w1 := hG.below0 hs.size
  have hk : KeepD w w1 := hG.keep True.intro
  have sz_w1 : w.heap.size ≤ w.heap.size := hs.size
  have Blc : Bx w1 (w.heap.size) 66 #[.int .i64 n, .int .i64 f] := by rw [hW]; exact (Bx.new0 _ _ _)
  replace hs := hs.trans hbw
  clear hW hG hk hbw
  have hz_w1 : w.heap.size < w1.heap.size := Blc.lt
  go_ret
  exact ⟨rfl, hs⟩

set_option maxRecDepth 100000 in
set_option maxHeartbeats 4000000 in
theorem r8_One_1 {n f : Int} (w : World) (h1 : n < 1) : Calls Tryz.prog 93 #[.agg #[.int .i64 n, .int .i64 f]] w (RetV w (.int .i64 1)) := by
  have hs := Below.refl w.heap.size w
  go_enter Tryz.func93, Tryz.ntmps93
  have q1 : n < 1 := (by omega)
  have q1d : (n < 1) = True := eq_true (by omega)
  go_wp2
  refine bodyPost.abs ?_
  intro w1 hW
  have hG : Gr [] w w1 := by rw [hW]; exact (Gr.refl _ _).alloc
  have hbw : Below w.heap.size w w1 := hG.below0 hs.size
  have hk : KeepD w w1 := hG.keep True.intro
  have sz_w1 : w.heap.size ≤ w.heap.size := hs.size
  have Blc : Bx w1 (w.heap.size) 66 #[.int .i64 n, .int .i64 f] := by rw [hW]; exact (Bx.new0 _ _ _)
  replace hs := hs.trans hbw
  clear hW hG hk hbw
  have hz_w1 : w.heap.size < w1.heap.size := Blc.lt
  go_ret
  exact ⟨rfl, hs⟩

set_option maxRecDepth 100000 in
set_option maxHeartbeats 4000000 in
theorem r8_One_2 {n f : Int} (w : World) (h1 : 64 < n) : Calls Tryz.prog 93 #[.agg #[.int .i64 n, .int .i64 f]] w (RetV w (.int .i64 1)) := by
  have hs := Below.refl w.heap.size w
  go_enter Tryz.func93, Tryz.ntmps93
  have q1 : ¬ (n < 1) := (by omega)
  have q1d : (n < 1) = False := eq_false (by omega)
  have q2 : 64 < n := (by omega)
  have q2d : ((64 : Int) < n) = True := eq_true (by omega)
  go_wp2
  refine bodyPost.abs ?_
  intro w1 hW
  have hG : Gr [] w w1 := by rw [hW]; exact (Gr.refl _ _).alloc
  have hbw : Below w.heap.size w w1 := hG.below0 hs.size
  have hk : KeepD w w1 := hG.keep True.intro
  have sz_w1 : w.heap.size ≤ w.heap.size := hs.size
  have Blc : Bx w1 (w.heap.size) 66 #[.int .i64 n, .int .i64 f] := by rw [hW]; exact (Bx.new0 _ _ _)
  replace hs := hs.trans hbw
  clear hW hG hk hbw
  have hz_w1 : w.heap.size < w1.heap.size := Blc.lt
  go_ret
  exact ⟨rfl, hs⟩

set_option maxRecDepth 100000 in
set_option maxHeartbeats 4000000 in
theorem r8_One_3 {n f : Int} (w : World) (h1 : 1 ≤ n) (h2 : n ≤ 64) (h3 : f < 0) : Calls Tryz.prog 93 #[.agg #[.int .i64 n, .int .i64 f]] w (RetV w (.int .i64 1)) := by
  have hs := Below.refl w.heap.size w
  go_enter Tryz.func93, Tryz.ntmps93
  have q1 : ¬ (n < 1) := (by omega)
  have q1d : (n < 1) = False := eq_false (by omega)
  have q2 : ¬ (64 < n) := (by omega)
  have q2d : ((64 : Int) < n) = False := eq_false (by omega)
  have q3 : f < 0 := (by omega)
  have q3d : (f < 0) = True := eq_true (by omega)
  go_wp2
  refine bodyPost.abs ?_
  intro w1 hW
  have hG : Gr [] w w1 := by rw [hW]; exact (Gr.refl _ _).alloc
  have hbw : Below w.heap.size w w1 := hG.below0 hs.size
  have hk : KeepD w w1 := hG.keep True.intro
  have sz_w1 : w.heap.size ≤ w.heap.size := hs.size
  have Blc : Bx w1 (w.heap.size) 66 #[.int .i64 n, .int .i64 f] := by rw [hW]; exact (Bx.new0 _ _ _)
  replace hs := hs.trans hbw
  clear hW hG hk hbw
  have hz_w1 : w.heap.size < w1.heap.size := Blc.lt
  go_ret
  exact ⟨rfl, hs⟩

set_option maxRecDepth 100000 in
set_option maxHeartbeats 4000000 in
theorem r8_One_4 {n f : Int} (w : World) (h1 : 1 ≤ n) (h2 : n ≤ 64) (h0 : 0 ≤ f) (h3 : n < f) : Calls Tryz.prog 93 #[.agg #[.int .i64 n, .int .i64 f]] w (RetV w (.int .i64 1)) := by
  have hs := Below.refl w.heap.size w
  go_enter Tryz.func93, Tryz.ntmps93
  have q1 : ¬ (n < 1) := (by omega)
  have q1d : (n < 1) = False := eq_false (by omega)
  have q2 : ¬ (64 < n) := (by omega)
  have q2d : ((64 : Int) < n) = False := eq_false (by omega)
  have q3 : ¬ (f < 0) := (by omega)
  have q3d : (f < 0) = False := eq_false (by omega)
  have q4 : n < f := (by omega)
  have q4d : (n < f) = True := eq_true (by omega)
  go_wp2
  refine bodyPost.abs ?_
  intro w1 hW
  have hG : Gr [] w w1 := by rw [hW]; exact (Gr.refl _ _).alloc
  have hbw : Below w.heap.size w w1 := hG.below0 hs.size
  have hk : KeepD w w1 := hG.keep True.intro
  have sz_w1 : w.heap.size ≤ w.heap.size := hs.size
  have Blc : Bx w1 (w.heap.size) 66 #[.int .i64 n, .int .i64 f] := by rw [hW]; exact (Bx.new0 _ _ _)
  replace hs := hs.trans hbw
  clear hW hG hk hbw
  have hz_w1 : w.heap.size < w1.heap.size := Blc.lt
  go_ret
  exact ⟨rfl, hs⟩

theorem r8_One_all {n f : Int} (w : World) {e : Int} (he : (if n < 1 ∨ 64 < n ∨ f < 0 ∨ n < f then (1 : Int) else 0) = e) : Calls Tryz.prog 93 #[.agg #[.int .i64 n, .int .i64 f]] w (RetV w (.int .i64 e)) := by
  subst he
  by_cases h1 : n < 1
  · rw [if_pos (.inl h1)]; exact r8_One_1 w h1
  · by_cases h2 : 64 < n
    · rw [if_pos (.inr (.inl h2))]; exact r8_One_2 w h2
    · by_cases h3 : f < 0
      · rw [if_pos (.inr (.inr (.inl h3)))]; exact r8_One_3 w (by omega) (by omega) h3
      · by_cases h4 : n < f
        · rw [if_pos (.inr (.inr (.inr h4)))]; exact r8_One_4 w (by omega) (by omega) (by omega) h4
        · rw [if_neg (by omega)]; exact r8_One_0 w (by omega) (by omega) (by omega) (by omega)
set_option maxRecDepth 100000 in
set_option maxHeartbeats 4000000 in
theorem cl_check_0 {n f : Int} (w : World) (h1 : 1 ≤ n) (h2 : n ≤ 64) (h0 : 0 ≤ f) (h3 : f ≤ n) : Calls Tryz.prog 87 #[.agg #[.int .i64 n, .int .i64 f]] w (RetV w (.int .i64 0)) := by
  have hs := Below.refl w.heap.size w
  go_enter Tryz.func87, Tryz.ntmps87
  have q1 : ¬ (n < 1) := (by omega)
  have q1d : (n < 1) = False := eq_false (by omega)
  have q2 : ¬ (64 < n) := (by omega)
  have q2d : ((64 : Int) < n) = False := eq_false (by omega)
  have q3 : ¬ (f < 0) := (by omega)
  have q3d : (f < 0) = False := eq_false (by omega)
  have q4 : ¬ (n < f) := (by omega)
  have q4d : (n < f) = False := eq_false (by omega)
  go_wp2
  refine bodyPost.abs ?_
  intro w1 hW
  have hG : Gr [] w w1 := by rw [hW]; exact (Gr.refl _ _).alloc
  have hbw : Below w.heap.size w w1 := hG.below0 hs.size
  have hk : KeepD w w1 := hG.keep True.intro
  have sz_w1 : w.heap.size ≤ w.heap.size := hs.size
  have Blc : Bx w1 (w.heap.size) 57 #[.int .i64 n, .int .i64 f] := by rw [hW]; exact (Bx.new0 _ _ _)
  replace hs := hs.trans hbw
  clear hW hG hk hbw
  have hz_w1 : w.heap.size < w1.heap.size := Blc.lt
  go_ret
  exact ⟨rfl, hs⟩

set_option maxRecDepth 100000 in
set_option maxHeartbeats 4000000 in
theorem cl_check_1 {n f : Int} (w : World) (h1 : n < 1) : Calls Tryz.prog 87 #[.agg #[.int .i64 n, .int .i64 f]] w (RetV w (.int .i64 1)) := by
  have hs := Below.refl w.heap.size w
  go_enter Tryz.func87, Tryz.ntmps87
  have q1 : n < 1 := (by omega)
  have q1d : (n < 1) = True := eq_true (by omega)
  go_wp2
  refine bodyPost.abs ?_
  intro w1 hW
  have hG : Gr [] w w1 := by rw [hW]; exact (Gr.refl _ _).alloc
  have hbw : Below w.heap.size w w1 := hG.below0 hs.size
  have hk : KeepD w w1 := hG.keep True.intro
  have sz_w1 : w.heap.size ≤ w.heap.size := hs.size
  have Blc : Bx w1 (w.heap.size) 57 #[.int .i64 n, .int .i64 f] := by rw [hW]; exact (Bx.new0 _ _ _)
  replace hs := hs.trans hbw
  clear hW hG hk hbw
  have hz_w1 : w.heap.size < w1.heap.size := Blc.lt
  go_ret
  exact ⟨rfl, hs⟩

set_option maxRecDepth 100000 in
set_option maxHeartbeats 4000000 in
theorem cl_check_2 {n f : Int} (w : World) (h1 : 64 < n) : Calls Tryz.prog 87 #[.agg #[.int .i64 n, .int .i64 f]] w (RetV w (.int .i64 1)) := by
  have hs := Below.refl w.heap.size w
  go_enter Tryz.func87, Tryz.ntmps87
  have q1 : ¬ (n < 1) := (by omega)
  have q1d : (n < 1) = False := eq_false (by omega)
  have q2 : 64 < n := (by omega)
  have q2d : ((64 : Int) < n) = True := eq_true (by omega)
  go_wp2
  refine bodyPost.abs ?_
  intro w1 hW
  have hG : Gr [] w w1 := by rw [hW]; exact (Gr.refl _ _).alloc
  have hbw : Below w.heap.size w w1 := hG.below0 hs.size
  have hk : KeepD w w1 := hG.keep True.intro
  have sz_w1 : w.heap.size ≤ w.heap.size := hs.size
  have Blc : Bx w1 (w.heap.size) 57 #[.int .i64 n, .int .i64 f] := by rw [hW]; exact (Bx.new0 _ _ _)
  replace hs := hs.trans hbw
  clear hW hG hk hbw
  have hz_w1 : w.heap.size < w1.heap.size := Blc.lt
  go_ret
  exact ⟨rfl, hs⟩

set_option maxRecDepth 100000 in
set_option maxHeartbeats 4000000 in
theorem cl_check_3 {n f : Int} (w : World) (h1 : 1 ≤ n) (h2 : n ≤ 64) (h3 : f < 0) : Calls Tryz.prog 87 #[.agg #[.int .i64 n, .int .i64 f]] w (RetV w (.int .i64 1)) := by
  have hs := Below.refl w.heap.size w
  go_enter Tryz.func87, Tryz.ntmps87
  have q1 : ¬ (n < 1) := (by omega)
  have q1d : (n < 1) = False := eq_false (by omega)
  have q2 : ¬ (64 < n) := (by omega)
  have q2d : ((64 : Int) < n) = False := eq_false (by omega)
  have q3 : f < 0 := (by omega)
  have q3d : (f < 0) = True := eq_true (by omega)
  go_wp2
  refine bodyPost.abs ?_
  intro w1 hW
  have hG : Gr [] w w1 := by rw [hW]; exact (Gr.refl _ _).alloc
  have hbw : Below w.heap.size w w1 := hG.below0 hs.size
  have hk : KeepD w w1 := hG.keep True.intro
  have sz_w1 : w.heap.size ≤ w.heap.size := hs.size
  have Blc : Bx w1 (w.heap.size) 57 #[.int .i64 n, .int .i64 f] := by rw [hW]; exact (Bx.new0 _ _ _)
  replace hs := hs.trans hbw
  clear hW hG hk hbw
  have hz_w1 : w.heap.size < w1.heap.size := Blc.lt
  go_ret
  exact ⟨rfl, hs⟩

set_option maxRecDepth 100000 in
set_option maxHeartbeats 4000000 in
theorem cl_check_4 {n f : Int} (w : World) (h1 : 1 ≤ n) (h2 : n ≤ 64) (h0 : 0 ≤ f) (h3 : n < f) : Calls Tryz.prog 87 #[.agg #[.int .i64 n, .int .i64 f]] w (RetV w (.int .i64 1)) := by
  have hs := Below.refl w.heap.size w
  go_enter Tryz.func87, Tryz.ntmps87
  have q1 : ¬ (n < 1) := (by omega)
  have q1d : (n < 1) = False := eq_false (by omega)
  have q2 : ¬ (64 < n) := (by omega)
  have q2d : ((64 : Int) < n) = False := eq_false (by omega)
  have q3 : ¬ (f < 0) := (by omega)
  have q3d : (f < 0) = False := eq_false (by omega)
  have q4 : n < f := (by omega)
  have q4d : (n < f) = True := eq_true (by omega)
  go_wp2
  refine bodyPost.abs ?_
  intro w1 hW
  have hG : Gr [] w w1 := by rw [hW]; exact (Gr.refl _ _).alloc
  have hbw : Below w.heap.size w w1 := hG.below0 hs.size
  have hk : KeepD w w1 := hG.keep True.intro
  have sz_w1 : w.heap.size ≤ w.heap.size := hs.size
  have Blc : Bx w1 (w.heap.size) 57 #[.int .i64 n, .int .i64 f] := by rw [hW]; exact (Bx.new0 _ _ _)
  replace hs := hs.trans hbw
  clear hW hG hk hbw
  have hz_w1 : w.heap.size < w1.heap.size := Blc.lt
  go_ret
  exact ⟨rfl, hs⟩

theorem cl_check_all {n f : Int} (w : World) {e : Int} (he : (if n < 1 ∨ 64 < n ∨ f < 0 ∨ n < f then (1 : Int) else 0) = e) : Calls Tryz.prog 87 #[.agg #[.int .i64 n, .int .i64 f]] w (RetV w (.int .i64 e)) := by
  subst he
  by_cases h1 : n < 1
  · rw [if_pos (.inl h1)]; exact cl_check_1 w h1
  · by_cases h2 : 64 < n
    · rw [if_pos (.inr (.inl h2))]; exact cl_check_2 w h2
    · by_cases h3 : f < 0
      · rw [if_pos (.inr (.inr (.inl h3)))]; exact cl_check_3 w (by omega) (by omega) h3
      · by_cases h4 : n < f
        · rw [if_pos (.inr (.inr (.inr h4)))]; exact cl_check_4 w (by omega) (by omega) (by omega) h4
        · rw [if_neg (by omega)]; exact cl_check_0 w (by omega) (by omega) (by omega) (by omega)
theorem r1_New_e {n d : Int} {f : Rat} (w : World) (h : (n : Rat) / (d : Rat) = f) (h1 : 0 ≤ n) (h2 : n ≤ 4294967295) (h3 : 1 ≤ d) (h4 : d ≤ 4294967295) : Calls Tryz.prog 70 #[.int .i64 n, .int .i64 d] w (RetQE w f 0) := by
  subst h
  exact r_New_calls n d w (by omega) (by omega) (by omega) (by omega) (by omega)
set_option maxRecDepth 100000 in
set_option maxHeartbeats 4000000 in
theorem r8_part {S i : Nat} {ii : Int} (w : World) (hii : ii = i) (h0 : 0 < S) (h1 : i ≤ S) (h2 : S ≤ 2000000) : Calls Tryz.prog 97 #[.int .i64 ii, .int .i64 S] w (RetQ w (atQs S i)) := by
  have HII := Lib.hid (show ((ii : Int) : Rat) / ((S : Int) : Rat) = atQs S i by rw [hii]; rfl)
  have b0 : 0 ≤ ii := by omega
  have b1 : ii ≤ 2000000 := by omega
  clear hii
  have hs := Below.refl w.heap.size w
  go_enter Tryz.func97, Tryz.ntmps97
  go_wp2_with fail
  refine Calls.abs ?_
  intro w1 hW
  have hG : Gr [] w w1 := by rw [hW]; exact (Gr.refl _ _).alloc
  have hbw : Below w.heap.size w w1 := hG.below0 hs.size
  have hk : KeepD w w1 := hG.keep True.intro
  have sz_w1 : w.heap.size ≤ w.heap.size := hs.size
  have Blk : Bx w1 (w.heap.size) 36 #[.bool false, .slice none 0 0, .slice none 0 0] := by rw [hW]; exact (Bx.new0 _ _ _)
  replace hs := hs.trans hbw
  clear hW hG hk hbw
  have hz_w1 : w.heap.size < w1.heap.size := Blk.lt
  with_reducible refine (r1_New_e _ HII.out (by omega) (by omega) (by omega) (by omega)).mono ?_
  rintro e w2 ⟨_, rfl, h1, hb⟩
  obtain ⟨sh1, ah1, nh1, ch1, Ah1, Nh1, Ch1, rfl⟩ := h1.shape
  replace hs := bStep hs hb
  replace Blk := Blk.mono hb
  clear hb
  go_upto_region 2 with fail
  refine Code.abs ?_
  intro w3 hW
  have hG : Gr [] w2 w3 := by rw [hW]; exact (Gr.refl _ _).alloc
  have hbw : Below w.heap.size w2 w3 := hG.below0 hs.size
  have hk : KeepD w2 w3 := hG.keep True.intro
  have sz_w3 : w.heap.size ≤ w2.heap.size := hs.size
  have nk_w3 : w.heap.size < w2.heap.size := Blk.lt
  have Blx : Bx w3 (w2.heap.size) 36 #[.bool sh1, .slice ah1 nh1 ch1, .slice Ah1 Nh1 Ch1] := by rw [hW]; exact (Bx.new0 _ _ _)
  replace hs := hs.trans hbw
  replace Blk := hG.bx Blk notMem0
  replace h1 := h1.keep hk
  clear hW hG hk hbw
  have hz_w3 : w2.heap.size < w3.heap.size := Blx.lt
  have cx_0 : w3.cell? ⟨w2.heap.size, 0, none⟩ = some (.bool sh1) := Blx.at 0 rfl
  have cx_1 : w3.cell? ⟨w2.heap.size, 1, none⟩ = some (.slice ah1 nh1 ch1) := Blx.at 1 rfl
  have cx_2 : w3.cell? ⟨w2.heap.size, 2, none⟩ = some (.slice Ah1 Nh1 Ch1) := Blx.at 2 rfl
  have Lx : w2.heap.size < w3.heap.size := Blx.lt
  have ck_0 : w3.cell? ⟨w.heap.size, 0, none⟩ = some (.bool false) := Blk.at 0 rfl
  have ck_1 : w3.cell? ⟨w.heap.size, 1, none⟩ = some (.slice none 0 0) := Blk.at 1 rfl
  have ck_2 : w3.cell? ⟨w.heap.size, 2, none⟩ = some (.slice none 0 0) := Blk.at 2 rfl
  have fk := Blk.free
  have Lk : w.heap.size < w3.heap.size := Blk.lt
  go_wp2
  clear cx_0 cx_1 cx_2 ck_0 ck_1 ck_2 fk Lx Lk
  refine bodyPost.abs ?_
  intro w4 hW
  have hG : Gr [w.heap.size] w3 w4 := by rw [hW]; exact (Gr.refl _ _).set.set.set
  have hsz := hs.size
  have lk := Blk.lt
  have hbw : Below w.heap.size w3 w4 := hG.below1 hs.size (by first | omega | assumption)
  have hk : KeepD w3 w4 := hG.keep ⟨⟨_, Blk.ty, by decide⟩, True.intro⟩
  have Bl1k : Bx w4 (w.heap.size) 36 #[.bool sh1, .slice ah1 nh1 ch1, .slice Ah1 Nh1 Ch1] := by rw [hW]; exact Blk.set3
  replace hs := hs.trans hbw
  replace Blx := hG.bx Blx (notMem1 (by omega))
  replace Blk := Bl1k
  clear Bl1k
  replace h1 := h1.keep hk
  clear hW hG hk hbw hsz lk
  have ck_0 : w4.cell? ⟨w.heap.size, 0, none⟩ = some (.bool sh1) := Blk.at 0 rfl
  have ck_1 : w4.cell? ⟨w.heap.size, 1, none⟩ = some (.slice ah1 nh1 ch1) := Blk.at 1 rfl
  have ck_2 : w4.cell? ⟨w.heap.size, 2, none⟩ = some (.slice Ah1 Nh1 Ch1) := Blk.at 2 rfl
  exact bodyPost_ret (v := .agg #[.bool sh1, .slice ah1 nh1 ch1, .slice Ah1 Nh1 Ch1]) (by simp [results, Tryz.results97, go_sem, ck_0, ck_1, ck_2]) rfl ⟨_, rfl, h1, hs⟩

set_option maxRecDepth 100000 in
set_option maxHeartbeats 4000000 in
theorem r8_sure {v v' : Value} {p u : Rat} {n f : Nat} (w : World) (h2 : n ≤ 64) (h3 : f ≤ n) (hp : RV w v p) (sp : SzQ 1 p) (p0 : 0 ≤ p) (p1 : p ≤ 1) (hu : RV w v' u) (su : SzQ 1 u) {b : Bool} (hq : prvQ n f u p = b) :
    Calls Tryz.prog 96 #[.agg #[.int .i64 n, .int .i64 f], v, v'] w (RetV w (.bool b)) := by
  obtain ⟨shp, ahp, nhp, chp, Ahp, Nhp, Chp, rfl⟩ := hp.shape
  obtain ⟨shu, ahu, nhu, chu, Ahu, Nhu, Chu, rfl⟩ := hu.shape
  have hs := Below.refl w.heap.size w
  have HP := Lib.hid (And.intro p0 p1)
  have HT := Lib.hid ((tl_sz p0 p1 sp n f).mono (show n + 1 ≤ 100 by omega))
  have HQ := Lib.hid hq
  clear p0 p1 hq
  go_enter Tryz.func96, Tryz.ntmps96
  go_upto_region 1 with fail
  refine Code.abs ?_
  intro w1 hW
  have hG : Gr [] w w1 := by rw [hW]; exact (Gr.refl _ _).alloc.alloc.alloc
  have hbw : Below w.heap.size w w1 := hG.below0 hs.size
  have hk : KeepD w w1 := hG.keep True.intro
  have sz_w1 : w.heap.size ≤ w.heap.size := hs.size
  have Blc : Bx w1 (w.heap.size) 66 #[.int .i64 ((n : Int)), .int .i64 ((f : Int))] := by rw [hW]; exact (((Bx.new0 _ _ _).alloc _).alloc _)
  have Blp : Bx w1 (w.heap.size + 1) 36 #[.bool shp, .slice ahp nhp chp, .slice Ahp Nhp Chp] := by rw [hW]; exact ((Bx.new0 _ _ _).alloc _)
  have Blconfidence : Bx w1 (w.heap.size + 1 + 1) 36 #[.bool shu, .slice ahu nhu chu, .slice Ahu Nhu Chu] := by rw [hW]; exact (Bx.new0 _ _ _)
  replace hs := hs.trans hbw
  replace hp := hp.keep hk
  replace hu := hu.keep hk
  clear hW hG hk hbw
  have hz_w1 : w.heap.size + 1 + 1 < w1.heap.size := Blconfidence.lt
  obtain ⟨sg3, Hsg3⟩ : ∃ s : Int, s = sgQ ((tlQ p n f) - (1 - u)) := ⟨_, rfl⟩
  replace Hsg3 := Lib.hid Hsg3
  refine U_region (S := fun w' => w'.cell? ⟨w.heap.size, 0, none⟩ = some (.int .i64 ((n : Int))) ∧ w'.cell? ⟨w.heap.size, 1, none⟩ = some (.int .i64 ((f : Int))) ∧ w'.cell? ⟨w.heap.size + 1, 0, none⟩ = some (.bool shp) ∧ w'.cell? ⟨w.heap.size + 1, 1, none⟩ = some (.slice ahp nhp chp) ∧ w'.cell? ⟨w.heap.size + 1, 2, none⟩ = some (.slice Ahp Nhp Chp) ∧ w'.cell? ⟨w.heap.size + 1 + 1, 0, none⟩ = some (.bool shu) ∧ w'.cell? ⟨w.heap.size + 1 + 1, 1, none⟩ = some (.slice ahu nhu chu) ∧ w'.cell? ⟨w.heap.size + 1 + 1, 2, none⟩ = some (.slice Ahu Nhu Chu)) (by kernel_rfl) 11 ?_
  refine AnyU.abs ?_
  intro w2 hW
  have hb : Below w1.heap.size w1 w2 := by rw [hW]; exact bDrew _
  replace hs := bStep hs hb
  replace Blc := Blc.mono hb
  replace Blp := Blp.mono hb
  replace Blconfidence := Blconfidence.mono hb
  replace hp := hp.mono hb
  replace hu := hu.mono hb
  clear hb hW
  have cc_0 : w2.cell? ⟨w.heap.size, 0, none⟩ = some (.int .i64 ((n : Int))) := Blc.at 0 rfl
  have cc_1 : w2.cell? ⟨w.heap.size, 1, none⟩ = some (.int .i64 ((f : Int))) := Blc.at 1 rfl
  have cp_0 : w2.cell? ⟨w.heap.size + 1, 0, none⟩ = some (.bool shp) := Blp.at 0 rfl
  have cp_1 : w2.cell? ⟨w.heap.size + 1, 1, none⟩ = some (.slice ahp nhp chp) := Blp.at 1 rfl
  have cp_2 : w2.cell? ⟨w.heap.size + 1, 2, none⟩ = some (.slice Ahp Nhp Chp) := Blp.at 2 rfl
  have cconfidence_0 : w2.cell? ⟨w.heap.size + 1 + 1, 0, none⟩ = some (.bool shu) := Blconfidence.at 0 rfl
  have cconfidence_1 : w2.cell? ⟨w.heap.size + 1 + 1, 1, none⟩ = some (.slice ahu nhu chu) := Blconfidence.at 1 rfl
  have cconfidence_2 : w2.cell? ⟨w.heap.size + 1 + 1, 2, none⟩ = some (.slice Ahu Nhu Chu) := Blconfidence.at 2 rfl
  have hH := (show w2.cell? ⟨w.heap.size, 0, none⟩ = some (.int .i64 ((n : Int))) ∧ w2.cell? ⟨w.heap.size, 1, none⟩ = some (.int .i64 ((f : Int))) ∧ w2.cell? ⟨w.heap.size + 1, 0, none⟩ = some (.bool shp) ∧ w2.cell? ⟨w.heap.size + 1, 1, none⟩ = some (.slice ahp nhp chp) ∧ w2.cell? ⟨w.heap.size + 1, 2, none⟩ = some (.slice Ahp Nhp Chp) ∧ w2.cell? ⟨w.heap.size + 1 + 1, 0, none⟩ = some (.bool shu) ∧ w2.cell? ⟨w.heap.size + 1 + 1, 1, none⟩ = some (.slice ahu nhu chu) ∧ w2.cell? ⟨w.heap.size + 1 + 1, 2, none⟩ = some (.slice Ahu Nhu Chu) from ⟨cc_0, cc_1, cp_0, cp_1, cp_2, cconfidence_0, cconfidence_1, cconfidence_2⟩)
  refine U_takeN (i := 0) (d := 7) (v := ?_) rfl rfl rfl (by kernel_rfl) (by kernel_rfl) (by kernel_rfl) (fun _ _ _ h => h) (Or.inl ⟨by rfl, ?_⟩) hH ?_
  rotate_left
  · intro w hSw
    try dsimp only at hSw
    go_simp
    try with_reducible rfl
  simp only [LY]
  refine U_takeN (i := 1) (d := 8) (v := ?_) rfl rfl rfl (by kernel_rfl) (by kernel_rfl) (by kernel_rfl) (fun _ _ _ h => h) (Or.inl ⟨by rfl, ?_⟩) hH ?_
  rotate_left
  · intro w hSw
    try dsimp only at hSw
    go_simp
    try with_reducible rfl
  simp only [LY]
  refine U_takeN (i := 2) (d := 9) (v := ?_) rfl rfl rfl (by kernel_rfl) (by kernel_rfl) (by kernel_rfl) (fun _ _ _ h => h) (Or.inl ⟨by rfl, ?_⟩) hH ?_
  rotate_left
  · intro w hSw
    try dsimp only at hSw
    go_simp
    try with_reducible rfl
  simp only [LY]
  refine U_takeN (i := 3) (d := 10) (v := ?_) rfl rfl rfl (by kernel_rfl) (by kernel_rfl) (by kernel_rfl) (fun _ _ _ h => h) (Or.inl ⟨by rfl, ?_⟩) hH ?_
  rotate_left
  · intro w hSw
    try dsimp only at hSw
    go_simp
    try with_reducible rfl
  simp only [LY]
  refine U_takeN (i := 4) (d := 11) (v := ?_) rfl rfl rfl (by kernel_rfl) (by kernel_rfl) (by kernel_rfl) (fun _ _ _ h => h) (Or.inl ⟨by rfl, ?_⟩) hH ?_
  rotate_left
  · intro w hSw
    try dsimp only at hSw
    go_simp
    try with_reducible rfl
  simp only [LY]
  refine U_takeN (i := 6) (d := 13) (v := ?_) rfl rfl rfl (by kernel_rfl) (by kernel_rfl) (by kernel_rfl) (fun _ _ _ h => h) (Or.inl ⟨by rfl, ?_⟩) hH ?_
  rotate_left
  · intro w hSw
    try dsimp only at hSw
    go_simp
    try with_reducible rfl
  simp only [LY]
  clear hH
  refine U_one (i := 5) (by kernel_rfl) rfl (fun K hK => ?_)
  go_simp
  (with_reducible refine (r8_tail (n := n) (k := (f : Int)) _ hp sp HP.out.1 HP.out.2 (by omega) (by omega) (tailQ_nat n f p)).mono ?_)
  rintro e w3 ⟨_, rfl, h1, hb⟩
  obtain ⟨sh1, ah1, nh1, ch1, Ah1, Nh1, Ch1, rfl⟩ := h1.shape
  replace hs := bStep hs hb
  replace Blc := Blc.mono hb
  replace Blp := Blp.mono hb
  replace Blconfidence := Blconfidence.mono hb
  replace hp := hp.mono hb
  replace hu := hu.mono hb
  replace cc_0 := cellK cc_0 hb
  replace cc_1 := cellK cc_1 hb
  replace cp_0 := cellK cp_0 hb
  replace cp_1 := cellK cp_1 hb
  replace cp_2 := cellK cp_2 hb
  replace cconfidence_0 := cellK cconfidence_0 hb
  replace cconfidence_1 := cellK cconfidence_1 hb
  replace cconfidence_2 := cellK cconfidence_2 hb
  clear hb
  try go_wp2_with fail
  refine hK.out _ _ ⟨cc_0, cc_1, cp_0, cp_1, cp_2, cconfidence_0, cconfidence_1, cconfidence_2⟩ (fun hH => ?_)
  clear hK K
  try simp only [LY]
  clear hH
  refine U_one (i := 7) (by kernel_rfl) rfl (fun K hK => ?_)
  go_simp
  (with_reducible refine (r8_rest _ _ _ hu (SzQ.mid su)).mono ?_)
  rintro e w4 ⟨_, rfl, h2, hb⟩
  obtain ⟨sh2, ah2, nh2, ch2, Ah2, Nh2, Ch2, rfl⟩ := h2.shape
  replace hs := bStep hs hb
  replace Blc := Blc.mono hb
  replace Blp := Blp.mono hb
  replace Blconfidence := Blconfidence.mono hb
  replace hp := hp.mono hb
  replace hu := hu.mono hb
  replace h1 := h1.mono hb
  replace cc_0 := cellK cc_0 hb
  replace cc_1 := cellK cc_1 hb
  replace cp_0 := cellK cp_0 hb
  replace cp_1 := cellK cp_1 hb
  replace cp_2 := cellK cp_2 hb
  replace cconfidence_0 := cellK cconfidence_0 hb
  replace cconfidence_1 := cellK cconfidence_1 hb
  replace cconfidence_2 := cellK cconfidence_2 hb
  clear hb
  try go_wp2_with fail
  refine hK.out _ _ ⟨cc_0, cc_1, cp_0, cp_1, cp_2, cconfidence_0, cconfidence_1, cconfidence_2⟩ (fun hH => ?_)
  clear hK K
  try simp only [LY]
  clear hH
  refine U_one (i := 8) (by kernel_rfl) rfl (fun K hK => ?_)
  go_simp
  (with_reducible refine (rCmp h1 h2 (SzQ.fit HT.out) (SzQ.fit (SzQ.sub szQ_one su))).mono ?_)
  rintro e w5 ⟨rfl, hb⟩
  replace hs := bStep hs hb
  replace Blc := Blc.mono hb
  replace Blp := Blp.mono hb
  replace Blconfidence := Blconfidence.mono hb
  replace hp := hp.mono hb
  replace hu := hu.mono hb
  replace h1 := h1.mono hb
  replace h2 := h2.mono hb
  replace cc_0 := cellK cc_0 hb
  replace cc_1 := cellK cc_1 hb
  replace cp_0 := cellK cp_0 hb
  replace cp_1 := cellK cp_1 hb
  replace cp_2 := cellK cp_2 hb
  replace cconfidence_0 := cellK cconfidence_0 hb
  replace cconfidence_1 := cellK cconfidence_1 hb
  replace cconfidence_2 := cellK cconfidence_2 hb
  clear hb
  rw [← Hsg3.out]
  try go_wp2_with fail
  refine hK.out _ _ ⟨cc_0, cc_1, cp_0, cp_1, cp_2, cconfidence_0, cconfidence_1, cconfidence_2⟩ (fun hH => ?_)
  clear hK K
  try simp only [LY]
  refine U_takeN (i := 9) (d := 16) (v := ?_) rfl rfl rfl (by kernel_rfl) (by kernel_rfl) (by kernel_rfl) (fun _ _ _ h => h) (Or.inl ⟨by rfl, ?_⟩) hH ?_
  rotate_left
  · intro w hSw
    try dsimp only at hSw
    go_simp
    try with_reducible rfl
  simp only [LY]
  refine U_takeN (i := 10) (d := 6) (v := ?_) rfl rfl rfl (by kernel_rfl) (by kernel_rfl) (by kernel_rfl) (fun _ _ _ h => h) (Or.inl ⟨by rfl, ?_⟩) hH ?_
  rotate_left
  · intro w hSw
    try dsimp only at hSw
    go_simp
    try with_reducible rfl
  simp only [LY]
  clear hH
  refine U_endN (by kernel_rfl) ?_
  clear cc_0 cc_1 cp_0 cp_1 cp_2 cconfidence_0 cconfidence_1 cconfidence_2
  by_cases q4 : tlQ p n f ≤ 1 - u
  · have q4_ : sg3 ≤ 0 := by have h := sq_le (tlQ p n f) (1 - u); rw [← Hsg3.out] at h; exact h.2 q4
    have q4H := Lib.hid q4
    clear q4
    have q4d : decide (sg3 ≤ 0) = true := decide_eq_true q4_
    try simp only [q4d]
    go_wp2
    go_ret
    exact ⟨by rw [← HQ.out]; unfold prvQ; rw [decide_eq_true q4H.out]; rfl, hs⟩
  · have q4_ : ¬ (sg3 ≤ 0) := by have h := sq_le (tlQ p n f) (1 - u); rw [← Hsg3.out] at h; exact fun h1 => q4 (h.1 h1)
    have q4H := Lib.hid q4
    clear q4
    have q4d : decide (sg3 ≤ 0) = false := decide_eq_false q4_
    try simp only [q4d]
    go_wp2
    go_ret
    exact ⟨by rw [← HQ.out]; unfold prvQ; rw [decide_eq_false q4H.out]; rfl, hs⟩

set_option maxRecDepth 100000 in
set_option maxHeartbeats 16000000 in
theorem r8_Det_nil {v : Value} {u : Rat} {n f : Nat} (k : Int) (w : World) (h1 : 1 ≤ n) (h2 : n ≤ 64) (h3 : f ≤ n) (hu : RV w v u) (su : SzQ 1 u) (u0 : 0 ≤ u) (u1 : u ≤ 1) (hf : f = 0) :
    Calls Tryz.prog 28 #[.agg #[.int .i64 n, .int .i64 f], v, .int .i64 k] w (Ret2 (fun w v => RV2 w v (0) (0)) (fun _ v => v = .int .i64 0) w) := by
  obtain ⟨shu, ahu, nhu, chu, Ahu, Nhu, Chu, rfl⟩ := hu.shape
  have hs := Below.refl w.heap.size w
  have HU := Lib.hid (And.intro u0 u1)
  clear u0 u1
  have hf1 : (f : Int) = 0 := by omega
  have HF := Lib.hid hf
  clear hf hf1
  go_enter Tryz.func28, Tryz.ntmps28
  go_wp2_with fail
  refine Calls.abs ?_
  intro w1 hW
  have hG : Gr [] w w1 := by rw [hW]; exact (Gr.refl _ _).alloc.alloc.alloc
  have hbw : Below w.heap.size w w1 := hG.below0 hs.size
  have hk : KeepD w w1 := hG.keep True.intro
  have sz_w1 : w.heap.size ≤ w.heap.size := hs.size
  have Blc : Bx w1 (w.heap.size) 66 #[.int .i64 ((n : Int)), .int .i64 ((f : Int))] := by rw [hW]; exact (((Bx.new0 _ _ _).alloc _).alloc _)
  have Blconfidence : Bx w1 (w.heap.size + 1) 36 #[.bool shu, .slice ahu nhu chu, .slice Ahu Nhu Chu] := by rw [hW]; exact ((Bx.new0 _ _ _).alloc _)
  have Blk : Bx w1 (w.heap.size + 1 + 1) 63 #[.bool false, .slice none 0 0, .slice none 0 0, .bool false, .slice none 0 0, .slice none 0 0] := by rw [hW]; exact (Bx.new0 _ _ _)
  replace hs := hs.trans hbw
  replace hu := hu.keep hk
  clear hW hG hk hbw
  have hz_w1 : w.heap.size + 1 + 1 < w1.heap.size := Blk.lt
  with_reducible refine (r8_One_0 _ (by omega) (by omega) (by omega) (by omega)).mono ?_
  rintro e w2 ⟨rfl, hb⟩
  replace hs := bStep hs hb
  replace Blc := Blc.mono hb
  replace Blconfidence := Blconfidence.mono hb
  replace Blk := Blk.mono hb
  replace hu := hu.mono hb
  clear hb
  have cconfidence_0 : w2.cell? ⟨w.heap.size + 1, 0, none⟩ = some (.bool shu) := Blconfidence.at 0 rfl
  have cconfidence_1 : w2.cell? ⟨w.heap.size + 1, 1, none⟩ = some (.slice ahu nhu chu) := Blconfidence.at 1 rfl
  have cconfidence_2 : w2.cell? ⟨w.heap.size + 1, 2, none⟩ = some (.slice Ahu Nhu Chu) := Blconfidence.at 2 rfl
  have Lconfidence : w.heap.size + 1 < w2.heap.size := Blconfidence.lt
  go_wp2_with fail
  clear cconfidence_0 cconfidence_1 cconfidence_2 Lconfidence
  with_reducible refine (r8_Chance _ _ _ hu (SzQ.mid su) rfl).mono ?_
  rintro e w3 ⟨rfl, hb⟩
  replace hs := bStep hs hb
  replace Blc := Blc.mono hb
  replace Blconfidence := Blconfidence.mono hb
  replace Blk := Blk.mono hb
  replace hu := hu.mono hb
  clear hb
  obtain ⟨b1, Hb1⟩ : ∃ b : Bool, b = decide (0 ≤ u ∧ u ≤ 1) := ⟨_, rfl⟩
  rw [← Hb1]
  replace Hb1 := Lib.hid Hb1
  have q2 : 0 ≤ u ∧ u ≤ 1 := HU.out
  obtain rfl : b1 = true := by rw [Hb1.out]; exact decide_eq_true q2
  have q2H := Lib.hid q2
  clear q2
  have q3 : f = 0 := HF.out
  have q3b : ((f : Int) == 0) = true := beq_iff_eq.2 (by omega)
  have q3n : ((f : Int) != 0) = false := bne_eq_false_iff_eq.2 (by omega)
  have q3H := Lib.hid q3
  clear q3
  have cc_0 : w3.cell? ⟨w.heap.size, 0, none⟩ = some (.int .i64 ((n : Int))) := Blc.at 0 rfl
  have cc_1 : w3.cell? ⟨w.heap.size, 1, none⟩ = some (.int .i64 ((f : Int))) := Blc.at 1 rfl
  have Lc : w.heap.size < w3.heap.size := Blc.lt
  go_wp2_with fail
  clear cc_0 cc_1 Lc
  with_reducible refine (r_zero _).mono ?_
  rintro e w4 ⟨_, rfl, h4, hb⟩
  obtain ⟨sh4, ah4, nh4, ch4, Ah4, Nh4, Ch4, rfl⟩ := h4.shape
  replace hs := bStep hs hb
  replace Blc := Blc.mono hb
  replace Blconfidence := Blconfidence.mono hb
  replace Blk := Blk.mono hb
  replace hu := hu.mono hb
  clear hb
  go_wp2_with fail
  with_reducible refine (r_Only _ _ _ h4).mono ?_
  rintro e w5 ⟨_, rfl, h5, hb⟩
  obtain ⟨sh5a, ah5a, nh5a, ch5a, Ah5a, Nh5a, Ch5a, sh5b, ah5b, nh5b, ch5b, Ah5b, Nh5b, Ch5b, rfl, h5a, h5b⟩ := h5.shape
  replace hs := bStep hs hb
  replace Blc := Blc.mono hb
  replace Blconfidence := Blconfidence.mono hb
  replace Blk := Blk.mono hb
  replace hu := hu.mono hb
  replace h4 := h4.mono hb
  clear hb
  have ck_0 : w5.cell? ⟨w.heap.size + 1 + 1, 0, none⟩ = some (.bool false) := Blk.at 0 rfl
  have ck_1 : w5.cell? ⟨w.heap.size + 1 + 1, 1, none⟩ = some (.slice none 0 0) := Blk.at 1 rfl
  have ck_2 : w5.cell? ⟨w.heap.size + 1 + 1, 2, none⟩ = some (.slice none 0 0) := Blk.at 2 rfl
  have ck_3 : w5.cell? ⟨w.heap.size + 1 + 1, 3, none⟩ = some (.bool false) := Blk.at 3 rfl
  have ck_4 : w5.cell? ⟨w.heap.size + 1 + 1, 4, none⟩ = some (.slice none 0 0) := Blk.at 4 rfl
  have ck_5 : w5.cell? ⟨w.heap.size + 1 + 1, 5, none⟩ = some (.slice none 0 0) := Blk.at 5 rfl
  have fk := Blk.free
  have Lk : w.heap.size + 1 + 1 < w5.heap.size := Blk.lt
  go_wp2
  clear ck_0 ck_1 ck_2 ck_3 ck_4 ck_5 fk Lk
  refine bodyPost.abs ?_
  intro w6 hW
  have hG : Gr [w.heap.size + 1 + 1] w5 w6 := by rw [hW]; exact (Gr.refl _ _).set.set.set.set.set.set
  have hsz := hs.size
  have lk := Blk.lt
  have hbw : Below w.heap.size w5 w6 := hG.below1 hs.size (by first | omega | assumption)
  have hk : KeepD w5 w6 := hG.keep ⟨⟨_, Blk.ty, by decide⟩, True.intro⟩
  have Bl1k : Bx w6 (w.heap.size + 1 + 1) 63 #[.bool sh5a, .slice ah5a nh5a ch5a, .slice Ah5a Nh5a Ch5a, .bool sh5b, .slice ah5b nh5b ch5b, .slice Ah5b Nh5b Ch5b] := by rw [hW]; exact Blk.set6
  replace hs := hs.trans hbw
  replace Blc := hG.bx Blc (notMem1 (by omega))
  replace Blconfidence := hG.bx Blconfidence (notMem1 (by omega))
  replace Blk := Bl1k
  clear Bl1k
  replace hu := hu.keep hk
  replace h4 := h4.keep hk
  replace h5a := h5a.keep hk
  replace h5b := h5b.keep hk
  clear hW hG hk hbw hsz lk
  have ck_0 : w6.cell? ⟨w.heap.size + 1 + 1, 0, none⟩ = some (.bool sh5a) := Blk.at 0 rfl
  have ck_1 : w6.cell? ⟨w.heap.size + 1 + 1, 1, none⟩ = some (.slice ah5a nh5a ch5a) := Blk.at 1 rfl
  have ck_2 : w6.cell? ⟨w.heap.size + 1 + 1, 2, none⟩ = some (.slice Ah5a Nh5a Ch5a) := Blk.at 2 rfl
  have ck_3 : w6.cell? ⟨w.heap.size + 1 + 1, 3, none⟩ = some (.bool sh5b) := Blk.at 3 rfl
  have ck_4 : w6.cell? ⟨w.heap.size + 1 + 1, 4, none⟩ = some (.slice ah5b nh5b ch5b) := Blk.at 4 rfl
  have ck_5 : w6.cell? ⟨w.heap.size + 1 + 1, 5, none⟩ = some (.slice Ah5b Nh5b Ch5b) := Blk.at 5 rfl
  exact bodyPost_ret (v := .tuple #[.agg #[.bool sh5a, .slice ah5a nh5a ch5a, .slice Ah5a Nh5a Ch5a, .bool sh5b, .slice ah5b nh5b ch5b, .slice Ah5b Nh5b Ch5b], .int .i64 0]) (by simp [results, Tryz.results28, go_sem, ck_0, ck_1, ck_2, ck_3, ck_4, ck_5]) rfl ⟨_, _, rfl, (RV2.mk h5a h5b), rfl, hs⟩

set_option maxRecDepth 100000 in
set_option maxHeartbeats 16000000 in
theorem r8_Det_sure {v : Value} {u : Rat} {n f : Nat} (k : Int) (w : World) (h1 : 1 ≤ n) (h2 : n ≤ 64) (h3 : f ≤ n) (hu : RV w v u) (su : SzQ 1 u) (u0 : 0 ≤ u) (u1 : u ≤ 1) (hf : ¬ f = 0) (hz : u = 0) :
    Calls Tryz.prog 28 #[.agg #[.int .i64 n, .int .i64 f], v, .int .i64 k] w (Ret2 (fun w v => RV2 w v (1) (1)) (fun _ v => v = .int .i64 0) w) := by
  obtain ⟨shu, ahu, nhu, chu, Ahu, Nhu, Chu, rfl⟩ := hu.shape
  have hs := Below.refl w.heap.size w
  have HU := Lib.hid (And.intro u0 u1)
  clear u0 u1
  have HF := Lib.hid hf
  have HZ := Lib.hid hz
  clear hz
  go_enter Tryz.func28, Tryz.ntmps28
  go_wp2_with fail
  refine Calls.abs ?_
  intro w1 hW
  have hG : Gr [] w w1 := by rw [hW]; exact (Gr.refl _ _).alloc.alloc.alloc
  have hbw : Below w.heap.size w w1 := hG.below0 hs.size
  have hk : KeepD w w1 := hG.keep True.intro
  have sz_w1 : w.heap.size ≤ w.heap.size := hs.size
  have Blc : Bx w1 (w.heap.size) 66 #[.int .i64 ((n : Int)), .int .i64 ((f : Int))] := by rw [hW]; exact (((Bx.new0 _ _ _).alloc _).alloc _)
  have Blconfidence : Bx w1 (w.heap.size + 1) 36 #[.bool shu, .slice ahu nhu chu, .slice Ahu Nhu Chu] := by rw [hW]; exact ((Bx.new0 _ _ _).alloc _)
  have Blk : Bx w1 (w.heap.size + 1 + 1) 63 #[.bool false, .slice none 0 0, .slice none 0 0, .bool false, .slice none 0 0, .slice none 0 0] := by rw [hW]; exact (Bx.new0 _ _ _)
  replace hs := hs.trans hbw
  replace hu := hu.keep hk
  clear hW hG hk hbw
  have hz_w1 : w.heap.size + 1 + 1 < w1.heap.size := Blk.lt
  with_reducible refine (r8_One_0 _ (by omega) (by omega) (by omega) (by omega)).mono ?_
  rintro e w2 ⟨rfl, hb⟩
  replace hs := bStep hs hb
  replace Blc := Blc.mono hb
  replace Blconfidence := Blconfidence.mono hb
  replace Blk := Blk.mono hb
  replace hu := hu.mono hb
  clear hb
  have cconfidence_0 : w2.cell? ⟨w.heap.size + 1, 0, none⟩ = some (.bool shu) := Blconfidence.at 0 rfl
  have cconfidence_1 : w2.cell? ⟨w.heap.size + 1, 1, none⟩ = some (.slice ahu nhu chu) := Blconfidence.at 1 rfl
  have cconfidence_2 : w2.cell? ⟨w.heap.size + 1, 2, none⟩ = some (.slice Ahu Nhu Chu) := Blconfidence.at 2 rfl
  have Lconfidence : w.heap.size + 1 < w2.heap.size := Blconfidence.lt
  go_wp2_with fail
  clear cconfidence_0 cconfidence_1 cconfidence_2 Lconfidence
  with_reducible refine (r8_Chance _ _ _ hu (SzQ.mid su) rfl).mono ?_
  rintro e w3 ⟨rfl, hb⟩
  replace hs := bStep hs hb
  replace Blc := Blc.mono hb
  replace Blconfidence := Blconfidence.mono hb
  replace Blk := Blk.mono hb
  replace hu := hu.mono hb
  clear hb
  obtain ⟨b1, Hb1⟩ : ∃ b : Bool, b = decide (0 ≤ u ∧ u ≤ 1) := ⟨_, rfl⟩
  rw [← Hb1]
  replace Hb1 := Lib.hid Hb1
  have q2 : 0 ≤ u ∧ u ≤ 1 := HU.out
  obtain rfl : b1 = true := by rw [Hb1.out]; exact decide_eq_true q2
  have q2H := Lib.hid q2
  clear q2
  have q3 : ¬ (f = 0) := HF.out
  have q3b : ((f : Int) == 0) = false := beq_eq_false_iff_ne.2 (by omega)
  have q3n : ((f : Int) != 0) = true := bne_iff_ne.2 (by omega)
  have q3H := Lib.hid q3
  clear q3
  have cc_0 : w3.cell? ⟨w.heap.size, 0, none⟩ = some (.int .i64 ((n : Int))) := Blc.at 0 rfl
  have cc_1 : w3.cell? ⟨w.heap.size, 1, none⟩ = some (.int .i64 ((f : Int))) := Blc.at 1 rfl
  have Lc : w.heap.size < w3.heap.size := Blc.lt
  have cconfidence_0 : w3.cell? ⟨w.heap.size + 1, 0, none⟩ = some (.bool shu) := Blconfidence.at 0 rfl
  have cconfidence_1 : w3.cell? ⟨w.heap.size + 1, 1, none⟩ = some (.slice ahu nhu chu) := Blconfidence.at 1 rfl
  have cconfidence_2 : w3.cell? ⟨w.heap.size + 1, 2, none⟩ = some (.slice Ahu Nhu Chu) := Blconfidence.at 2 rfl
  have Lconfidence : w.heap.size + 1 < w3.heap.size := Blconfidence.lt
  go_wp2_with fail
  clear cc_0 cc_1 cconfidence_0 cconfidence_1 cconfidence_2 Lc Lconfidence
  with_reducible refine (r_Zero_calls _ _ _ hu).mono ?_
  rintro e w4 ⟨rfl, hb⟩
  replace hs := bStep hs hb
  replace Blc := Blc.mono hb
  replace Blconfidence := Blconfidence.mono hb
  replace Blk := Blk.mono hb
  replace hu := hu.mono hb
  clear hb
  obtain ⟨b4, Hb4⟩ : ∃ b : Bool, b = decide (u = 0) := ⟨_, rfl⟩
  rw [← Hb4]
  replace Hb4 := Lib.hid Hb4
  have q5 : u = 0 := HZ.out
  obtain rfl : b4 = true := by rw [Hb4.out]; exact decide_eq_true q5
  have q5H := Lib.hid q5
  clear q5
  go_wp2_with fail
  with_reducible refine (r_one _).mono ?_
  rintro e w5 ⟨_, rfl, h6, hb⟩
  obtain ⟨sh6, ah6, nh6, ch6, Ah6, Nh6, Ch6, rfl⟩ := h6.shape
  replace hs := bStep hs hb
  replace Blc := Blc.mono hb
  replace Blconfidence := Blconfidence.mono hb
  replace Blk := Blk.mono hb
  replace hu := hu.mono hb
  clear hb
  go_wp2_with fail
  with_reducible refine (r_Only _ _ _ h6).mono ?_
  rintro e w6 ⟨_, rfl, h7, hb⟩
  obtain ⟨sh7a, ah7a, nh7a, ch7a, Ah7a, Nh7a, Ch7a, sh7b, ah7b, nh7b, ch7b, Ah7b, Nh7b, Ch7b, rfl, h7a, h7b⟩ := h7.shape
  replace hs := bStep hs hb
  replace Blc := Blc.mono hb
  replace Blconfidence := Blconfidence.mono hb
  replace Blk := Blk.mono hb
  replace hu := hu.mono hb
  replace h6 := h6.mono hb
  clear hb
  have ck_0 : w6.cell? ⟨w.heap.size + 1 + 1, 0, none⟩ = some (.bool false) := Blk.at 0 rfl
  have ck_1 : w6.cell? ⟨w.heap.size + 1 + 1, 1, none⟩ = some (.slice none 0 0) := Blk.at 1 rfl
  have ck_2 : w6.cell? ⟨w.heap.size + 1 + 1, 2, none⟩ = some (.slice none 0 0) := Blk.at 2 rfl
  have ck_3 : w6.cell? ⟨w.heap.size + 1 + 1, 3, none⟩ = some (.bool false) := Blk.at 3 rfl
  have ck_4 : w6.cell? ⟨w.heap.size + 1 + 1, 4, none⟩ = some (.slice none 0 0) := Blk.at 4 rfl
  have ck_5 : w6.cell? ⟨w.heap.size + 1 + 1, 5, none⟩ = some (.slice none 0 0) := Blk.at 5 rfl
  have fk := Blk.free
  have Lk : w.heap.size + 1 + 1 < w6.heap.size := Blk.lt
  go_wp2
  clear ck_0 ck_1 ck_2 ck_3 ck_4 ck_5 fk Lk
  refine bodyPost.abs ?_
  intro w7 hW
  have hG : Gr [w.heap.size + 1 + 1] w6 w7 := by rw [hW]; exact (Gr.refl _ _).set.set.set.set.set.set
  have hsz := hs.size
  have lk := Blk.lt
  have hbw : Below w.heap.size w6 w7 := hG.below1 hs.size (by first | omega | assumption)
  have hk : KeepD w6 w7 := hG.keep ⟨⟨_, Blk.ty, by decide⟩, True.intro⟩
  have Bl1k : Bx w7 (w.heap.size + 1 + 1) 63 #[.bool sh7a, .slice ah7a nh7a ch7a, .slice Ah7a Nh7a Ch7a, .bool sh7b, .slice ah7b nh7b ch7b, .slice Ah7b Nh7b Ch7b] := by rw [hW]; exact Blk.set6
  replace hs := hs.trans hbw
  replace Blc := hG.bx Blc (notMem1 (by omega))
  replace Blconfidence := hG.bx Blconfidence (notMem1 (by omega))
  replace Blk := Bl1k
  clear Bl1k
  replace hu := hu.keep hk
  replace h6 := h6.keep hk
  replace h7a := h7a.keep hk
  replace h7b := h7b.keep hk
  clear hW hG hk hbw hsz lk
  have ck_0 : w7.cell? ⟨w.heap.size + 1 + 1, 0, none⟩ = some (.bool sh7a) := Blk.at 0 rfl
  have ck_1 : w7.cell? ⟨w.heap.size + 1 + 1, 1, none⟩ = some (.slice ah7a nh7a ch7a) := Blk.at 1 rfl
  have ck_2 : w7.cell? ⟨w.heap.size + 1 + 1, 2, none⟩ = some (.slice Ah7a Nh7a Ch7a) := Blk.at 2 rfl
  have ck_3 : w7.cell? ⟨w.heap.size + 1 + 1, 3, none⟩ = some (.bool sh7b) := Blk.at 3 rfl
  have ck_4 : w7.cell? ⟨w.heap.size + 1 + 1, 4, none⟩ = some (.slice ah7b nh7b ch7b) := Blk.at 4 rfl
  have ck_5 : w7.cell? ⟨w.heap.size + 1 + 1, 5, none⟩ = some (.slice Ah7b Nh7b Ch7b) := Blk.at 5 rfl
  exact bodyPost_ret (v := .tuple #[.agg #[.bool sh7a, .slice ah7a nh7a ch7a, .slice Ah7a Nh7a Ch7a, .bool sh7b, .slice ah7b nh7b ch7b, .slice Ah7b Nh7b Ch7b], .int .i64 0]) (by simp [results, Tryz.results28, go_sem, ck_0, ck_1, ck_2, ck_3, ck_4, ck_5]) rfl ⟨_, _, rfl, (RV2.mk h7a h7b), rfl, hs⟩

set_option maxRecDepth 100000 in
set_option maxHeartbeats 16000000 in
theorem r8_Det_ok {v : Value} {u : Rat} {n f : Nat} (k : Int) (w : World) (h1 : 1 ≤ n) (h2 : n ≤ 64) (h3 : f ≤ n) (hu : RV w v u) (su : SzQ 1 u) (u0 : 0 ≤ u) (u1 : u ≤ 1) (hf : ¬ f = 0) (hz : ¬ u = 0) (hk : k ≤ 20) {S D : Nat} (hS : (2 : Int) ^ (min (max k 0) 20).toNat = (S : Int)) (hS0 : 0 < S) (hS1 : S ≤ 2000000) (hD : detQ n f u S = D) :
    Calls Tryz.prog 28 #[.agg #[.int .i64 n, .int .i64 f], v, .int .i64 k] w (Ret2 (fun w v => RV2 w v (atQs S D) (atQs S (D + 1))) (fun _ v => v = .int .i64 0) w) := by
  obtain ⟨shu, ahu, nhu, chu, Ahu, Nhu, Chu, rfl⟩ := hu.shape
  have hs := Below.refl w.heap.size w
  have HU := Lib.hid (And.intro u0 u1)
  clear u0 u1
  have HF := Lib.hid hf
  have HZ := Lib.hid hz
  have HD := Lib.hid (show bisQ (fun i => prvQ n f u (atQs S i)) 0 S = D from hD)
  clear hz hD
  go_enter Tryz.func28, Tryz.ntmps28
  go_wp2_with fail
  refine Calls.abs ?_
  intro w1 hW
  have hG : Gr [] w w1 := by rw [hW]; exact (Gr.refl _ _).alloc.alloc.alloc
  have hbw : Below w.heap.size w w1 := hG.below0 hs.size
  have hk : KeepD w w1 := hG.keep True.intro
  have sz_w1 : w.heap.size ≤ w.heap.size := hs.size
  have Blc : Bx w1 (w.heap.size) 66 #[.int .i64 ((n : Int)), .int .i64 ((f : Int))] := by rw [hW]; exact (((Bx.new0 _ _ _).alloc _).alloc _)
  have Blconfidence : Bx w1 (w.heap.size + 1) 36 #[.bool shu, .slice ahu nhu chu, .slice Ahu Nhu Chu] := by rw [hW]; exact ((Bx.new0 _ _ _).alloc _)
  have Blk : Bx w1 (w.heap.size + 1 + 1) 63 #[.bool false, .slice none 0 0, .slice none 0 0, .bool false, .slice none 0 0, .slice none 0 0] := by rw [hW]; exact (Bx.new0 _ _ _)
  replace hs := hs.trans hbw
  replace hu := hu.keep hk
  clear hW hG hk hbw
  have hz_w1 : w.heap.size + 1 + 1 < w1.heap.size := Blk.lt
  with_reducible refine (r8_One_0 _ (by omega) (by omega) (by omega) (by omega)).mono ?_
  rintro e w2 ⟨rfl, hb⟩
  replace hs := bStep hs hb
  replace Blc := Blc.mono hb
  replace Blconfidence := Blconfidence.mono hb
  replace Blk := Blk.mono hb
  replace hu := hu.mono hb
  clear hb
  have cconfidence_0 : w2.cell? ⟨w.heap.size + 1, 0, none⟩ = some (.bool shu) := Blconfidence.at 0 rfl
  have cconfidence_1 : w2.cell? ⟨w.heap.size + 1, 1, none⟩ = some (.slice ahu nhu chu) := Blconfidence.at 1 rfl
  have cconfidence_2 : w2.cell? ⟨w.heap.size + 1, 2, none⟩ = some (.slice Ahu Nhu Chu) := Blconfidence.at 2 rfl
  have Lconfidence : w.heap.size + 1 < w2.heap.size := Blconfidence.lt
  go_wp2_with fail
  clear cconfidence_0 cconfidence_1 cconfidence_2 Lconfidence
  with_reducible refine (r8_Chance _ _ _ hu (SzQ.mid su) rfl).mono ?_
  rintro e w3 ⟨rfl, hb⟩
  replace hs := bStep hs hb
  replace Blc := Blc.mono hb
  replace Blconfidence := Blconfidence.mono hb
  replace Blk := Blk.mono hb
  replace hu := hu.mono hb
  clear hb
  obtain ⟨b1, Hb1⟩ : ∃ b : Bool, b = decide (0 ≤ u ∧ u ≤ 1) := ⟨_, rfl⟩
  rw [← Hb1]
  replace Hb1 := Lib.hid Hb1
  have q2 : 0 ≤ u ∧ u ≤ 1 := HU.out
  obtain rfl : b1 = true := by rw [Hb1.out]; exact decide_eq_true q2
  have q2H := Lib.hid q2
  clear q2
  have q3 : ¬ (f = 0) := HF.out
  have q3b : ((f : Int) == 0) = false := beq_eq_false_iff_ne.2 (by omega)
  have q3n : ((f : Int) != 0) = true := bne_iff_ne.2 (by omega)
  have q3H := Lib.hid q3
  clear q3
  have cc_0 : w3.cell? ⟨w.heap.size, 0, none⟩ = some (.int .i64 ((n : Int))) := Blc.at 0 rfl
  have cc_1 : w3.cell? ⟨w.heap.size, 1, none⟩ = some (.int .i64 ((f : Int))) := Blc.at 1 rfl
  have Lc : w.heap.size < w3.heap.size := Blc.lt
  have cconfidence_0 : w3.cell? ⟨w.heap.size + 1, 0, none⟩ = some (.bool shu) := Blconfidence.at 0 rfl
  have cconfidence_1 : w3.cell? ⟨w.heap.size + 1, 1, none⟩ = some (.slice ahu nhu chu) := Blconfidence.at 1 rfl
  have cconfidence_2 : w3.cell? ⟨w.heap.size + 1, 2, none⟩ = some (.slice Ahu Nhu Chu) := Blconfidence.at 2 rfl
  have Lconfidence : w.heap.size + 1 < w3.heap.size := Blconfidence.lt
  go_wp2_with fail
  clear cc_0 cc_1 cconfidence_0 cconfidence_1 cconfidence_2 Lc Lconfidence
  with_reducible refine (r_Zero_calls _ _ _ hu).mono ?_
  rintro e w4 ⟨rfl, hb⟩
  replace hs := bStep hs hb
  replace Blc := Blc.mono hb
  replace Blconfidence := Blconfidence.mono hb
  replace Blk := Blk.mono hb
  replace hu := hu.mono hb
  clear hb
  obtain ⟨b4, Hb4⟩ : ∃ b : Bool, b = decide (u = 0) := ⟨_, rfl⟩
  rw [← Hb4]
  replace Hb4 := Lib.hid Hb4
  have q5 : ¬ (u = 0) := HZ.out
  obtain rfl : b4 = false := by rw [Hb4.out]; exact decide_eq_false q5
  have q5H := Lib.hid q5
  clear q5
  go_wp2
  go_loopw [10, 11] (fun s10 s11 wq => ∃ lo hi : Nat, lo < hi ∧ hi ≤ S ∧ s10 = .int .i64 lo ∧ s11 = .int .i64 hi ∧ Hid (bisQ (fun i => prvQ n f u (atQs S i)) lo hi = D) ∧ Below w.heap.size w wq ∧ Bx wq (w.heap.size) 66 #[.int .i64 ((n : Int)), .int .i64 ((f : Int))] ∧ Bx wq (w.heap.size + 1) 36 #[.bool shu, .slice ahu nhu chu, .slice Ahu Nhu Chu] ∧ Bx wq (w.heap.size + 1 + 1) 63 #[.bool false, .slice none 0 0, .slice none 0 0, .bool false, .slice none 0 0, .slice none 0 0] ∧ RV wq (.agg #[.bool shu, .slice ahu nhu chu, .slice Ahu Nhu Chu]) (u)) (fun s10 s11 _ => (intOf s11).toNat - (intOf s10).toNat)
  case atStart => exact ⟨0, S, by omega, Nat.le_refl _, rfl, rfl, HD, hs, Blc, Blconfidence, Blk, hu⟩
  case round =>
    clear Blc Blconfidence Blk hu hs HD
    obtain ⟨lo, hi, lo_lt, hi_le, rfl, rfl, HI, hs, Blc, Blconfidence, Blk, hu⟩ := hrel
    by_cases q6 : 1 < (hi : Int) - (lo : Int)
    · have q6d : ((1 : Int) < (hi : Int) - (lo : Int)) = True := eq_true (by omega)
      obtain ⟨md, hmd⟩ : ∃ md : Nat, md = (lo + hi) / 2 := ⟨_, rfl⟩
      have md0 : lo < md := by omega
      have md1 : md < hi := by omega
      have md2 : (md : Int) = ((lo : Int) + (hi : Int)) / 2 := by omega
      replace hmd := Lib.hid hmd
      replace md2 := Lib.hid md2
      go_upto_region 15 with fail
      obtain ⟨b8, Hb8⟩ : ∃ b : Bool, b = prvQ n f u (atQs S md) := ⟨_, rfl⟩
      replace Hb8 := Lib.hid Hb8
      refine U_region (S := fun w' => w'.cell? ⟨w.heap.size, 0, none⟩ = some (.int .i64 ((n : Int))) ∧ w'.cell? ⟨w.heap.size, 1, none⟩ = some (.int .i64 ((f : Int))) ∧ w'.cell? ⟨w.heap.size + 1, 0, none⟩ = some (.bool shu) ∧ w'.cell? ⟨w.heap.size + 1, 1, none⟩ = some (.slice ahu nhu chu) ∧ w'.cell? ⟨w.heap.size + 1, 2, none⟩ = some (.slice Ahu Nhu Chu)) (by kernel_rfl) 6 ?_
      refine AnyU.abs ?_
      intro w25 hW
      have hb : Below wr.heap.size wr w25 := by rw [hW]; exact bDrew _
      replace hs := bStep hs hb
      replace Blc := Blc.mono hb
      replace Blconfidence := Blconfidence.mono hb
      replace Blk := Blk.mono hb
      replace hu := hu.mono hb
      clear hb hW
      have cc_0 : w25.cell? ⟨w.heap.size, 0, none⟩ = some (.int .i64 ((n : Int))) := Blc.at 0 rfl
      have cc_1 : w25.cell? ⟨w.heap.size, 1, none⟩ = some (.int .i64 ((f : Int))) := Blc.at 1 rfl
      have cconfidence_0 : w25.cell? ⟨w.heap.size + 1, 0, none⟩ = some (.bool shu) := Blconfidence.at 0 rfl
      have cconfidence_1 : w25.cell? ⟨w.heap.size + 1, 1, none⟩ = some (.slice ahu nhu chu) := Blconfidence.at 1 rfl
      have cconfidence_2 : w25.cell? ⟨w.heap.size + 1, 2, none⟩ = some (.slice Ahu Nhu Chu) := Blconfidence.at 2 rfl
      have hH := (show w25.cell? ⟨w.heap.size, 0, none⟩ = some (.int .i64 ((n : Int))) ∧ w25.cell? ⟨w.heap.size, 1, none⟩ = some (.int .i64 ((f : Int))) ∧ w25.cell? ⟨w.heap.size + 1, 0, none⟩ = some (.bool shu) ∧ w25.cell? ⟨w.heap.size + 1, 1, none⟩ = some (.slice ahu nhu chu) ∧ w25.cell? ⟨w.heap.size + 1, 2, none⟩ = some (.slice Ahu Nhu Chu) from ⟨cc_0, cc_1, cconfidence_0, cconfidence_1, cconfidence_2⟩)
      refine U_takeN (i := 0) (d := 48) (v := ?_) rfl rfl rfl (by kernel_rfl) (by kernel_rfl) (by kernel_rfl) (fun _ _ _ h => h) (Or.inl ⟨by rfl, ?_⟩) hH ?_
      rotate_left
      · intro w hSw
        try dsimp only at hSw
        go_simp
        try with_reducible rfl
      simp only [LY]
      refine U_takeN (i := 1) (d := 49) (v := ?_) rfl rfl rfl (by kernel_rfl) (by kernel_rfl) (by kernel_rfl) (fun _ _ _ h => h) (Or.inl ⟨by rfl, ?_⟩) hH ?_
      rotate_left
      · intro w hSw
        try dsimp only at hSw
        go_simp
        try with_reducible rfl
      simp only [LY]
      refine U_takeN (i := 2) (d := 50) (v := ?_) rfl rfl rfl (by kernel_rfl) (by kernel_rfl) (by kernel_rfl) (fun _ _ _ h => h) (Or.inl ⟨by rfl, ?_⟩) hH ?_
      rotate_left
      · intro w hSw
        try dsimp only at hSw
        go_simp
        try with_reducible rfl
      simp only [LY]
      refine U_takeN (i := 4) (d := 52) (v := ?_) rfl rfl rfl (by kernel_rfl) (by kernel_rfl) (by kernel_rfl) (fun _ _ _ h => h) (Or.inl ⟨by rfl, ?_⟩) hH ?_
      rotate_left
      · intro w hSw
        try dsimp only at hSw
        go_simp
        try with_reducible rfl
      simp only [LY]
      clear hH
      refine U_one (i := 3) (by kernel_rfl) rfl (fun K hK => ?_)
      go_simp
      (with_reducible refine (r8_part (i := md) _ md2.out.symm (by omega) (by omega) (by omega)).mono ?_)
      rintro e w26 ⟨_, rfl, h7, hb⟩
      obtain ⟨sh7, ah7, nh7, ch7, Ah7, Nh7, Ch7, rfl⟩ := h7.shape
      replace hs := bStep hs hb
      replace Blc := Blc.mono hb
      replace Blconfidence := Blconfidence.mono hb
      replace Blk := Blk.mono hb
      replace hu := hu.mono hb
      replace cc_0 := cellK cc_0 hb
      replace cc_1 := cellK cc_1 hb
      replace cconfidence_0 := cellK cconfidence_0 hb
      replace cconfidence_1 := cellK cconfidence_1 hb
      replace cconfidence_2 := cellK cconfidence_2 hb
      clear hb
      try go_wp2_with fail
      refine hK.out _ _ ⟨cc_0, cc_1, cconfidence_0, cconfidence_1, cconfidence_2⟩ (fun hH => ?_)
      clear hK K
      try simp only [LY]
      clear hH
      refine U_one (i := 5) (by kernel_rfl) rfl (fun K hK => ?_)
      go_simp
      (with_reducible refine (r8_sure _ (by omega) (by omega) h7 (atQs_sz (s := S) (i := md) (by omega) (by omega) (by omega)) (atQs_bd (s := S) (i := md) (by omega) (by omega)).1 (atQs_bd (s := S) (i := md) (by omega) (by omega)).2 hu su Hb8.out.symm).mono ?_)
      rintro e w27 ⟨rfl, hb⟩
      replace hs := bStep hs hb
      replace Blc := Blc.mono hb
      replace Blconfidence := Blconfidence.mono hb
      replace Blk := Blk.mono hb
      replace hu := hu.mono hb
      replace h7 := h7.mono hb
      replace cc_0 := cellK cc_0 hb
      replace cc_1 := cellK cc_1 hb
      replace cconfidence_0 := cellK cconfidence_0 hb
      replace cconfidence_1 := cellK cconfidence_1 hb
      replace cconfidence_2 := cellK cconfidence_2 hb
      clear hb
      try go_wp2_with fail
      refine hK.out _ _ ⟨cc_0, cc_1, cconfidence_0, cconfidence_1, cconfidence_2⟩ (fun hH => ?_)
      clear hK K
      try simp only [LY]
      clear hH
      refine U_endN (by kernel_rfl) ?_
      clear cc_0 cc_1 cconfidence_0 cconfidence_1 cconfidence_2
      by_cases q9 : prvQ n f u (atQs S md) = true
      · obtain rfl : b8 = true := by rw [Hb8.out]; exact q9
        have q9H := Lib.hid q9
        clear q9
        go_wp2
        go_roundw
        case rel => exact ⟨md, hi, by omega, by omega, congrArg _ md2.out.symm, rfl, Lib.hid ((bisQ_yes' (P := (fun i => prvQ n f u (atQs S i))) hmd.out (by omega) (show prvQ n f u (atQs S md) = true from q9H.out)).symm.trans HI.out), hs, Blc, Blconfidence, Blk, hu⟩
        all_goals first | (have := md2.out; simp [intOf]; done) | (have := md2.out; simp [intOf]; omega)
      · obtain rfl : b8 = false := by rw [Hb8.out]; simpa using q9
        have q9H := Lib.hid q9
        clear q9
        go_wp2
        go_roundw
        case rel => exact ⟨lo, md, by omega, by omega, rfl, congrArg _ md2.out.symm, Lib.hid ((bisQ_no' (P := (fun i => prvQ n f u (atQs S i))) hmd.out (by omega) (show prvQ n f u (atQs S md) = false from (by simpa using q9H.out))).symm.trans HI.out), hs, Blc, Blconfidence, Blk, hu⟩
        all_goals first | (have := md2.out; simp [intOf]; done) | (have := md2.out; simp [intOf]; omega)
    · have q6d : ((1 : Int) < (hi : Int) - (lo : Int)) = False := eq_false (by omega)
      have HE := Lib.hid ((bisQ_end (P := (fun i => prvQ n f u (atQs S i))) (show hi ≤ lo + 1 by omega)).symm.trans HI.out)
      go_wp2_with fail
      with_reducible refine (r8_part (i := lo) _ (by omega) (by omega) (by omega) (by omega)).mono ?_
      rintro e w25 ⟨_, rfl, h7, hb⟩
      obtain ⟨sh7, ah7, nh7, ch7, Ah7, Nh7, Ch7, rfl⟩ := h7.shape
      replace hs := bStep hs hb
      replace Blc := Blc.mono hb
      replace Blconfidence := Blconfidence.mono hb
      replace Blk := Blk.mono hb
      replace hu := hu.mono hb
      clear hb
      go_wp2_with fail
      with_reducible refine (r8_part (i := (lo + 1)) _ (by omega) (by omega) (by omega) (by omega)).mono ?_
      rintro e w26 ⟨_, rfl, h8, hb⟩
      obtain ⟨sh8, ah8, nh8, ch8, Ah8, Nh8, Ch8, rfl⟩ := h8.shape
      replace hs := bStep hs hb
      replace Blc := Blc.mono hb
      replace Blconfidence := Blconfidence.mono hb
      replace Blk := Blk.mono hb
      replace hu := hu.mono hb
      replace h7 := h7.mono hb
      clear hb
      have ck_0 : w26.cell? ⟨w.heap.size + 1 + 1, 0, none⟩ = some (.bool false) := Blk.at 0 rfl
      have ck_1 : w26.cell? ⟨w.heap.size + 1 + 1, 1, none⟩ = some (.slice none 0 0) := Blk.at 1 rfl
      have ck_2 : w26.cell? ⟨w.heap.size + 1 + 1, 2, none⟩ = some (.slice none 0 0) := Blk.at 2 rfl
      have ck_3 : w26.cell? ⟨w.heap.size + 1 + 1, 3, none⟩ = some (.bool false) := Blk.at 3 rfl
      have ck_4 : w26.cell? ⟨w.heap.size + 1 + 1, 4, none⟩ = some (.slice none 0 0) := Blk.at 4 rfl
      have ck_5 : w26.cell? ⟨w.heap.size + 1 + 1, 5, none⟩ = some (.slice none 0 0) := Blk.at 5 rfl
      have fk := Blk.free
      have Lk : w.heap.size + 1 + 1 < w26.heap.size := Blk.lt
      go_wp2
      clear ck_0 ck_1 ck_2 ck_3 ck_4 ck_5 fk Lk
      refine bodyPost.abs ?_
      intro w27 hW
      have hG : Gr [w.heap.size + 1 + 1] w26 w27 := by rw [hW]; exact (Gr.refl _ _).set.set.set.set.set.set
      have hsz := hs.size
      have lk := Blk.lt
      have hbw : Below w.heap.size w26 w27 := hG.below1 hs.size (by first | omega | assumption)
      have hk : KeepD w26 w27 := hG.keep ⟨⟨_, Blk.ty, by decide⟩, True.intro⟩
      have Bl1k : Bx w27 (w.heap.size + 1 + 1) 63 #[.bool sh7, .slice ah7 nh7 ch7, .slice Ah7 Nh7 Ch7, .bool sh8, .slice ah8 nh8 ch8, .slice Ah8 Nh8 Ch8] := by rw [hW]; exact Blk.set6
      replace hs := hs.trans hbw
      replace Blc := hG.bx Blc (notMem1 (by omega))
      replace Blconfidence := hG.bx Blconfidence (notMem1 (by omega))
      replace Blk := Bl1k
      clear Bl1k
      replace hu := hu.keep hk
      replace h7 := h7.keep hk
      replace h8 := h8.keep hk
      clear hW hG hk hbw hsz lk
      have ck_0 : w27.cell? ⟨w.heap.size + 1 + 1, 0, none⟩ = some (.bool sh7) := Blk.at 0 rfl
      have ck_1 : w27.cell? ⟨w.heap.size + 1 + 1, 1, none⟩ = some (.slice ah7 nh7 ch7) := Blk.at 1 rfl
      have ck_2 : w27.cell? ⟨w.heap.size + 1 + 1, 2, none⟩ = some (.slice Ah7 Nh7 Ch7) := Blk.at 2 rfl
      have ck_3 : w27.cell? ⟨w.heap.size + 1 + 1, 3, none⟩ = some (.bool sh8) := Blk.at 3 rfl
      have ck_4 : w27.cell? ⟨w.heap.size + 1 + 1, 4, none⟩ = some (.slice ah8 nh8 ch8) := Blk.at 4 rfl
      have ck_5 : w27.cell? ⟨w.heap.size + 1 + 1, 5, none⟩ = some (.slice Ah8 Nh8 Ch8) := Blk.at 5 rfl
      exact bodyPost_ret (v := .tuple #[.agg #[.bool sh7, .slice ah7 nh7 ch7, .slice Ah7 Nh7 Ch7, .bool sh8, .slice ah8 nh8 ch8, .slice Ah8 Nh8 Ch8], .int .i64 0]) (by simp [results, Tryz.results28, go_sem, ck_0, ck_1, ck_2, ck_3, ck_4, ck_5]) rfl ⟨_, _, rfl, (RV2.mk (h7.of_eq (by rw [HE.out])) (h8.of_eq (by rw [HE.out]))), rfl, hs⟩

set_option maxRecDepth 100000 in
set_option maxHeartbeats 4000000 in
theorem al_Det_bad1 {v : Value} {u : Rat} {n f : Int} (k : Int) (w : World) (hu : PV w v u) (hw : n < 1 ∨ 64 < n ∨ f < 0 ∨ n < f) : Calls Tryz.prog 27 #[.agg #[.int .i64 n, .int .i64 f], v, .int .i64 k] w (Ret2 (fun w v => PV2 w v (0) (0)) (fun _ v => v = .int .i64 1) w) := by
  obtain ⟨shu, ahu, nhu, chu, Ahu, Nhu, Chu, rfl⟩ := hu.shape
  have HW := Lib.hid (if_pos hw : (if n < 1 ∨ 64 < n ∨ f < 0 ∨ n < f then (1 : Int) else 0) = 1)
  clear hw
  have hs := Below.refl w.heap.size w
  go_enter Tryz.func27, Tryz.ntmps27
  go_wp2_with fail
  refine Calls.abs ?_
  intro w1 hW
  have hG : Gr [] w w1 := by rw [hW]; exact (Gr.refl _ _).alloc.alloc.alloc
  have hbw : Below w.heap.size w w1 := hG.below0 hs.size
  have hk : KeepD w w1 := hG.keep True.intro
  have sz_w1 : w.heap.size ≤ w.heap.size := hs.size
  have Blc : Bx w1 (w.heap.size) 57 #[.int .i64 n, .int .i64 f] := by rw [hW]; exact (((Bx.new0 _ _ _).alloc _).alloc _)
  have Blconfidence : Bx w1 (w.heap.size + 1) 29 #[.bool shu, .slice ahu nhu chu, .slice Ahu Nhu Chu] := by rw [hW]; exact ((Bx.new0 _ _ _).alloc _)
  have Blk : Bx w1 (w.heap.size + 1 + 1) 59 #[.bool false, .slice none 0 0, .slice none 0 0, .bool false, .slice none 0 0, .slice none 0 0] := by rw [hW]; exact (Bx.new0 _ _ _)
  replace hs := hs.trans hbw
  replace hu := hu.keep hk
  clear hW hG hk hbw
  have hz_w1 : w.heap.size + 1 + 1 < w1.heap.size := Blk.lt
  with_reducible refine (cl_check_all _ HW.out).mono ?_
  rintro e w2 ⟨rfl, hb⟩
  replace hs := bStep hs hb
  replace Blc := Blc.mono hb
  replace Blconfidence := Blconfidence.mono hb
  replace Blk := Blk.mono hb
  replace hu := hu.mono hb
  clear hb
  have ck_0 : w2.cell? ⟨w.heap.size + 1 + 1, 0, none⟩ = some (.bool false) := Blk.at 0 rfl
  have ck_1 : w2.cell? ⟨w.heap.size + 1 + 1, 1, none⟩ = some (.slice none 0 0) := Blk.at 1 rfl
  have ck_2 : w2.cell? ⟨w.heap.size + 1 + 1, 2, none⟩ = some (.slice none 0 0) := Blk.at 2 rfl
  have ck_3 : w2.cell? ⟨w.heap.size + 1 + 1, 3, none⟩ = some (.bool false) := Blk.at 3 rfl
  have ck_4 : w2.cell? ⟨w.heap.size + 1 + 1, 4, none⟩ = some (.slice none 0 0) := Blk.at 4 rfl
  have ck_5 : w2.cell? ⟨w.heap.size + 1 + 1, 5, none⟩ = some (.slice none 0 0) := Blk.at 5 rfl
  have fk := Blk.free
  have Lk : w.heap.size + 1 + 1 < w2.heap.size := Blk.lt
  go_wp2
  clear ck_0 ck_1 ck_2 ck_3 ck_4 ck_5 fk Lk
  refine bodyPost.abs ?_
  intro w3 hW
  have hG : Gr [w.heap.size + 1 + 1] w2 w3 := by rw [hW]; exact (Gr.refl _ _).set.set.set.set.set.set
  have hsz := hs.size
  have lk := Blk.lt
  have hbw : Below w.heap.size w2 w3 := hG.below1 hs.size (by first | omega | assumption)
  have hk : KeepD w2 w3 := hG.keep ⟨⟨_, Blk.ty, by decide⟩, True.intro⟩
  have Bl1k : Bx w3 (w.heap.size + 1 + 1) 59 #[.bool false, .slice none 0 0, .slice none 0 0, .bool false, .slice none 0 0, .slice none 0 0] := by rw [hW]; exact Blk.set6
  replace hs := hs.trans hbw
  replace Blc := hG.bx Blc (notMem1 (by omega))
  replace Blconfidence := hG.bx Blconfidence (notMem1 (by omega))
  replace Blk := Bl1k
  clear Bl1k
  replace hu := hu.keep hk
  clear hW hG hk hbw hsz lk
  have ck_0 : w3.cell? ⟨w.heap.size + 1 + 1, 0, none⟩ = some (.bool false) := Blk.at 0 rfl
  have ck_1 : w3.cell? ⟨w.heap.size + 1 + 1, 1, none⟩ = some (.slice none 0 0) := Blk.at 1 rfl
  have ck_2 : w3.cell? ⟨w.heap.size + 1 + 1, 2, none⟩ = some (.slice none 0 0) := Blk.at 2 rfl
  have ck_3 : w3.cell? ⟨w.heap.size + 1 + 1, 3, none⟩ = some (.bool false) := Blk.at 3 rfl
  have ck_4 : w3.cell? ⟨w.heap.size + 1 + 1, 4, none⟩ = some (.slice none 0 0) := Blk.at 4 rfl
  have ck_5 : w3.cell? ⟨w.heap.size + 1 + 1, 5, none⟩ = some (.slice none 0 0) := Blk.at 5 rfl
  exact bodyPost_ret (v := .tuple #[.agg #[.bool false, .slice none 0 0, .slice none 0 0, .bool false, .slice none 0 0, .slice none 0 0], .int .i64 1]) (by simp [results, Tryz.results27, go_sem, ck_0, ck_1, ck_2, ck_3, ck_4, ck_5]) rfl ⟨_, _, rfl, (PV2.mk (PV.zero _) (PV.zero _)), rfl, hs⟩

set_option maxRecDepth 100000 in
set_option maxHeartbeats 4000000 in
theorem al_Det_bad2 {v : Value} {u : Rat} {n f : Int} (k : Int) (w : World) (hu : PV w v u) (su : SzQ 1 u) (h1 : 1 ≤ n) (h2 : n ≤ 64) (h0 : 0 ≤ f) (h3 : f ≤ n) (hc : ¬ (0 ≤ u ∧ u ≤ 1)) : Calls Tryz.prog 27 #[.agg #[.int .i64 n, .int .i64 f], v, .int .i64 k] w (Ret2 (fun w v => PV2 w v (0) (0)) (fun _ v => v = .int .i64 1) w) := by
  obtain ⟨shu, ahu, nhu, chu, Ahu, Nhu, Chu, rfl⟩ := hu.shape
  have HU := Lib.hid hc
  clear hc
  have hs := Below.refl w.heap.size w
  go_enter Tryz.func27, Tryz.ntmps27
  go_wp2_with fail
  refine Calls.abs ?_
  intro w1 hW
  have hG : Gr [] w w1 := by rw [hW]; exact (Gr.refl _ _).alloc.alloc.alloc
  have hbw : Below w.heap.size w w1 := hG.below0 hs.size
  have hk : KeepD w w1 := hG.keep True.intro
  have sz_w1 : w.heap.size ≤ w.heap.size := hs.size
  have Blc : Bx w1 (w.heap.size) 57 #[.int .i64 n, .int .i64 f] := by rw [hW]; exact (((Bx.new0 _ _ _).alloc _).alloc _)
  have Blconfidence : Bx w1 (w.heap.size + 1) 29 #[.bool shu, .slice ahu nhu chu, .slice Ahu Nhu Chu] := by rw [hW]; exact ((Bx.new0 _ _ _).alloc _)
  have Blk : Bx w1 (w.heap.size + 1 + 1) 59 #[.bool false, .slice none 0 0, .slice none 0 0, .bool false, .slice none 0 0, .slice none 0 0] := by rw [hW]; exact (Bx.new0 _ _ _)
  replace hs := hs.trans hbw
  replace hu := hu.keep hk
  clear hW hG hk hbw
  have hz_w1 : w.heap.size + 1 + 1 < w1.heap.size := Blk.lt
  with_reducible refine (cl_check_0 _ (by omega) (by omega) (by omega) (by omega)).mono ?_
  rintro e w2 ⟨rfl, hb⟩
  replace hs := bStep hs hb
  replace Blc := Blc.mono hb
  replace Blconfidence := Blconfidence.mono hb
  replace Blk := Blk.mono hb
  replace hu := hu.mono hb
  clear hb
  have cconfidence_0 : w2.cell? ⟨w.heap.size + 1, 0, none⟩ = some (.bool shu) := Blconfidence.at 0 rfl
  have cconfidence_1 : w2.cell? ⟨w.heap.size + 1, 1, none⟩ = some (.slice ahu nhu chu) := Blconfidence.at 1 rfl
  have cconfidence_2 : w2.cell? ⟨w.heap.size + 1, 2, none⟩ = some (.slice Ahu Nhu Chu) := Blconfidence.at 2 rfl
  have Lconfidence : w.heap.size + 1 < w2.heap.size := Blconfidence.lt
  go_wp2_with fail
  clear cconfidence_0 cconfidence_1 cconfidence_2 Lconfidence
  with_reducible refine (al_isChance _ _ _ hu (SzQ.mid su) rfl).mono ?_
  rintro e w3 ⟨rfl, hb⟩
  replace hs := bStep hs hb
  replace Blc := Blc.mono hb
  replace Blconfidence := Blconfidence.mono hb
  replace Blk := Blk.mono hb
  replace hu := hu.mono hb
  clear hb
  obtain ⟨b1, Hb1⟩ : ∃ b : Bool, b = decide (0 ≤ u ∧ u ≤ 1) := ⟨_, rfl⟩
  rw [← Hb1]
  replace Hb1 := Lib.hid Hb1
  have q2 : ¬ (0 ≤ u ∧ u ≤ 1) := HU.out
  obtain rfl : b1 = false := by rw [Hb1.out]; exact decide_eq_false q2
  have q2H := Lib.hid q2
  clear q2
  have ck_0 : w3.cell? ⟨w.heap.size + 1 + 1, 0, none⟩ = some (.bool false) := Blk.at 0 rfl
  have ck_1 : w3.cell? ⟨w.heap.size + 1 + 1, 1, none⟩ = some (.slice none 0 0) := Blk.at 1 rfl
  have ck_2 : w3.cell? ⟨w.heap.size + 1 + 1, 2, none⟩ = some (.slice none 0 0) := Blk.at 2 rfl
  have ck_3 : w3.cell? ⟨w.heap.size + 1 + 1, 3, none⟩ = some (.bool false) := Blk.at 3 rfl
  have ck_4 : w3.cell? ⟨w.heap.size + 1 + 1, 4, none⟩ = some (.slice none 0 0) := Blk.at 4 rfl
  have ck_5 : w3.cell? ⟨w.heap.size + 1 + 1, 5, none⟩ = some (.slice none 0 0) := Blk.at 5 rfl
  have fk := Blk.free
  have Lk : w.heap.size + 1 + 1 < w3.heap.size := Blk.lt
  go_wp2
  clear ck_0 ck_1 ck_2 ck_3 ck_4 ck_5 fk Lk
  refine bodyPost.abs ?_
  intro w4 hW
  have hG : Gr [w.heap.size + 1 + 1] w3 w4 := by rw [hW]; exact (Gr.refl _ _).set.set.set.set.set.set
  have hsz := hs.size
  have lk := Blk.lt
  have hbw : Below w.heap.size w3 w4 := hG.below1 hs.size (by first | omega | assumption)
  have hk : KeepD w3 w4 := hG.keep ⟨⟨_, Blk.ty, by decide⟩, True.intro⟩
  have Bl1k : Bx w4 (w.heap.size + 1 + 1) 59 #[.bool false, .slice none 0 0, .slice none 0 0, .bool false, .slice none 0 0, .slice none 0 0] := by rw [hW]; exact Blk.set6
  replace hs := hs.trans hbw
  replace Blc := hG.bx Blc (notMem1 (by omega))
  replace Blconfidence := hG.bx Blconfidence (notMem1 (by omega))
  replace Blk := Bl1k
  clear Bl1k
  replace hu := hu.keep hk
  clear hW hG hk hbw hsz lk
  have ck_0 : w4.cell? ⟨w.heap.size + 1 + 1, 0, none⟩ = some (.bool false) := Blk.at 0 rfl
  have ck_1 : w4.cell? ⟨w.heap.size + 1 + 1, 1, none⟩ = some (.slice none 0 0) := Blk.at 1 rfl
  have ck_2 : w4.cell? ⟨w.heap.size + 1 + 1, 2, none⟩ = some (.slice none 0 0) := Blk.at 2 rfl
  have ck_3 : w4.cell? ⟨w.heap.size + 1 + 1, 3, none⟩ = some (.bool false) := Blk.at 3 rfl
  have ck_4 : w4.cell? ⟨w.heap.size + 1 + 1, 4, none⟩ = some (.slice none 0 0) := Blk.at 4 rfl
  have ck_5 : w4.cell? ⟨w.heap.size + 1 + 1, 5, none⟩ = some (.slice none 0 0) := Blk.at 5 rfl
  exact bodyPost_ret (v := .tuple #[.agg #[.bool false, .slice none 0 0, .slice none 0 0, .bool false, .slice none 0 0, .slice none 0 0], .int .i64 1]) (by simp [results, Tryz.results27, go_sem, ck_0, ck_1, ck_2, ck_3, ck_4, ck_5]) rfl ⟨_, _, rfl, (PV2.mk (PV.zero _) (PV.zero _)), rfl, hs⟩

set_option maxRecDepth 100000 in
set_option maxHeartbeats 4000000 in
theorem r8_Det_bad1 {v : Value} {u : Rat} {n f : Int} (k : Int) (w : World) (hu : RV w v u) (hw : n < 1 ∨ 64 < n ∨ f < 0 ∨ n < f) : Calls Tryz.prog 28 #[.agg #[.int .i64 n, .int .i64 f], v, .int .i64 k] w (Ret2 (fun w v => RV2 w v (0) (0)) (fun _ v => v = .int .i64 1) w) := by
  obtain ⟨shu, ahu, nhu, chu, Ahu, Nhu, Chu, rfl⟩ := hu.shape
  have HW := Lib.hid (if_pos hw : (if n < 1 ∨ 64 < n ∨ f < 0 ∨ n < f then (1 : Int) else 0) = 1)
  clear hw
  have hs := Below.refl w.heap.size w
  go_enter Tryz.func28, Tryz.ntmps28
  go_wp2_with fail
  refine Calls.abs ?_
  intro w1 hW
  have hG : Gr [] w w1 := by rw [hW]; exact (Gr.refl _ _).alloc.alloc.alloc
  have hbw : Below w.heap.size w w1 := hG.below0 hs.size
  have hk : KeepD w w1 := hG.keep True.intro
  have sz_w1 : w.heap.size ≤ w.heap.size := hs.size
  have Blc : Bx w1 (w.heap.size) 66 #[.int .i64 n, .int .i64 f] := by rw [hW]; exact (((Bx.new0 _ _ _).alloc _).alloc _)
  have Blconfidence : Bx w1 (w.heap.size + 1) 36 #[.bool shu, .slice ahu nhu chu, .slice Ahu Nhu Chu] := by rw [hW]; exact ((Bx.new0 _ _ _).alloc _)
  have Blk : Bx w1 (w.heap.size + 1 + 1) 63 #[.bool false, .slice none 0 0, .slice none 0 0, .bool false, .slice none 0 0, .slice none 0 0] := by rw [hW]; exact (Bx.new0 _ _ _)
  replace hs := hs.trans hbw
  replace hu := hu.keep hk
  clear hW hG hk hbw
  have hz_w1 : w.heap.size + 1 + 1 < w1.heap.size := Blk.lt
  with_reducible refine (r8_One_all _ HW.out).mono ?_
  rintro e w2 ⟨rfl, hb⟩
  replace hs := bStep hs hb
  replace Blc := Blc.mono hb
  replace Blconfidence := Blconfidence.mono hb
  replace Blk := Blk.mono hb
  replace hu := hu.mono hb
  clear hb
  go_wp2_with fail
  with_reducible refine (r_zero _).mono ?_
  rintro e w3 ⟨_, rfl, h1, hb⟩
  obtain ⟨sh1, ah1, nh1, ch1, Ah1, Nh1, Ch1, rfl⟩ := h1.shape
  replace hs := bStep hs hb
  replace Blc := Blc.mono hb
  replace Blconfidence := Blconfidence.mono hb
  replace Blk := Blk.mono hb
  replace hu := hu.mono hb
  clear hb
  go_wp2_with fail
  with_reducible refine (r_Only _ _ _ h1).mono ?_
  rintro e w4 ⟨_, rfl, h2, hb⟩
  obtain ⟨sh2a, ah2a, nh2a, ch2a, Ah2a, Nh2a, Ch2a, sh2b, ah2b, nh2b, ch2b, Ah2b, Nh2b, Ch2b, rfl, h2a, h2b⟩ := h2.shape
  replace hs := bStep hs hb
  replace Blc := Blc.mono hb
  replace Blconfidence := Blconfidence.mono hb
  replace Blk := Blk.mono hb
  replace hu := hu.mono hb
  replace h1 := h1.mono hb
  clear hb
  have ck_0 : w4.cell? ⟨w.heap.size + 1 + 1, 0, none⟩ = some (.bool false) := Blk.at 0 rfl
  have ck_1 : w4.cell? ⟨w.heap.size + 1 + 1, 1, none⟩ = some (.slice none 0 0) := Blk.at 1 rfl
  have ck_2 : w4.cell? ⟨w.heap.size + 1 + 1, 2, none⟩ = some (.slice none 0 0) := Blk.at 2 rfl
  have ck_3 : w4.cell? ⟨w.heap.size + 1 + 1, 3, none⟩ = some (.bool false) := Blk.at 3 rfl
  have ck_4 : w4.cell? ⟨w.heap.size + 1 + 1, 4, none⟩ = some (.slice none 0 0) := Blk.at 4 rfl
  have ck_5 : w4.cell? ⟨w.heap.size + 1 + 1, 5, none⟩ = some (.slice none 0 0) := Blk.at 5 rfl
  have fk := Blk.free
  have Lk : w.heap.size + 1 + 1 < w4.heap.size := Blk.lt
  go_wp2
  clear ck_0 ck_1 ck_2 ck_3 ck_4 ck_5 fk Lk
  refine bodyPost.abs ?_
  intro w5 hW
  have hG : Gr [w.heap.size + 1 + 1] w4 w5 := by rw [hW]; exact (Gr.refl _ _).set.set.set.set.set.set
  have hsz := hs.size
  have lk := Blk.lt
  have hbw : Below w.heap.size w4 w5 := hG.below1 hs.size (by first | omega | assumption)
  have hk : KeepD w4 w5 := hG.keep ⟨⟨_, Blk.ty, by decide⟩, True.intro⟩
  have Bl1k : Bx w5 (w.heap.size + 1 + 1) 63 #[.bool sh2a, .slice ah2a nh2a ch2a, .slice Ah2a Nh2a Ch2a, .bool sh2b, .slice ah2b nh2b ch2b, .slice Ah2b Nh2b Ch2b] := by rw [hW]; exact Blk.set6
  replace hs := hs.trans hbw
  replace Blc := hG.bx Blc (notMem1 (by omega))
  replace Blconfidence := hG.bx Blconfidence (notMem1 (by omega))
  replace Blk := Bl1k
  clear Bl1k
  replace hu := hu.keep hk
  replace h1 := h1.keep hk
  replace h2a := h2a.keep hk
  replace h2b := h2b.keep hk
  clear hW hG hk hbw hsz lk
  have ck_0 : w5.cell? ⟨w.heap.size + 1 + 1, 0, none⟩ = some (.bool sh2a) := Blk.at 0 rfl
  have ck_1 : w5.cell? ⟨w.heap.size + 1 + 1, 1, none⟩ = some (.slice ah2a nh2a ch2a) := Blk.at 1 rfl
  have ck_2 : w5.cell? ⟨w.heap.size + 1 + 1, 2, none⟩ = some (.slice Ah2a Nh2a Ch2a) := Blk.at 2 rfl
  have ck_3 : w5.cell? ⟨w.heap.size + 1 + 1, 3, none⟩ = some (.bool sh2b) := Blk.at 3 rfl
  have ck_4 : w5.cell? ⟨w.heap.size + 1 + 1, 4, none⟩ = some (.slice ah2b nh2b ch2b) := Blk.at 4 rfl
  have ck_5 : w5.cell? ⟨w.heap.size + 1 + 1, 5, none⟩ = some (.slice Ah2b Nh2b Ch2b) := Blk.at 5 rfl
  exact bodyPost_ret (v := .tuple #[.agg #[.bool sh2a, .slice ah2a nh2a ch2a, .slice Ah2a Nh2a Ch2a, .bool sh2b, .slice ah2b nh2b ch2b, .slice Ah2b Nh2b Ch2b], .int .i64 1]) (by simp [results, Tryz.results28, go_sem, ck_0, ck_1, ck_2, ck_3, ck_4, ck_5]) rfl ⟨_, _, rfl, (RV2.mk h2a h2b), rfl, hs⟩

set_option maxRecDepth 100000 in
set_option maxHeartbeats 4000000 in
theorem r8_Det_bad2 {v : Value} {u : Rat} {n f : Int} (k : Int) (w : World) (hu : RV w v u) (su : SzQ 1 u) (h1 : 1 ≤ n) (h2 : n ≤ 64) (h0 : 0 ≤ f) (h3 : f ≤ n) (hc : ¬ (0 ≤ u ∧ u ≤ 1)) : Calls Tryz.prog 28 #[.agg #[.int .i64 n, .int .i64 f], v, .int .i64 k] w (Ret2 (fun w v => RV2 w v (0) (0)) (fun _ v => v = .int .i64 1) w) := by
  obtain ⟨shu, ahu, nhu, chu, Ahu, Nhu, Chu, rfl⟩ := hu.shape
  have HU := Lib.hid hc
  clear hc
  have hs := Below.refl w.heap.size w
  go_enter Tryz.func28, Tryz.ntmps28
  go_wp2_with fail
  refine Calls.abs ?_
  intro w1 hW
  have hG : Gr [] w w1 := by rw [hW]; exact (Gr.refl _ _).alloc.alloc.alloc
  have hbw : Below w.heap.size w w1 := hG.below0 hs.size
  have hk : KeepD w w1 := hG.keep True.intro
  have sz_w1 : w.heap.size ≤ w.heap.size := hs.size
  have Blc : Bx w1 (w.heap.size) 66 #[.int .i64 n, .int .i64 f] := by rw [hW]; exact (((Bx.new0 _ _ _).alloc _).alloc _)
  have Blconfidence : Bx w1 (w.heap.size + 1) 36 #[.bool shu, .slice ahu nhu chu, .slice Ahu Nhu Chu] := by rw [hW]; exact ((Bx.new0 _ _ _).alloc _)
  have Blk : Bx w1 (w.heap.size + 1 + 1) 63 #[.bool false, .slice none 0 0, .slice none 0 0, .bool false, .slice none 0 0, .slice none 0 0] := by rw [hW]; exact (Bx.new0 _ _ _)
  replace hs := hs.trans hbw
  replace hu := hu.keep hk
  clear hW hG hk hbw
  have hz_w1 : w.heap.size + 1 + 1 < w1.heap.size := Blk.lt
  with_reducible refine (r8_One_0 _ (by omega) (by omega) (by omega) (by omega)).mono ?_
  rintro e w2 ⟨rfl, hb⟩
  replace hs := bStep hs hb
  replace Blc := Blc.mono hb
  replace Blconfidence := Blconfidence.mono hb
  replace Blk := Blk.mono hb
  replace hu := hu.mono hb
  clear hb
  have cconfidence_0 : w2.cell? ⟨w.heap.size + 1, 0, none⟩ = some (.bool shu) := Blconfidence.at 0 rfl
  have cconfidence_1 : w2.cell? ⟨w.heap.size + 1, 1, none⟩ = some (.slice ahu nhu chu) := Blconfidence.at 1 rfl
  have cconfidence_2 : w2.cell? ⟨w.heap.size + 1, 2, none⟩ = some (.slice Ahu Nhu Chu) := Blconfidence.at 2 rfl
  have Lconfidence : w.heap.size + 1 < w2.heap.size := Blconfidence.lt
  go_wp2_with fail
  clear cconfidence_0 cconfidence_1 cconfidence_2 Lconfidence
  with_reducible refine (r8_Chance _ _ _ hu (SzQ.mid su) rfl).mono ?_
  rintro e w3 ⟨rfl, hb⟩
  replace hs := bStep hs hb
  replace Blc := Blc.mono hb
  replace Blconfidence := Blconfidence.mono hb
  replace Blk := Blk.mono hb
  replace hu := hu.mono hb
  clear hb
  obtain ⟨b1, Hb1⟩ : ∃ b : Bool, b = decide (0 ≤ u ∧ u ≤ 1) := ⟨_, rfl⟩
  rw [← Hb1]
  replace Hb1 := Lib.hid Hb1
  have q2 : ¬ (0 ≤ u ∧ u ≤ 1) := HU.out
  obtain rfl : b1 = false := by rw [Hb1.out]; exact decide_eq_false q2
  have q2H := Lib.hid q2
  clear q2
  go_wp2_with fail
  with_reducible refine (r_zero _).mono ?_
  rintro e w4 ⟨_, rfl, h3, hb⟩
  obtain ⟨sh3, ah3, nh3, ch3, Ah3, Nh3, Ch3, rfl⟩ := h3.shape
  replace hs := bStep hs hb
  replace Blc := Blc.mono hb
  replace Blconfidence := Blconfidence.mono hb
  replace Blk := Blk.mono hb
  replace hu := hu.mono hb
  clear hb
  go_wp2_with fail
  with_reducible refine (r_Only _ _ _ h3).mono ?_
  rintro e w5 ⟨_, rfl, h4, hb⟩
  obtain ⟨sh4a, ah4a, nh4a, ch4a, Ah4a, Nh4a, Ch4a, sh4b, ah4b, nh4b, ch4b, Ah4b, Nh4b, Ch4b, rfl, h4a, h4b⟩ := h4.shape
  replace hs := bStep hs hb
  replace Blc := Blc.mono hb
  replace Blconfidence := Blconfidence.mono hb
  replace Blk := Blk.mono hb
  replace hu := hu.mono hb
  replace h3 := h3.mono hb
  clear hb
  have ck_0 : w5.cell? ⟨w.heap.size + 1 + 1, 0, none⟩ = some (.bool false) := Blk.at 0 rfl
  have ck_1 : w5.cell? ⟨w.heap.size + 1 + 1, 1, none⟩ = some (.slice none 0 0) := Blk.at 1 rfl
  have ck_2 : w5.cell? ⟨w.heap.size + 1 + 1, 2, none⟩ = some (.slice none 0 0) := Blk.at 2 rfl
  have ck_3 : w5.cell? ⟨w.heap.size + 1 + 1, 3, none⟩ = some (.bool false) := Blk.at 3 rfl
  have ck_4 : w5.cell? ⟨w.heap.size + 1 + 1, 4, none⟩ = some (.slice none 0 0) := Blk.at 4 rfl
  have ck_5 : w5.cell? ⟨w.heap.size + 1 + 1, 5, none⟩ = some (.slice none 0 0) := Blk.at 5 rfl
  have fk := Blk.free
  have Lk : w.heap.size + 1 + 1 < w5.heap.size := Blk.lt
  go_wp2
  clear ck_0 ck_1 ck_2 ck_3 ck_4 ck_5 fk Lk
  refine bodyPost.abs ?_
  intro w6 hW
  have hG : Gr [w.heap.size + 1 + 1] w5 w6 := by rw [hW]; exact (Gr.refl _ _).set.set.set.set.set.set
  have hsz := hs.size
  have lk := Blk.lt
  have hbw : Below w.heap.size w5 w6 := hG.below1 hs.size (by first | omega | assumption)
  have hk : KeepD w5 w6 := hG.keep ⟨⟨_, Blk.ty, by decide⟩, True.intro⟩
  have Bl1k : Bx w6 (w.heap.size + 1 + 1) 63 #[.bool sh4a, .slice ah4a nh4a ch4a, .slice Ah4a Nh4a Ch4a, .bool sh4b, .slice ah4b nh4b ch4b, .slice Ah4b Nh4b Ch4b] := by rw [hW]; exact Blk.set6
  replace hs := hs.trans hbw
  replace Blc := hG.bx Blc (notMem1 (by omega))
  replace Blconfidence := hG.bx Blconfidence (notMem1 (by omega))
  replace Blk := Bl1k
  clear Bl1k
  replace hu := hu.keep hk
  replace h3 := h3.keep hk
  replace h4a := h4a.keep hk
  replace h4b := h4b.keep hk
  clear hW hG hk hbw hsz lk
  have ck_0 : w6.cell? ⟨w.heap.size + 1 + 1, 0, none⟩ = some (.bool sh4a) := Blk.at 0 rfl
  have ck_1 : w6.cell? ⟨w.heap.size + 1 + 1, 1, none⟩ = some (.slice ah4a nh4a ch4a) := Blk.at 1 rfl
  have ck_2 : w6.cell? ⟨w.heap.size + 1 + 1, 2, none⟩ = some (.slice Ah4a Nh4a Ch4a) := Blk.at 2 rfl
  have ck_3 : w6.cell? ⟨w.heap.size + 1 + 1, 3, none⟩ = some (.bool sh4b) := Blk.at 3 rfl
  have ck_4 : w6.cell? ⟨w.heap.size + 1 + 1, 4, none⟩ = some (.slice ah4b nh4b ch4b) := Blk.at 4 rfl
  have ck_5 : w6.cell? ⟨w.heap.size + 1 + 1, 5, none⟩ = some (.slice Ah4b Nh4b Ch4b) := Blk.at 5 rfl
  exact bodyPost_ret (v := .tuple #[.agg #[.bool sh4a, .slice ah4a nh4a ch4a, .slice Ah4a Nh4a Ch4a, .bool sh4b, .slice ah4b nh4b ch4b, .slice Ah4b Nh4b Ch4b], .int .i64 1]) (by simp [results, Tryz.results28, go_sem, ck_0, ck_1, ck_2, ck_3, ck_4, ck_5]) rfl ⟨_, _, rfl, (RV2.mk h4a h4b), rfl, hs⟩

/-- What Detected gives, whatever the numbers; and its error. -/
def dtWrong (n f : Int) (u : Rat) : Prop := (n < 1 ∨ 64 < n ∨ f < 0 ∨ n < f) ∨ ¬ (0 ≤ u ∧ u ≤ 1)
instance (n f : Int) (u : Rat) : Decidable (dtWrong n f u) := by unfold dtWrong; infer_instance
def stepsN (k : Int) : Nat := 2 ^ (min (max k 0) 20).toNat
def dtLo (n f : Int) (u : Rat) (k : Int) : Rat := if dtWrong n f u then 0 else dLo n.toNat f.toNat u (stepsN k)
def dtHi (n f : Int) (u : Rat) (k : Int) : Rat := if dtWrong n f u then 0 else dHi n.toNat f.toNat u (stepsN k)
def dtE (n f : Int) (u : Rat) : Int := if dtWrong n f u then 1 else 0
theorem stepsN_eq (k : Int) : (2 : Int) ^ (min (max k 0) 20).toNat = (stepsN k : Int) := by unfold stepsN; simp
theorem stepsN_bd (k : Int) : 0 < stepsN k ∧ stepsN k ≤ 2000000 := ⟨Nat.pow_pos (by decide), Nat.le_trans (Nat.pow_le_pow_right (by decide) (show (min (max k 0) 20).toNat ≤ 20 by omega)) (by decide)⟩
theorem dt_sz {n f : Int} {u : Rat} (k : Int) : SzQ 1 (dtLo n f u k) ∧ SzQ 1 (dtHi n f u k) := by
  unfold dtLo dtHi
  split
  · exact ⟨szQ_zero, szQ_zero⟩
  · exact (d_sz (stepsN_bd k).1 (stepsN_bd k).2).1
theorem r8_Det_e {v : Value} {u : Rat} {n f : Nat} {k : Int} (w : World) (h1 : 1 ≤ n) (h2 : n ≤ 64) (h3 : f ≤ n) (hu : RV w v u) (su : SzQ 1 u) (u0 : 0 ≤ u) (u1 : u ≤ 1) (hk : k ≤ 20) {S : Nat} (hS : (2 : Int) ^ (min (max k 0) 20).toNat = (S : Int)) (hS0 : 0 < S) (hS1 : S ≤ 2000000) {x y : Rat} (hx : dLo n f u S = x) (hy : dHi n f u S = y) :
    Calls Tryz.prog 28 #[.agg #[.int .i64 n, .int .i64 f], v, .int .i64 k] w (Ret2 (fun w v => RV2 w v x y) (fun _ v => v = .int .i64 0) w) := by
  subst hx hy
  by_cases a : f = 0
  · unfold dLo dHi
    rw [if_pos a, if_pos a]
    exact r8_Det_nil k w h1 h2 h3 hu su u0 u1 a
  · by_cases b : u = 0
    · unfold dLo dHi
      rw [if_neg a, if_neg a, if_pos b, if_pos b]
      exact r8_Det_sure k w h1 h2 h3 hu su u0 u1 a b
    · unfold dLo dHi
      rw [if_neg a, if_neg a, if_neg b, if_neg b]
      exact r8_Det_ok k w h1 h2 h3 hu su u0 u1 a b hk hS hS0 hS1 rfl
theorem al_Det_all {v : Value} {u : Rat} {n f k : Int} (w : World) (hu : PV w v u) (su : SzQ 1 u) (hk : k ≤ 20) {x y : Rat} (hx : dtLo n f u k = x) (hy : dtHi n f u k = y) {e : Int} (he : dtE n f u = e) :
    Calls Tryz.prog 27 #[.agg #[.int .i64 n, .int .i64 f], v, .int .i64 k] w (Ret2 (fun w v => PV2 w v (x) (y)) (fun _ v => v = .int .i64 e) w) := by
  subst hx hy he
  by_cases hw : n < 1 ∨ 64 < n ∨ f < 0 ∨ n < f
  · have h : dtWrong n f u := .inl hw
    unfold dtLo dtHi dtE
    rw [if_pos h, if_pos h, if_pos h]
    exact al_Det_bad1 k w hu hw
  · by_cases hc : 0 ≤ u ∧ u ≤ 1
    · have h : ¬ dtWrong n f u := fun a => by rcases a with a | a; exact hw a; exact a hc
      unfold dtLo dtHi dtE
      rw [if_neg h, if_neg h, if_neg h]
      obtain ⟨m, rfl⟩ : ∃ m : Nat, n = m := ⟨n.toNat, by omega⟩
      obtain ⟨g, rfl⟩ : ∃ g : Nat, f = g := ⟨f.toNat, by omega⟩
      exact al_Det_e w rfl rfl (by omega) (by omega) (by omega) hu su hc.1 hc.2 hk (stepsN_eq k) (stepsN_bd k).1 (stepsN_bd k).2 rfl rfl
    · have h : dtWrong n f u := .inr hc
      unfold dtLo dtHi dtE
      rw [if_pos h, if_pos h, if_pos h]
      exact al_Det_bad2 k w hu su (by omega) (by omega) (by omega) (by omega) hc
theorem r8_Det_all {v : Value} {u : Rat} {n f k : Int} (w : World) (hu : RV w v u) (su : SzQ 1 u) (hk : k ≤ 20) {x y : Rat} (hx : dtLo n f u k = x) (hy : dtHi n f u k = y) {e : Int} (he : dtE n f u = e) :
    Calls Tryz.prog 28 #[.agg #[.int .i64 n, .int .i64 f], v, .int .i64 k] w (Ret2 (fun w v => RV2 w v (x) (y)) (fun _ v => v = .int .i64 e) w) := by
  subst hx hy he
  by_cases hw : n < 1 ∨ 64 < n ∨ f < 0 ∨ n < f
  · have h : dtWrong n f u := .inl hw
    unfold dtLo dtHi dtE
    rw [if_pos h, if_pos h, if_pos h]
    exact r8_Det_bad1 k w hu hw
  · by_cases hc : 0 ≤ u ∧ u ≤ 1
    · have h : ¬ dtWrong n f u := fun a => by rcases a with a | a; exact hw a; exact a hc
      unfold dtLo dtHi dtE
      rw [if_neg h, if_neg h, if_neg h]
      obtain ⟨m, rfl⟩ : ∃ m : Nat, n = m := ⟨n.toNat, by omega⟩
      obtain ⟨g, rfl⟩ : ∃ g : Nat, f = g := ⟨f.toNat, by omega⟩
      exact r8_Det_e w (by omega) (by omega) (by omega) hu su hc.1 hc.2 hk (stepsN_eq k) (stepsN_bd k).1 (stepsN_bd k).2 rfl rfl
    · have h : dtWrong n f u := .inr hc
      unfold dtLo dtHi dtE
      rw [if_pos h, if_pos h, if_pos h]
      exact r8_Det_bad2 k w hu su (by omega) (by omega) (by omega) (by omega) hc
set_option maxRecDepth 100000 in
set_option maxHeartbeats 4000000 in
theorem l1_IsRange {v v' : Value} {x y : Rat} (w : World) (ha : PV2 w v x y) (hb : RV2 w v' x y) (sx : SzQ 100 x) (sy : SzQ 100 y) : Calls Tryz.prog 29 #[v, v'] w (RetV w (.bool true)) := by
  obtain ⟨shax, ahax, nhax, chax, Ahax, Nhax, Chax, shay, ahay, nhay, chay, Ahay, Nhay, Chay, rfl, hax, hay⟩ := ha.shape
  obtain ⟨shbx, ahbx, nhbx, chbx, Ahbx, Nhbx, Chbx, shby, ahby, nhby, chby, Ahby, Nhby, Chby, rfl, hbx, hby⟩ := hb.shape
  clear ha hb
  have hs := Below.refl w.heap.size w
  go_enter Tryz.func29, Tryz.ntmps29
  go_upto_region 1 with fail
  refine Code.abs ?_
  intro w1 hW
  have hG : Gr [] w w1 := by rw [hW]; exact (Gr.refl _ _).alloc.alloc
  have hbw : Below w.heap.size w w1 := hG.below0 hs.size
  have hk : KeepD w w1 := hG.keep True.intro
  have sz_w1 : w.heap.size ≤ w.heap.size := hs.size
  have Blx : Bx w1 (w.heap.size) 59 #[.bool shax, .slice ahax nhax chax, .slice Ahax Nhax Chax, .bool shay, .slice ahay nhay chay, .slice Ahay Nhay Chay] := by rw [hW]; exact ((Bx.new0 _ _ _).alloc _)
  have Bly : Bx w1 (w.heap.size + 1) 63 #[.bool shbx, .slice ahbx nhbx chbx, .slice Ahbx Nhbx Chbx, .bool shby, .slice ahby nhby chby, .slice Ahby Nhby Chby] := by rw [hW]; exact (Bx.new0 _ _ _)
  replace hs := hs.trans hbw
  replace hax := hax.keep hk
  replace hay := hay.keep hk
  replace hbx := hbx.keep hk
  replace hby := hby.keep hk
  clear hW hG hk hbw
  have hz_w1 : w.heap.size + 1 < w1.heap.size := Bly.lt
  refine U_region (S := fun w' => w'.cell? ⟨w.heap.size, 0, none⟩ = some (.bool shax) ∧ w'.cell? ⟨w.heap.size, 1, none⟩ = some (.slice ahax nhax chax) ∧ w'.cell? ⟨w.heap.size, 2, none⟩ = some (.slice Ahax Nhax Chax) ∧ w'.cell? ⟨w.heap.size, 3, none⟩ = some (.bool shay) ∧ w'.cell? ⟨w.heap.size, 4, none⟩ = some (.slice ahay nhay chay) ∧ w'.cell? ⟨w.heap.size, 5, none⟩ = some (.slice Ahay Nhay Chay) ∧ w'.cell? ⟨w.heap.size + 1, 0, none⟩ = some (.bool shbx) ∧ w'.cell? ⟨w.heap.size + 1, 1, none⟩ = some (.slice ahbx nhbx chbx) ∧ w'.cell? ⟨w.heap.size + 1, 2, none⟩ = some (.slice Ahbx Nhbx Chbx) ∧ w'.cell? ⟨w.heap.size + 1, 3, none⟩ = some (.bool shby) ∧ w'.cell? ⟨w.heap.size + 1, 4, none⟩ = some (.slice ahby nhby chby) ∧ w'.cell? ⟨w.heap.size + 1, 5, none⟩ = some (.slice Ahby Nhby Chby)) (by kernel_rfl) 13 ?_
  refine AnyU.abs ?_
  intro w2 hW
  have hb : Below w1.heap.size w1 w2 := by rw [hW]; exact bDrew _
  replace hs := bStep hs hb
  replace Blx := Blx.mono hb
  replace Bly := Bly.mono hb
  replace hax := hax.mono hb
  replace hay := hay.mono hb
  replace hbx := hbx.mono hb
  replace hby := hby.mono hb
  clear hb hW
  have cx_0 : w2.cell? ⟨w.heap.size, 0, none⟩ = some (.bool shax) := Blx.at 0 rfl
  have cx_1 : w2.cell? ⟨w.heap.size, 1, none⟩ = some (.slice ahax nhax chax) := Blx.at 1 rfl
  have cx_2 : w2.cell? ⟨w.heap.size, 2, none⟩ = some (.slice Ahax Nhax Chax) := Blx.at 2 rfl
  have cx_3 : w2.cell? ⟨w.heap.size, 3, none⟩ = some (.bool shay) := Blx.at 3 rfl
  have cx_4 : w2.cell? ⟨w.heap.size, 4, none⟩ = some (.slice ahay nhay chay) := Blx.at 4 rfl
  have cx_5 : w2.cell? ⟨w.heap.size, 5, none⟩ = some (.slice Ahay Nhay Chay) := Blx.at 5 rfl
  have cy_0 : w2.cell? ⟨w.heap.size + 1, 0, none⟩ = some (.bool shbx) := Bly.at 0 rfl
  have cy_1 : w2.cell? ⟨w.heap.size + 1, 1, none⟩ = some (.slice ahbx nhbx chbx) := Bly.at 1 rfl
  have cy_2 : w2.cell? ⟨w.heap.size + 1, 2, none⟩ = some (.slice Ahbx Nhbx Chbx) := Bly.at 2 rfl
  have cy_3 : w2.cell? ⟨w.heap.size + 1, 3, none⟩ = some (.bool shby) := Bly.at 3 rfl
  have cy_4 : w2.cell? ⟨w.heap.size + 1, 4, none⟩ = some (.slice ahby nhby chby) := Bly.at 4 rfl
  have cy_5 : w2.cell? ⟨w.heap.size + 1, 5, none⟩ = some (.slice Ahby Nhby Chby) := Bly.at 5 rfl
  have hH := (show w2.cell? ⟨w.heap.size, 0, none⟩ = some (.bool shax) ∧ w2.cell? ⟨w.heap.size, 1, none⟩ = some (.slice ahax nhax chax) ∧ w2.cell? ⟨w.heap.size, 2, none⟩ = some (.slice Ahax Nhax Chax) ∧ w2.cell? ⟨w.heap.size, 3, none⟩ = some (.bool shay) ∧ w2.cell? ⟨w.heap.size, 4, none⟩ = some (.slice ahay nhay chay) ∧ w2.cell? ⟨w.heap.size, 5, none⟩ = some (.slice Ahay Nhay Chay) ∧ w2.cell? ⟨w.heap.size + 1, 0, none⟩ = some (.bool shbx) ∧ w2.cell? ⟨w.heap.size + 1, 1, none⟩ = some (.slice ahbx nhbx chbx) ∧ w2.cell? ⟨w.heap.size + 1, 2, none⟩ = some (.slice Ahbx Nhbx Chbx) ∧ w2.cell? ⟨w.heap.size + 1, 3, none⟩ = some (.bool shby) ∧ w2.cell? ⟨w.heap.size + 1, 4, none⟩ = some (.slice ahby nhby chby) ∧ w2.cell? ⟨w.heap.size + 1, 5, none⟩ = some (.slice Ahby Nhby Chby) from ⟨cx_0, cx_1, cx_2, cx_3, cx_4, cx_5, cy_0, cy_1, cy_2, cy_3, cy_4, cy_5⟩)
  refine U_takeN (i := 0) (d := 5) (v := ?_) rfl rfl rfl (by kernel_rfl) (by kernel_rfl) (by kernel_rfl) (fun _ _ _ h => h) (Or.inl ⟨by rfl, ?_⟩) hH ?_
  rotate_left
  · intro w hSw
    try dsimp only at hSw
    go_simp
    try with_reducible rfl
  simp only [LY]
  refine U_takeN (i := 2) (d := 7) (v := ?_) rfl rfl rfl (by kernel_rfl) (by kernel_rfl) (by kernel_rfl) (fun _ _ _ h => h) (Or.inl ⟨by rfl, ?_⟩) hH ?_
  rotate_left
  · intro w hSw
    try dsimp only at hSw
    go_simp
    try with_reducible rfl
  simp only [LY]
  refine U_takeN (i := 3) (d := 8) (v := ?_) rfl rfl rfl (by kernel_rfl) (by kernel_rfl) (by kernel_rfl) (fun _ _ _ h => h) (Or.inl ⟨by rfl, ?_⟩) hH ?_
  rotate_left
  · intro w hSw
    try dsimp only at hSw
    go_simp
    try with_reducible rfl
  simp only [LY]
  clear hH
  refine U_one (i := 1) (by kernel_rfl) rfl (fun K hK => ?_)
  go_simp
  (with_reducible refine (p_Lo _ _ _ _ (PV2.mk hax hay)).mono ?_)
  rintro e w3 ⟨_, rfl, h1, hb⟩
  obtain ⟨sh1, ah1, nh1, ch1, Ah1, Nh1, Ch1, rfl⟩ := h1.shape
  replace hs := bStep hs hb
  replace Blx := Blx.mono hb
  replace Bly := Bly.mono hb
  replace hax := hax.mono hb
  replace hay := hay.mono hb
  replace hbx := hbx.mono hb
  replace hby := hby.mono hb
  replace cx_0 := cellK cx_0 hb
  replace cx_1 := cellK cx_1 hb
  replace cx_2 := cellK cx_2 hb
  replace cx_3 := cellK cx_3 hb
  replace cx_4 := cellK cx_4 hb
  replace cx_5 := cellK cx_5 hb
  replace cy_0 := cellK cy_0 hb
  replace cy_1 := cellK cy_1 hb
  replace cy_2 := cellK cy_2 hb
  replace cy_3 := cellK cy_3 hb
  replace cy_4 := cellK cy_4 hb
  replace cy_5 := cellK cy_5 hb
  clear hb
  try go_wp2_with fail
  refine hK.out _ _ ⟨cx_0, cx_1, cx_2, cx_3, cx_4, cx_5, cy_0, cy_1, cy_2, cy_3, cy_4, cy_5⟩ (fun hH => ?_)
  clear hK K
  try simp only [LY]
  clear hH
  refine U_one (i := 4) (by kernel_rfl) rfl (fun K hK => ?_)
  go_simp
  (with_reducible refine (l1_Is _ _ _ _ h1 hbx (SzQ.fit sx)).mono ?_)
  rintro e w4 ⟨rfl, hb⟩
  replace hs := bStep hs hb
  replace Blx := Blx.mono hb
  replace Bly := Bly.mono hb
  replace hax := hax.mono hb
  replace hay := hay.mono hb
  replace hbx := hbx.mono hb
  replace hby := hby.mono hb
  replace h1 := h1.mono hb
  replace cx_0 := cellK cx_0 hb
  replace cx_1 := cellK cx_1 hb
  replace cx_2 := cellK cx_2 hb
  replace cx_3 := cellK cx_3 hb
  replace cx_4 := cellK cx_4 hb
  replace cx_5 := cellK cx_5 hb
  replace cy_0 := cellK cy_0 hb
  replace cy_1 := cellK cy_1 hb
  replace cy_2 := cellK cy_2 hb
  replace cy_3 := cellK cy_3 hb
  replace cy_4 := cellK cy_4 hb
  replace cy_5 := cellK cy_5 hb
  clear hb
  try go_wp2_with fail
  refine hK.out _ _ ⟨cx_0, cx_1, cx_2, cx_3, cx_4, cx_5, cy_0, cy_1, cy_2, cy_3, cy_4, cy_5⟩ (fun hH => ?_)
  clear hK K
  try simp only [LY]
  refine U_takeN (i := 5) (d := 10) (v := ?_) rfl rfl rfl (by kernel_rfl) (by kernel_rfl) (by kernel_rfl) (fun _ _ _ h => h) (Or.inl ⟨by rfl, ?_⟩) hH ?_
  rotate_left
  · intro w hSw
    try dsimp only at hSw
    go_simp
    try with_reducible rfl
  simp only [LY]
  refine U_takeN (i := 6) (d := 11) (v := ?_) rfl rfl rfl (by kernel_rfl) (by kernel_rfl) (by kernel_rfl) (fun _ _ _ h => h) (Or.inl ⟨by rfl, ?_⟩) hH ?_
  rotate_left
  · intro w hSw
    try dsimp only at hSw
    go_simp
    try with_reducible rfl
  simp only [LY]
  refine U_takeN (i := 8) (d := 13) (v := ?_) rfl rfl rfl (by kernel_rfl) (by kernel_rfl) (by kernel_rfl) (fun _ _ _ h => h) (Or.inl ⟨by rfl, ?_⟩) hH ?_
  rotate_left
  · intro w hSw
    try dsimp only at hSw
    go_simp
    try with_reducible rfl
  simp only [LY]
  refine U_takeN (i := 9) (d := 14) (v := ?_) rfl rfl rfl (by kernel_rfl) (by kernel_rfl) (by kernel_rfl) (fun _ _ _ h => h) (Or.inl ⟨by rfl, ?_⟩) hH ?_
  rotate_left
  · intro w hSw
    try dsimp only at hSw
    go_simp
    try with_reducible rfl
  simp only [LY]
  clear hH
  refine U_one (i := 7) (by kernel_rfl) rfl (fun K hK => ?_)
  go_simp
  (with_reducible refine (p_Hi _ _ _ _ (PV2.mk hax hay)).mono ?_)
  rintro e w5 ⟨_, rfl, h2, hb⟩
  obtain ⟨sh2, ah2, nh2, ch2, Ah2, Nh2, Ch2, rfl⟩ := h2.shape
  replace hs := bStep hs hb
  replace Blx := Blx.mono hb
  replace Bly := Bly.mono hb
  replace hax := hax.mono hb
  replace hay := hay.mono hb
  replace hbx := hbx.mono hb
  replace hby := hby.mono hb
  replace h1 := h1.mono hb
  replace cx_0 := cellK cx_0 hb
  replace cx_1 := cellK cx_1 hb
  replace cx_2 := cellK cx_2 hb
  replace cx_3 := cellK cx_3 hb
  replace cx_4 := cellK cx_4 hb
  replace cx_5 := cellK cx_5 hb
  replace cy_0 := cellK cy_0 hb
  replace cy_1 := cellK cy_1 hb
  replace cy_2 := cellK cy_2 hb
  replace cy_3 := cellK cy_3 hb
  replace cy_4 := cellK cy_4 hb
  replace cy_5 := cellK cy_5 hb
  clear hb
  try go_wp2_with fail
  refine hK.out _ _ ⟨cx_0, cx_1, cx_2, cx_3, cx_4, cx_5, cy_0, cy_1, cy_2, cy_3, cy_4, cy_5⟩ (fun hH => ?_)
  clear hK K
  try simp only [LY]
  clear hH
  refine U_one (i := 10) (by kernel_rfl) rfl (fun K hK => ?_)
  go_simp
  (with_reducible refine (l1_Is _ _ _ _ h2 hby (SzQ.fit sy)).mono ?_)
  rintro e w6 ⟨rfl, hb⟩
  replace hs := bStep hs hb
  replace Blx := Blx.mono hb
  replace Bly := Bly.mono hb
  replace hax := hax.mono hb
  replace hay := hay.mono hb
  replace hbx := hbx.mono hb
  replace hby := hby.mono hb
  replace h1 := h1.mono hb
  replace h2 := h2.mono hb
  replace cx_0 := cellK cx_0 hb
  replace cx_1 := cellK cx_1 hb
  replace cx_2 := cellK cx_2 hb
  replace cx_3 := cellK cx_3 hb
  replace cx_4 := cellK cx_4 hb
  replace cx_5 := cellK cx_5 hb
  replace cy_0 := cellK cy_0 hb
  replace cy_1 := cellK cy_1 hb
  replace cy_2 := cellK cy_2 hb
  replace cy_3 := cellK cy_3 hb
  replace cy_4 := cellK cy_4 hb
  replace cy_5 := cellK cy_5 hb
  clear hb
  try go_wp2_with fail
  refine hK.out _ _ ⟨cx_0, cx_1, cx_2, cx_3, cx_4, cx_5, cy_0, cy_1, cy_2, cy_3, cy_4, cy_5⟩ (fun hH => ?_)
  clear hK K
  try simp only [LY]
  refine U_takeN (i := 11) (d := 16) (v := ?_) rfl rfl rfl (by kernel_rfl) (by kernel_rfl) (by kernel_rfl) (fun _ _ _ h => h) (Or.inl ⟨by rfl, ?_⟩) hH ?_
  rotate_left
  · intro w hSw
    try dsimp only at hSw
    go_simp
    try with_reducible rfl
  simp only [LY]
  refine U_takeN (i := 12) (d := 4) (v := ?_) rfl rfl rfl (by kernel_rfl) (by kernel_rfl) (by kernel_rfl) (fun _ _ _ h => h) (Or.inl ⟨by rfl, ?_⟩) hH ?_
  rotate_left
  · intro w hSw
    try dsimp only at hSw
    go_simp
    try with_reducible rfl
  simp only [LY]
  clear hH
  refine U_endN (by kernel_rfl) ?_
  clear cx_0 cx_1 cx_2 cx_3 cx_4 cx_5 cy_0 cy_1 cy_2 cy_3 cy_4 cy_5
  go_wp2
  go_ret
  exact ⟨rfl, hs⟩

end Go.Proofs.YtmnipggjjcmjkaaGreat
