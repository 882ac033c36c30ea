/-
  Reference 08: Detected. Detected of both sides, whatever the numbers.
-/
import Derived.Test.YtmnipggjjcmjkaaGreatAlHQ
import Derived.Test.YtmnipggjjcmjkaaGreatAlT0Q
import Derived.Test.YtmnipggjjcmjkaaGreatRangeRQ
set_option linter.unusedSimpArgs false
set_option linter.unusedVariables false
namespace Go.Proofs.YtmnipggjjcmjkaaGreat
open Go.RowKit Dg
attribute [local go_sem ↓] Go.wp_at_zero Go.wp_at_succ

set_option maxRecDepth 100000 in
set_option maxHeartbeats 4000000 in
theorem r8_One_0 {n f : Int} (w : World) (h1 : 1 ≤ n) (h2 : n ≤ 64) (h0 : 0 ≤ f) (h3 : f ≤ n) : Calls Tryz.prog 93 #[.agg #[.int .i64 n, .int .i64 f]] w (RetV w (.int .i64 0)) := by
  have hs := Below.refl w.heap.size w
  go_enter Tryz.func93, Tryz.ntmps93
  have q1 : ¬ (n < 1) := (by omega)
  have q1d : (n < 1) = False := eq_false (by omega)
  have q2 : ¬ (64 < n) := (by omega)
  have q2d : ((64 : Int) < n) = False := eq_false (by omega)
  have q3 : ¬ (f < 0) := (by omega)
  have q3d : (f < 0) = False := eq_false (by omega)
  have q4 : ¬ (n < f) := (by omega)
  have q4d : (n < f) = False := eq_false (by omega)
  go_wp2
  refine bodyPost.abs ?_
  intro w1 hW
  have hG : Gr [] w w1 := by rw [hW]; exact (Gr.refl _ _).alloc
  have hbw : Below w.heap.size w w1 := hG.below0 hs.size
  have hk : KeepD w w1 := hG.keep True.intro
  have sz_w1 : w.heap.size ≤ w.heap.size := hs.size
  have Blc : Bx w1 (w.heap.size) 66 #[.int .i64 n, .int .i64 f] := by rw [hW]; exact (Bx.new0 _ _ _)
  replace hs := hs.trans hbw
  clear hW hG hk hbw
  have hz_w1 : w.heap.size < w1.heap.size := Blc.lt
  go_ret
  exact ⟨rfl, hs⟩

set_option maxRecDepth 100000 in
set_option maxHeartbeats 4000000 in
theorem r8_One_1 {n f : Int} (w : World) (h1 : n < 1) : Calls Tryz.prog 93 #[.agg #[.int .i64 n, .int .i64 f]] w (RetV w (.int .i64 1)) := by
  have hs := Below.refl w.heap.size w
  go_enter Tryz.func93, Tryz.ntmps93
  have q1 : n < 1 := (by omega)
  have q1d : (n < 1) = True := eq_true (by omega)
  go_wp2
  refine bodyPost.abs ?_
  intro w1 hW
  have hG : Gr [] w w1 := by rw [hW]; exact (Gr.refl _ _).alloc
  have hbw : Below w.heap.size w w1 := hG.below0 hs.size
  have hk : KeepD w w1 := hG.keep True.intro
  have sz_w1 : w.heap.size ≤ w.heap.size := hs.size
  have Blc : Bx w1 (w.heap.size) 66 #[.int .i64 n, .int .i64 f] := by rw [hW]; exact (Bx.new0 _ _ _)
  replace hs := hs.trans hbw
  clear hW hG hk hbw
  have hz_w1 : w.heap.size < w1.heap.size := Blc.lt
  go_ret
  exact ⟨rfl, hs⟩

set_option maxRecDepth 100000 in
set_option maxHeartbeats 4000000 in
theorem r8_One_2 {n f : Int} (w : World) (h1 : 64 < n) : Calls Tryz.prog 93 #[.agg #[.int .i64 n, .int .i64 f]] w (RetV w (.int .i64 1)) := by
  have hs := Below.refl w.heap.size w
  go_enter Tryz.func93, Tryz.ntmps93
  have q1 : ¬ (n < 1) := (by omega)
  have q1d : (n < 1) = False := eq_false (by omega)
  have q2 : 64 < n := (by omega)
  have q2d : ((64 : Int) < n) = True := eq_true (by omega)
  go_wp2
  refine bodyPost.abs ?_
  intro w1 hW
  have hG : Gr [] w w1 := by rw [hW]; exact (Gr.refl _ _).alloc
  have hbw : Below w.heap.size w w1 := hG.below0 hs.size
  have hk : KeepD w w1 := hG.keep True.intro
  have sz_w1 : w.heap.size ≤ w.heap.size := hs.size
  have Blc : Bx w1 (w.heap.size) 66 #[.int .i64 n, .int .i64 f] := by rw [hW]; exact (Bx.new0 _ _ _)
  replace hs := hs.trans hbw
  clear hW hG hk hbw
  have hz_w1 : w.heap.size < w1.heap.size := Blc.lt
  go_ret
  exact ⟨rfl, hs⟩

set_option maxRecDepth 100000 in
set_option maxHeartbeats 4000000 in
theorem r8_One_3 {n f : Int} (w : World) (h1 : 1 ≤ n) (h2 : n ≤ 64) (h3 : f < 0) : Calls Tryz.prog 93 #[.agg #[.int .i64 n, .int .i64 f]] w (RetV w (.int .i64 1)) := by
  have hs := Below.refl w.heap.size w
  go_enter Tryz.func93, Tryz.ntmps93
  have q1 : ¬ (n < 1) := (by omega)
  have q1d : (n < 1) = False := eq_false (by omega)
  have q2 : ¬ (64 < n) := (by omega)
  have q2d : ((64 : Int) < n) = False := eq_false (by omega)
  have q3 : f < 0 := (by omega)
  have q3d : (f < 0) = True := eq_true (by omega)
  go_wp2
  refine bodyPost.abs ?_
  intro w1 hW
  have hG : Gr [] w w1 := by rw [hW]; exact (Gr.refl _ _).alloc
  have hbw : Below w.heap.size w w1 := hG.below0 hs.size
  have hk : KeepD w w1 := hG.keep True.intro
  have sz_w1 : w.heap.size ≤ w.heap.size := hs.size
  have Blc : Bx w1 (w.heap.size) 66 #[.int .i64 n, .int .i64 f] := by rw [hW]; exact (Bx.new0 _ _ _)
  replace hs := hs.trans hbw
  clear hW hG hk hbw
  have hz_w1 : w.heap.size < w1.heap.size := Blc.lt
  go_ret
  exact ⟨rfl, hs⟩

set_option maxRecDepth 100000 in
set_option maxHeartbeats 4000000 in
theorem r8_One_4 {n f : Int} (w : World) (h1 : 1 ≤ n) (h2 : n ≤ 64) (h0 : 0 ≤ f) (h3 : n < f) : Calls Tryz.prog 93 #[.agg #[.int .i64 n, .int .i64 f]] w (RetV w (.int .i64 1)) := by
  have hs := Below.refl w.heap.size w
  go_enter Tryz.func93, Tryz.ntmps93
  have q1 : ¬ (n < 1) := (by omega)
  have q1d : (n < 1) = False := eq_false (by omega)
  have q2 : ¬ (64 < n) := (by omega)
  have q2d : ((64 : Int) < n) = False := eq_false (by omega)
  have q3 : ¬ (f < 0) := (by omega)
  have q3d : (f < 0) = False := eq_false (by omega)
  have q4 : n < f := (by omega)
  have q4d : (n < f) = True := eq_true (by omega)
  go_wp2
  refine bodyPost.abs ?_
  intro w1 hW
  have hG : Gr [] w w1 := by rw [hW]; exact (Gr.refl _ _).alloc
  have hbw : Below w.heap.size w w1 := hG.below0 hs.size
  have hk : KeepD w w1 := hG.keep True.intro
  have sz_w1 : w.heap.size ≤ w.heap.size := hs.size
  have Blc : Bx w1 (w.heap.size) 66 #[.int .i64 n, .int .i64 f] := by rw [hW]; exact (Bx.new0 _ _ _)
  replace hs := hs.trans hbw
  clear hW hG hk hbw
  have hz_w1 : w.heap.size < w1.heap.size := Blc.lt
  go_ret
  exact ⟨rfl, hs⟩

theorem r8_One_all {n f : Int} (w : World) {e : Int} (he : (if n < 1 ∨ 64 < n ∨ f < 0 ∨ n < f then (1 : Int) else 0) = e) : Calls Tryz.prog 93 #[.agg #[.int .i64 n, .int .i64 f]] w (RetV w (.int .i64 e)) := by
  subst he
  by_cases h1 : n < 1
  · rw [if_pos (.inl h1)]; exact r8_One_1 w h1
  · by_cases h2 : 64 < n
    · rw [if_pos (.inr (.inl h2))]; exact r8_One_2 w h2
    · by_cases h3 : f < 0
      · rw [if_pos (.inr (.inr (.inl h3)))]; exact r8_One_3 w (by omega) (by omega) h3
      · by_cases h4 : n < f
        · rw [if_pos (.inr (.inr (.inr h4)))]; exact r8_One_4 w (by omega) (by omega) (by omega) h4
        · rw [if_neg (by omega)]; exact r8_One_0 w (by omega) (by omega) (by omega) (by omega)
set_option maxRecDepth 100000 in
set_option maxHeartbeats 4000000 in
theorem cl_check_0 {n f : Int} (w : World) (h1 : 1 ≤ n) (h2 : n ≤ 64) (h0 : 0 ≤ f) (h3 : f ≤ n) : Calls Tryz.prog 87 #[.agg #[.int .i64 n, .int .i64 f]] w (RetV w (.int .i64 0)) := by
  have hs := Below.refl w.heap.size w
  go_enter Tryz.func87, Tryz.ntmps87
  have q1 : ¬ (n < 1) := (by omega)
  have q1d : (n < 1) = False := eq_false (by omega)
  have q2 : ¬ (64 < n) := (by omega)
  have q2d : ((64 : Int) < n) = False := eq_false (by omega)
  have q3 : ¬ (f < 0) := (by omega)
  have q3d : (f < 0) = False := eq_false (by omega)
  have q4 : ¬ (n < f) := (by omega)
  have q4d : (n < f) = False := eq_false (by omega)
  go_wp2
  refine bodyPost.abs ?_
  intro w1 hW
  have hG : Gr [] w w1 := by rw [hW]; exact (Gr.refl _ _).alloc
  have hbw : Below w.heap.size w w1 := hG.below0 hs.size
  have hk : KeepD w w1 := hG.keep True.intro
  have sz_w1 : w.heap.size ≤ w.heap.size := hs.size
  have Blc : Bx w1 (w.heap.size) 57 #[.int .i64 n, .int .i64 f] := by rw [hW]; exact (Bx.new0 _ _ _)
  replace hs := hs.trans hbw
  clear hW hG hk hbw
  have hz_w1 : w.heap.size < w1.heap.size := Blc.lt
  go_ret
  exact ⟨rfl, hs⟩

set_option maxRecDepth 100000 in
set_option maxHeartbeats 4000000 in
theorem cl_check_1 {n f : Int} (w : World) (h1 : n < 1) : Calls Tryz.prog 87 #[.agg #[.int .i64 n, .int .i64 f]] w (RetV w (.int .i64 1)) := by
  have hs := Below.refl w.heap.size w
  go_enter Tryz.func87, Tryz.ntmps87
  have q1 : n < 1 := (by omega)
  have q1d : (n < 1) = True := eq_true (by omega)
  go_wp2
  refine bodyPost.abs ?_
  intro w1 hW
  have hG : Gr [] w w1 := by rw [hW]; exact (Gr.refl _ _).alloc
  have hbw : Below w.heap.size w w1 := hG.below0 hs.size
  have hk : KeepD w w1 := hG.keep True.intro
  have sz_w1 : w.heap.size ≤ w.heap.size := hs.size
  have Blc : Bx w1 (w.heap.size) 57 #[.int .i64 n, .int .i64 f] := by rw [hW]; exact (Bx.new0 _ _ _)
  replace hs := hs.trans hbw
  clear hW hG hk hbw
  have hz_w1 : w.heap.size < w1.heap.size := Blc.lt
  go_ret
  exact ⟨rfl, hs⟩

set_option maxRecDepth 100000 in
set_option maxHeartbeats 4000000 in
theorem cl_check_2 {n f : Int} (w : World) (h1 : 64 < n) : Calls Tryz.prog 87 #[.agg #[.int .i64 n, .int .i64 f]] w (RetV w (.int .i64 1)) := by
  have hs := Below.refl w.heap.size w
  go_enter Tryz.func87, Tryz.ntmps87
  have q1 : ¬ (n < 1) := (by omega)
  have q1d : (n < 1) = False := eq_false (by omega)
  have q2 : 64 < n := (by omega)
  have q2d : ((64 : Int) < n) = True := eq_true (by omega)
  go_wp2
  refine bodyPost.abs ?_
  intro w1 hW
  have hG : Gr [] w w1 := by rw [hW]; exact (Gr.refl _ _).alloc
  have hbw : Below w.heap.size w w1 := hG.below0 hs.size
  have hk : KeepD w w1 := hG.keep True.intro
  have sz_w1 : w.heap.size ≤ w.heap.size := hs.size
  have Blc : Bx w1 (w.heap.size) 57 #[.int .i64 n, .int .i64 f] := by rw [hW]; exact (Bx.new0 _ _ _)
  replace hs := hs.trans hbw
  clear hW hG hk hbw
  have hz_w1 : w.heap.size < w1.heap.size := Blc.lt
  go_ret
  exact ⟨rfl, hs⟩

set_option maxRecDepth 100000 in
set_option maxHeartbeats 4000000 in
theorem cl_check_3 {n f : Int} (w : World) (h1 : 1 ≤ n) (h2 : n ≤ 64) (h3 : f < 0) : Calls Tryz.prog 87 #[.agg #[.int .i64 n, .int .i64 f]] w (RetV w (.int .i64 1)) := by
  have hs := Below.refl w.heap.size w
  go_enter Tryz.func87, Tryz.ntmps87
  have q1 : ¬ (n < 1) := (by omega)
  have q1d : (n < 1) = False := eq_false (by omega)
  have q2 : ¬ (64 < n) := (by omega)
  have q2d : ((64 : Int) < n) = False := eq_false (by omega)
  have q3 : f < 0 := (by omega)
  have q3d : (f < 0) = True := eq_true (by omega)
  go_wp2
  refine bodyPost.abs ?_
  intro w1 hW
  have hG : Gr [] w w1 := by rw [hW]; exact (Gr.refl _ _).alloc
  have hbw : Below w.heap.size w w1 := hG.below0 hs.size
  have hk : KeepD w w1 := hG.keep True.intro
  have sz_w1 : w.heap.size ≤ w.heap.size := hs.size
  have Blc : Bx w1 (w.heap.size) 57 #[.int .i64 n, .int .i64 f] := by rw [hW]; exact (Bx.new0 _ _ _)
  replace hs := hs.trans hbw
  clear hW hG hk hbw
  have hz_w1 : w.heap.size < w1.heap.size := Blc.lt
  go_ret
  exact ⟨rfl, hs⟩

set_option maxRecDepth 100000 in
set_option maxHeartbeats 4000000 in
theorem cl_check_4 {n f : Int} (w : World) (h1 : 1 ≤ n) (h2 : n ≤ 64) (h0 : 0 ≤ f) (h3 : n < f) : Calls Tryz.prog 87 #[.agg #[.int .i64 n, .int .i64 f]] w (RetV w (.int .i64 1)) := by
  have hs := Below.refl w.heap.size w
  go_enter Tryz.func87, Tryz.ntmps87
  have q1 : ¬ (n < 1) := (by omega)
  have q1d : (n < 1) = False := eq_false (by omega)
  have q2 : ¬ (64 < n) := (by omega)
  have q2d : ((64 : Int) < n) = False := eq_false (by omega)
  have q3 : ¬ (f < 0) := (by omega)
  have q3d : (f < 0) = False := eq_false (by omega)
  have q4 : n < f := (by omega)
  have q4d : (n < f) = True := eq_true (by omega)
  go_wp2
  refine bodyPost.abs ?_
  intro w1 hW
  have hG : Gr [] w w1 := by rw [hW]; exact (Gr.refl _ _).alloc
  have hbw : Below w.heap.size w w1 := hG.below0 hs.size
  have hk : KeepD w w1 := hG.keep True.intro
  have sz_w1 : w.heap.size ≤ w.heap.size := hs.size
  have Blc : Bx w1 (w.heap.size) 57 #[.int .i64 n, .int .i64 f] := by rw [hW]; exact (Bx.new0 _ _ _)
  replace hs := hs.trans hbw
  clear hW hG hk hbw
  have hz_w1 : w.heap.size < w1.heap.size := Blc.lt
  go_ret
  exact ⟨rfl, hs⟩

theorem cl_check_all {n f : Int} (w : World) {e : Int} (he : (if n < 1 ∨ 64 < n ∨ f < 0 ∨ n < f then (1 : Int) else 0) = e) : Calls Tryz.prog 87 #[.agg #[.int .i64 n, .int .i64 f]] w (RetV w (.int .i64 e)) := by
  subst he
  by_cases h1 : n < 1
  · rw [if_pos (.inl h1)]; exact cl_check_1 w h1
  · by_cases h2 : 64 < n
    · rw [if_pos (.inr (.inl h2))]; exact cl_check_2 w h2
    · by_cases h3 : f < 0
      · rw [if_pos (.inr (.inr (.inl h3)))]; exact cl_check_3 w (by omega) (by omega) h3
      · by_cases h4 : n < f
        · rw [if_pos (.inr (.inr (.inr h4)))]; exact cl_check_4 w (by omega) (by omega) (by omega) h4
        · rw [if_neg (by omega)]; exact cl_check_0 w (by omega) (by omega) (by omega) (by omega)
theorem r1_New_e {n d : Int} {f : Rat} (w : World) (h : (n : Rat) / (d : Rat) = f) (h1 : 0 ≤ n) (h2 : n ≤ 4294967295) (h3 : 1 ≤ d) (h4 : d ≤ 4294967295) : Calls Tryz.prog 70 #[.int .i64 n, .int .i64 d] w (RetQE w f 0) := by
  subst h
  exact r_New_calls n d w (by omega) (by omega) (by omega) (by omega) (by omega)
set_option maxRecDepth 100000 in
set_option maxHeartbeats 4000000 in
theorem r8_part {S i : Nat} {ii : Int} (w : World) (hii : ii = i) (h0 : 0 < S) (h1 : i ≤ S) (h2 : S ≤ 2000000) : Calls Tryz.prog 97 #[.int .i64 ii, .int .i64 S] w (RetQ w (atQs S i)) := by
  have HII := Lib.hid (show ((ii : Int) : Rat) / ((S : Int) : Rat) = atQs S i by rw [hii]; rfl)
  have b0 : 0 ≤ ii := by omega
  have b1 : ii ≤ 2000000 := by omega
  clear hii
  have hs := Below.refl w.heap.size w
  go_enter Tryz.func97, Tryz.ntmps97
  go_wp2_with fail
  refine Calls.abs ?_
  intro w1 hW
  have hG : Gr [] w w1 := by rw [hW]; exact (Gr.refl _ _).alloc
  have hbw : Below w.heap.size w w1 := hG.below0 hs.size
  have hk : KeepD w w1 := hG.keep True.intro
  have sz_w1 : w.heap.size ≤ w.heap.size := hs.size
  have Blk : Bx w1 (w.heap.size) 36 #[.bool false, .slice none 0 0, .slice none 0 0] := by rw [hW]; exact (Bx.new0 _ _ _)
  replace hs := hs.trans hbw
  clear hW hG hk hbw
  have hz_w1 : w.heap.size < w1.heap.size := Blk.lt
  with_reducible refine (r1_New_e _ HII.out (by omega) (by omega) (by omega) (by omega)).mono ?_
  rintro e w2 ⟨_, rfl, h1, hb⟩
  obtain ⟨sh1, ah1, nh1, ch1, Ah1, Nh1, Ch1, rfl⟩ := h1.shape
  replace hs := bStep hs hb
  replace Blk := Blk.mono hb
  clear hb
  go_upto_region 2 with fail
  refine Code.abs ?_
  intro w3 hW
  have hG : Gr [] w2 w3 := by rw [hW]; exact (Gr.refl _ _).alloc
  have hbw : Below w.heap.size w2 w3 := hG.below0 hs.size
  have hk : KeepD w2 w3 := hG.keep True.intro
  have sz_w3 : w.heap.size ≤ w2.heap.size := hs.size
  have nk_w3 : w.heap.size < w2.heap.size := Blk.lt
  have Blx : Bx w3 (w2.heap.size) 36 #[.bool sh1, .slice ah1 nh1 ch1, .slice Ah1 Nh1 Ch1] := by rw [hW]; exact (Bx.new0 _ _ _)
  replace hs := hs.trans hbw
  replace Blk := hG.bx Blk notMem0
  replace h1 := h1.keep hk
  clear hW hG hk hbw
  have hz_w3 : w2.heap.size < w3.heap.size := Blx.lt
  have cx_0 : w3.cell? ⟨w2.heap.size, 0, none⟩ = some (.bool sh1) := Blx.at 0 rfl
  have cx_1 : w3.cell? ⟨w2.heap.size, 1, none⟩ = some (.slice ah1 nh1 ch1) := Blx.at 1 rfl
  have cx_2 : w3.cell? ⟨w2.heap.size, 2, none⟩ = some (.slice Ah1 Nh1 Ch1) := Blx.at 2 rfl
  have Lx : w2.heap.size < w3.heap.size := Blx.lt
  have ck_0 : w3.cell? ⟨w.heap.size, 0, none⟩ = some (.bool false) := Blk.at 0 rfl
  have ck_1 : w3.cell? ⟨w.heap.size, 1, none⟩ = some (.slice none 0 0) := Blk.at 1 rfl
  have ck_2 : w3.cell? ⟨w.heap.size, 2, none⟩ = some (.slice none 0 0) := Blk.at 2 rfl
  have fk := Blk.free
  have Lk : w.heap.size < w3.heap.size := Blk.lt
  go_wp2
  clear cx_0 cx_1 cx_2 ck_0 ck_1 ck_2 fk Lx Lk
  refine bodyPost.abs ?_
  intro w4 hW
  have hG : Gr [w.heap.size] w3 w4 := by rw [hW]; exact (Gr.refl _ _).set.set.set
  have hsz := hs.size
  have lk := Blk.lt
  have hbw : Below w.heap.size w3 w4 := hG.below1 hs.size (by first | omega | assumption)
  have hk : KeepD w3 w4 := hG.keep ⟨⟨_, Blk.ty, by decide⟩, True.intro⟩
  have Bl1k : Bx w4 (w.heap.size) 36 #[.bool sh1, .slice ah1 nh1 ch1, .slice Ah1 Nh1 Ch1] := by rw [hW]; exact Blk.set3
  replace hs := hs.trans hbw
  replace Blx := hG.bx Blx (notMem1 (by omega))
  replace Blk := Bl1k
  clear Bl1k
  replace h1 := h1.keep hk
  clear hW hG hk hbw hsz lk
  have ck_0 : w4.cell? ⟨w.heap.size, 0, none⟩ = some (.bool sh1) := Blk.at 0 rfl
  have ck_1 : w4.cell? ⟨w.heap.size, 1, none⟩ = some (.slice ah1 nh1 ch1) := Blk.at 1 rfl
  have ck_2 : w4.cell? ⟨w.heap.size, 2, none⟩ = some (.slice Ah1 Nh1 Ch1) := Blk.at 2 rfl
  exact bodyPost_ret (v := .agg #[.bool sh1, .slice ah1 nh1 ch1, .slice Ah1 Nh1 Ch1]) (by simp [results, Tryz.results97, go_sem, ck_0, ck_1, ck_2]) rfl ⟨_, rfl, h1, hs⟩

set_option maxRecDepth 100000 in
set_option maxHeartbeats 4000000 in
theorem r8_sure {v v' : Value} {p u : Rat} {n f : Nat} (w : World) (h2 : n ≤ 64) (h3 : f ≤ n) (hp : RV w v p) (sp : SzQ 1 p) (p0 : 0 ≤ p) (p1 : p ≤ 1) (hu : RV w v' u) (su : SzQ 1 u) {b : Bool} (hq : prvQ n f u p = b) :
    Calls Tryz.prog 96 #[.agg #[.int .i64 n, .int .i64 f], v, v'] w (RetV w (.bool b)) := by
  obtain ⟨shp, ahp, nhp, chp, Ahp, Nhp, Chp, rfl⟩ := hp.shape
  obtain ⟨shu, ahu, nhu, chu, Ahu, Nhu, Chu, rfl⟩ := hu.shape
  have hs := Below.refl w.heap.size w
  have HP := Lib.hid (And.intro p0 p1)
  have HT := Lib.hid ((tl_sz p0 p1 sp n f).mono (show n + 1 ≤ 100 by omega))
  have HQ := Lib.hid hq
  clear p0 p1 hq
  go_enter Tryz.func96, Tryz.ntmps96
  go_upto_region 1 with fail
  refine Code.abs ?_
  intro w1 hW
  have hG : Gr [] w w1 := by rw [hW]; exact (Gr.refl _ _).alloc.alloc.alloc
  have hbw : Below w.heap.size w w1 := hG.below0 hs.size
  have hk : KeepD w w1 := hG.keep True.intro
  have sz_w1 : w.heap.size ≤ w.heap.size := hs.size
  have Blc : Bx w1 (w.heap.size) 66 #[.int .i64 ((n : Int)), .int .i64 ((f : Int))] := by rw [hW]; exact (((Bx.new0 _ _ _).alloc _).alloc _)
  have Blp : Bx w1 (w.heap.size + 1) 36 #[.bool shp, .slice ahp nhp chp, .slice Ahp Nhp Chp] := by rw [hW]; exact ((Bx.new0 _ _ _).alloc _)
  have Blconfidence : Bx w1 (w.heap.size + 1 + 1) 36 #[.bool shu, .slice ahu nhu chu, .slice Ahu Nhu Chu] := by rw [hW]; exact (Bx.new0 _ _ _)
  replace hs := hs.trans hbw
  replace hp := hp.keep hk
  replace hu := hu.keep hk
  clear hW hG hk hbw
  have hz_w1 : w.heap.size + 1 + 1 < w1.heap.size := Blconfidence.lt
  obtain ⟨sg3, Hsg3⟩ : ∃ s : Int, s = sgQ ((tlQ p n f) - (1 - u)) := ⟨_, rfl⟩
  replace Hsg3 := Lib.hid Hsg3
  refine U_region (S := fun w' => w'.cell? ⟨w.heap.size, 0, none⟩ = some (.int .i64 ((n : Int))) ∧ w'.cell? ⟨w.heap.size, 1, none⟩ = some (.int .i64 ((f : Int))) ∧ w'.cell? ⟨w.heap.size + 1, 0, none⟩ = some (.bool shp) ∧ w'.cell? ⟨w.heap.size + 1, 1, none⟩ = some (.slice ahp nhp chp) ∧ w'.cell? ⟨w.heap.size + 1, 2, none⟩ = some (.slice Ahp Nhp Chp) ∧ w'.cell? ⟨w.heap.size + 1 + 1, 0, none⟩ = some (.bool shu) ∧ w'.cell? ⟨w.heap.size + 1 + 1, 1, none⟩ = some (.slice ahu nhu chu) ∧ w'.cell? ⟨w.heap.size + 1 + 1, 2, none⟩ = some (.slice Ahu Nhu Chu)) (by kernel_rfl) 11 ?_
  refine AnyU.abs ?_
  intro w2 hW
  have hb : Below w1.heap.size w1 w2 := by rw [hW]; exact bDrew _
  replace hs := bStep hs hb
  replace Blc := Blc.mono hb
  replace Blp := Blp.mono hb
  replace Blconfidence := Blconfidence.mono hb
  replace hp := hp.mono hb
  replace hu := hu.mono hb
  clear hb hW
  have cc_0 : w2.cell? ⟨w.heap.size, 0, none⟩ = some (.int .i64 ((n : Int))) := Blc.at 0 rfl
  have cc_1 : w2.cell? ⟨w.heap.size, 1, none⟩ = some (.int .i64 ((f : Int))) := Blc.at 1 rfl
  have cp_0 : w2.cell? ⟨w.heap.size + 1, 0, none⟩ = some (.bool shp) := Blp.at 0 rfl
  have cp_1 : w2.cell? ⟨w.heap.size + 1, 1, none⟩ = some (.slice ahp nhp chp) := Blp.at 1 rfl
  have cp_2 : w2.cell? ⟨w.heap.size + 1, 2, none⟩ = some (.slice Ahp Nhp Chp) := Blp.at 2 rfl
  have cconfidence_0 : w2.cell? ⟨w.heap.size + 1 + 1, 0, none⟩ = some (.bool shu) := Blconfidence.at 0 rfl
  have cconfidence_1 : w2.cell? ⟨w.heap.size + 1 + 1, 1, none⟩ = some (.slice ahu nhu chu) := Blconfidence.at 1 rfl
  have cconfidence_2 : w2.cell? ⟨w.heap.size + 1 + 1, 2, none⟩ = some (.slice Ahu Nhu Chu) := Blconfidence.at 2 rfl
  have hH := (show w2.cell? ⟨w.heap.size, 0, none⟩ = some (.int .i64 ((n : Int))) ∧ w2.cell? ⟨w.heap.size, 1, none⟩ = some (.int .i64 ((f : Int))) ∧ w2.cell? ⟨w.heap.size + 1, 0, none⟩ = some (.bool shp) ∧ w2.cell? ⟨w.heap.size + 1, 1, none⟩ = some (.slice ahp nhp chp) ∧ w2.cell? ⟨w.heap.size + 1, 2, none⟩ = some (.slice Ahp Nhp Chp) ∧ w2.cell? ⟨w.heap.size + 1 + 1, 0, none⟩ = some (.bool shu) ∧ w2.cell? ⟨w.heap.size + 1 + 1, 1, none⟩ = some (.slice ahu nhu chu) ∧ w2.cell? ⟨w.heap.size + 1 + 1, 2, none⟩ = some (.slice Ahu Nhu Chu) from ⟨cc_0, cc_1, cp_0, cp_1, cp_2, cconfidence_0, cconfidence_1, cconfidence_2⟩)
  refine U_takeN (i := 0) (d := 7) (v := ?_) rfl rfl rfl (by kernel_rfl) (by kernel_rfl) (by kernel_rfl) (fun _ _ _ h => h) (Or.inl ⟨by rfl, ?_⟩) hH ?_
  rotate_left
  · intro w hSw
    try dsimp only at hSw
    go_simp
    try with_reducible rfl
  simp only [LY]
  refine U_takeN (i := 1) (d := 8) (v := ?_) rfl rfl rfl (by kernel_rfl) (by kernel_rfl) (by kernel_rfl) (fun _ _ _ h => h) (Or.inl ⟨by rfl, ?_⟩) hH ?_
  rotate_left
  · intro w hSw
    try dsimp only at hSw
    go_simp
    try with_reducible rfl
  simp only [LY]
  refine U_takeN (i := 2) (d := 9) (v := ?_) rfl rfl rfl (by kernel_rfl) (by kernel_rfl) (by kernel_rfl) (fun _ _ _ h => h) (Or.inl ⟨by rfl, ?_⟩) hH ?_
  rotate_left
  · intro w hSw
    try dsimp only at hSw
    go_simp
    try with_reducible rfl
  simp only [LY]
  refine U_takeN (i := 3) (d := 10) (v := ?_) rfl rfl rfl (by kernel_rfl) (by kernel_rfl) (by kernel_rfl) (fun _ _ _ h => h) (Or.inl ⟨by rfl, ?_⟩) hH ?_
  rotate_left
  · intro w hSw
    try dsimp only at hSw
    go_simp
    try with_reducible rfl
  simp only [LY]
  refine U_takeN (i := 4) (d := 11) (v := ?_) rfl rfl rfl (by kernel_rfl) (by kernel_rfl) (by kernel_rfl) (fun _ _ _ h => h) (Or.inl ⟨by rfl, ?_⟩) hH ?_
  rotate_left
  · intro w hSw
    try dsimp only at hSw
    go_simp
    try with_reducible rfl
  simp only [LY]
  refine U_takeN (i := 6) (d := 13) (v := ?_) rfl rfl rfl (by kernel_rfl) (by kernel_rfl) (by kernel_rfl) (fun _ _ _ h => h) (Or.inl ⟨by rfl, ?_⟩) hH ?_
  rotate_left
  · intro w hSw
    try dsimp only at hSw
    go_simp
    try with_reducible rfl
  simp only [LY]
  clear hH
  refine U_one (i := 5) (by kernel_rfl) rfl (fun K hK => ?_)
  go_simp
  (with_reducible refine (r8_tail (n := n) (k := (f : Int)) _ hp sp HP.out.1 HP.out.2 (by omega) (by omega) (tailQ_nat n f p)).mono ?_)
  rintro e w3 ⟨_, rfl, h1, hb⟩
  obtain ⟨sh1, ah1, nh1, ch1, Ah1, Nh1, Ch1, rfl⟩ := h1.shape
  replace hs := bStep hs hb
  replace Blc := Blc.mono hb
  replace Blp := Blp.mono hb
  replace Blconfidence := Blconfidence.mono hb
  replace hp := hp.mono hb
  replace hu := hu.mono hb
  replace cc_0 := cellK cc_0 hb
  replace cc_1 := cellK cc_1 hb
  replace cp_0 := cellK cp_0 hb
  replace cp_1 := cellK cp_1 hb
  replace cp_2 := cellK cp_2 hb
  replace cconfidence_0 := cellK cconfidence_0 hb
  replace cconfidence_1 := cellK cconfidence_1 hb
  replace cconfidence_2 := cellK cconfidence_2 hb
  clear hb
  try go_wp2_with fail
  refine hK.out _ _ ⟨cc_0, cc_1, cp_0, cp_1, cp_2, cconfidence_0, cconfidence_1, cconfidence_2⟩ (fun hH => ?_)
  clear hK K
  try simp only [LY]
  clear hH
  refine U_one (i := 7) (by kernel_rfl) rfl (fun K hK => ?_)
  go_simp
  (with_reducible refine (r8_rest _ _ _ hu (SzQ.mid su)).mono ?_)
  rintro e w4 ⟨_, rfl, h2, hb⟩
  obtain ⟨sh2, ah2, nh2, ch2, Ah2, Nh2, Ch2, rfl⟩ := h2.shape
  replace hs := bStep hs hb
  replace Blc := Blc.mono hb
  replace Blp := Blp.mono hb
  replace Blconfidence := Blconfidence.mono hb
  replace hp := hp.mono hb
  replace hu := hu.mono hb
  replace h1 := h1.mono hb
  replace cc_0 := cellK cc_0 hb
  replace cc_1 := cellK cc_1 hb
  replace cp_0 := cellK cp_0 hb
  replace cp_1 := cellK cp_1 hb
  replace cp_2 := cellK cp_2 hb
  replace cconfidence_0 := cellK cconfidence_0 hb
  replace cconfidence_1 := cellK cconfidence_1 hb
  replace cconfidence_2 := cellK cconfidence_2 hb
  clear hb
  try go_wp2_with fail
  refine hK.out _ _ ⟨cc_0, cc_1, cp_0, cp_1, cp_2, cconfidence_0, cconfidence_1, cconfidence_2⟩ (fun hH => ?_)
  clear hK K
  try simp only [LY]
  clear hH
  refine U_one (i := 8) (by kernel_rfl) rfl (fun K hK => ?_)
  go_simp
  (with_reducible refine (rCmp h1 h2 (SzQ.fit HT.out) (SzQ.fit (SzQ.sub szQ_one su))).mono ?_)
  rintro e w5 ⟨rfl, hb⟩
  replace hs := bStep hs hb
  replace Blc := Blc.mono hb
  replace Blp := Blp.mono hb
  replace Blconfidence := Blconfidence.mono hb
  replace hp := hp.mono hb
  replace hu := hu.mono hb
  replace h1 := h1.mono hb
  replace h2 := h2.mono hb
  replace cc_0 := cellK cc_0 hb
  replace cc_1 := cellK cc_1 hb
  replace cp_0 := cellK cp_0 hb
  replace cp_1 := cellK cp_1 hb
  replace cp_2 := cellK cp_2 hb
  replace cconfidence_0 := cellK cconfidence_0 hb
  replace cconfidence_1 := cellK cconfidence_1 hb
  replace cconfidence_2 := cellK cconfidence_2 hb
  clear hb
  rw [← Hsg3.out]
  try go_wp2_with fail
  refine hK.out _ _ ⟨cc_0, cc_1, cp_0, cp_1, cp_2, cconfidence_0, cconfidence_1, cconfidence_2⟩ (fun hH => ?_)
  clear hK K
  try simp only [LY]
  refine U_takeN (i := 9) (d := 16) (v := ?_) rfl rfl rfl (by kernel_rfl) (by kernel_rfl) (by kernel_rfl) (fun _ _ _ h => h) (Or.inl ⟨by rfl, ?_⟩) hH ?_
  rotate_left
  · intro w hSw
    try dsimp only at hSw
    go_simp
    try with_reducible rfl
  simp only [LY]
  refine U_takeN (i := 10) (d := 6) (v := ?_) rfl rfl rfl (by kernel_rfl) (by kernel_rfl) (by kernel_rfl) (fun _ _ _ h => h) (Or.inl ⟨by rfl, ?_⟩) hH ?_
  rotate_left
  · intro w hSw
    try dsimp only at hSw
    go_simp
    try with_reducible rfl
  simp only [LY]
  clear hH
  refine U_endN (by kernel_rfl) ?_
  clear cc_0 cc_1 cp_0 cp_1 cp_2 cconfidence_0 cconfidence_1 cconfidence_2
  by_cases q4 : tlQ p n f ≤ 1 - u
  · have q4_ : sg3 ≤ 0 := by have h := sq_le (tlQ p n f) (1 - u); rw [← Hsg3.out] at h; exact h.2 q4
    have q4H := Lib.hid q4
    clear q4
    have q4d : decide (sg3 ≤ 0) = true := decide_eq_true q4_
    try simp only [q4d]
    go_wp2
    go_ret
    exact ⟨by rw [← HQ.out]; unfold prvQ; rw [decide_eq_true q4H.out]; rfl, hs⟩
  · have q4_ : ¬ (sg3 ≤ 0) := by have h := sq_le (tlQ p n f) (1 - u); rw [← Hsg3.out] at h; exact fun h1 => q4 (h.1 h1)
    have q4H := Lib.hid q4
    clear q4
    have q4d : decide (sg3 ≤ 0) = false := decide_eq_false q4_
    try simp only [q4d]
    go_wp2
    go_ret
    exact ⟨by rw [← HQ.out]; unfold prvQ; rw [decide_eq_false q4H.out]; rfl, hs⟩








/-- What Detected gives, whatever the numbers; and its error. -/
def dtWrong (n f : Int) (u : Rat) : Prop := (n < 1 ∨ 64 < n ∨ f < 0 ∨ n < f) ∨ ¬ (0 ≤ u ∧ u ≤ 1)
instance (n f : Int) (u : Rat) : Decidable (dtWrong n f u) := by unfold dtWrong; infer_instance

end Go.Proofs.YtmnipggjjcmjkaaGreat
