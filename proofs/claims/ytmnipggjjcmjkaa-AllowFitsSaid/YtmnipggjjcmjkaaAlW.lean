/-
  allow: a class's share, the error of classes, Rising.
-/
import Derived.Test.YtmnipggjjcmjkaaPavS
import Derived.Test.YtmnipggjjcmjkaaAlG
set_option linter.unusedSimpArgs false
set_option linter.unusedVariables false
namespace Go.Proofs.Ytmnipggjjcmjkaa
open Go.RowKit Dg
attribute [local go_sem ↓] Go.wp_at_zero Go.wp_at_succ

set_option maxRecDepth 100000 in
set_option maxHeartbeats 4000000 in
theorem cl_share {t f : Int} (w : World) (h1 : 1 ≤ t) (h2 : t ≤ 1048576) (h3 : 0 ≤ f) (h4 : f ≤ 1048576) : Calls Try.prog 59 #[.agg #[.int .i64 t, .int .i64 f]] w (RetP w (shQ (t, f))) := by
  have hs := Below.refl w.heap.size w
  go_enter Try.func59, Try.ntmps59
  go_wp2_with fail
  refine Calls.abs ?_
  intro w1 hW
  have hG : Gr [] w w1 := by rw [hW]; exact (Gr.refl _ _).alloc.alloc
  have hbw : Below w.heap.size w w1 := hG.below0 hs.size
  have hk : KeepD w w1 := hG.keep True.intro
  have sz_w1 : w.heap.size ≤ w.heap.size := hs.size
  have Blc : Bx w1 (w.heap.size) 48 #[.int .i64 t, .int .i64 f] := by rw [hW]; exact ((Bx.new0 _ _ _).alloc _)
  have Blk : Bx w1 (w.heap.size + 1) 26 #[.bool false, .slice none 0 0, .slice none 0 0] := by rw [hW]; exact (Bx.new0 _ _ _)
  replace hs := hs.trans hbw
  clear hW hG hk hbw
  have hz_w1 : w.heap.size + 1 < w1.heap.size := Blk.lt
  with_reducible refine (al_New_e _ rfl (by omega) (by omega) (by omega) (by omega)).mono ?_
  rintro e w2 ⟨_, rfl, h1, hb⟩
  obtain ⟨sh1, ah1, nh1, ch1, Ah1, Nh1, Ch1, rfl⟩ := h1.shape
  replace hs := bStep hs hb
  replace Blc := Blc.mono hb
  replace Blk := Blk.mono hb
  clear hb
  go_upto_region 2 with fail
  refine Code.abs ?_
  intro w3 hW
  have hG : Gr [] w2 w3 := by rw [hW]; exact (Gr.refl _ _).alloc
  have hbw : Below w.heap.size w2 w3 := hG.below0 hs.size
  have hk : KeepD w2 w3 := hG.keep True.intro
  have sz_w3 : w.heap.size ≤ w2.heap.size := hs.size
  have nc_w3 : w.heap.size < w2.heap.size := Blc.lt
  have nk_w3 : w.heap.size + 1 < w2.heap.size := Blk.lt
  have Blx : Bx w3 (w2.heap.size) 26 #[.bool sh1, .slice ah1 nh1 ch1, .slice Ah1 Nh1 Ch1] := by rw [hW]; exact (Bx.new0 _ _ _)
  replace hs := hs.trans hbw
  replace Blc := hG.bx Blc notMem0
  replace Blk := hG.bx Blk notMem0
  replace h1 := h1.keep hk
  clear hW hG hk hbw
  have hz_w3 : w2.heap.size < w3.heap.size := Blx.lt
  have cx_0 : w3.cell? ⟨w2.heap.size, 0, none⟩ = some (.bool sh1) := Blx.at 0 rfl
  have cx_1 : w3.cell? ⟨w2.heap.size, 1, none⟩ = some (.slice ah1 nh1 ch1) := Blx.at 1 rfl
  have cx_2 : w3.cell? ⟨w2.heap.size, 2, none⟩ = some (.slice Ah1 Nh1 Ch1) := Blx.at 2 rfl
  have Lx : w2.heap.size < w3.heap.size := Blx.lt
  have ck_0 : w3.cell? ⟨w.heap.size + 1, 0, none⟩ = some (.bool false) := Blk.at 0 rfl
  have ck_1 : w3.cell? ⟨w.heap.size + 1, 1, none⟩ = some (.slice none 0 0) := Blk.at 1 rfl
  have ck_2 : w3.cell? ⟨w.heap.size + 1, 2, none⟩ = some (.slice none 0 0) := Blk.at 2 rfl
  have fk := Blk.free
  have Lk : w.heap.size + 1 < w3.heap.size := Blk.lt
  go_wp2
  clear cx_0 cx_1 cx_2 ck_0 ck_1 ck_2 fk Lx Lk
  refine bodyPost.abs ?_
  intro w4 hW
  have hG : Gr [w.heap.size + 1] w3 w4 := by rw [hW]; exact (Gr.refl _ _).set.set.set
  have hsz := hs.size
  have lk := Blk.lt
  have hbw : Below w.heap.size w3 w4 := hG.below1 hs.size (by first | omega | assumption)
  have hk : KeepD w3 w4 := hG.keep ⟨⟨_, Blk.ty, by decide⟩, True.intro⟩
  have Bl1k : Bx w4 (w.heap.size + 1) 26 #[.bool sh1, .slice ah1 nh1 ch1, .slice Ah1 Nh1 Ch1] := by rw [hW]; exact Blk.set3
  replace hs := hs.trans hbw
  replace Blc := hG.bx Blc (notMem1 (by omega))
  replace Blx := hG.bx Blx (notMem1 (by omega))
  replace Blk := Bl1k
  clear Bl1k
  replace h1 := h1.keep hk
  clear hW hG hk hbw hsz lk
  have ck_0 : w4.cell? ⟨w.heap.size + 1, 0, none⟩ = some (.bool sh1) := Blk.at 0 rfl
  have ck_1 : w4.cell? ⟨w.heap.size + 1, 1, none⟩ = some (.slice ah1 nh1 ch1) := Blk.at 1 rfl
  have ck_2 : w4.cell? ⟨w.heap.size + 1, 2, none⟩ = some (.slice Ah1 Nh1 Ch1) := Blk.at 2 rfl
  exact bodyPost_ret (v := .agg #[.bool sh1, .slice ah1 nh1 ch1, .slice Ah1 Nh1 Ch1]) (by simp [results, Try.results59, go_sem, ck_0, ck_1, ck_2]) rfl ⟨_, rfl, h1, hs⟩

set_option maxRecDepth 100000 in
set_option maxHeartbeats 4000000 in
theorem cl_check_ok {n f : Int} (w : World) (h1 : 1 ≤ n) (h2 : n ≤ 64) (h3 : 0 ≤ f) (h4 : f ≤ n) : Calls Try.prog 51 #[.agg #[.int .i64 n, .int .i64 f]] w (RetV w (.int .i64 0)) := by
  have hs := Below.refl w.heap.size w
  go_enter Try.func51, Try.ntmps51
  have q1 : ¬ (n < 1) := (by omega)
  have q1d : (n < 1) = False := eq_false (by omega)
  have q2 : ¬ (64 < n) := (by omega)
  have q2d : ((64 : Int) < n) = False := eq_false (by omega)
  have q3 : ¬ (f < 0) := (by omega)
  have q3d : (f < 0) = False := eq_false (by omega)
  have q4 : ¬ (n < f) := (by omega)
  have q4d : (n < f) = False := eq_false (by omega)
  go_wp2
  refine bodyPost.abs ?_
  intro w1 hW
  have hG : Gr [] w w1 := by rw [hW]; exact (Gr.refl _ _).alloc
  have hbw : Below w.heap.size w w1 := hG.below0 hs.size
  have hk : KeepD w w1 := hG.keep True.intro
  have sz_w1 : w.heap.size ≤ w.heap.size := hs.size
  have Blc : Bx w1 (w.heap.size) 48 #[.int .i64 n, .int .i64 f] := by rw [hW]; exact (Bx.new0 _ _ _)
  replace hs := hs.trans hbw
  clear hW hG hk hbw
  have hz_w1 : w.heap.size < w1.heap.size := Blc.lt
  go_ret
  exact ⟨rfl, hs⟩

set_option maxRecDepth 100000 in
set_option maxHeartbeats 4000000 in
theorem al_checkClasses {v : Value} {L : List Cls} (w : World) (hl : RowsI 2 ClC w v L) (h1 : 1 ≤ L.length) (h16 : L.length ≤ 16) (hok : ∀ c ∈ L, ClOk c) : Calls Try.prog 58 #[v] w (RetV w (.int .i64 0)) := by
  obtain ⟨bhl, ohl, khl, rfl, hl1, hl2⟩ := hl.openI (by omega)
  have HLI := Lib.hid hl
  clear hl
  have HOK := Lib.hid hok
  clear hok
  have hs := Below.refl w.heap.size w
  go_enter Try.func58, Try.ntmps58
  have q1 : ¬ (L.length < 1) := (by omega)
  have q1d : ((L.length : Int) < 1) = False := eq_false (by omega)
  have q2 : ¬ (16 < L.length) := (by omega)
  have q2d : ((16 : Int) < (L.length : Int)) = False := eq_false (by omega)
  go_wp2
  go_loopw [16] (fun s16 wq => ∃ k : Nat, k ≤ L.length ∧ s16 = .int .i64 k ∧ Below w.heap.size w wq) (fun s16 _ => L.length - (intOf s16).toNat)
  case atStart => exact ⟨0, Nat.zero_le _, rfl, hs⟩
  case round =>
    clear hs
    obtain ⟨k, k_le, rfl, hs⟩ := hrel
    by_cases q3 : k < L.length
    · have q3d : ((k : Int) < (L.length : Int)) = True := eq_true (by omega)
      obtain ⟨Ee40, Ee41, le4⟩ := rowClI_at (HLI.out.mono ClC.kept hs) (show k < L.length by omega)
      obtain ⟨te4, Hte4⟩ : ∃ z : Int, z = (clAt L k).1 := ⟨_, rfl⟩
      obtain ⟨fe4, Hfe4⟩ : ∃ z : Int, z = (clAt L k).2 := ⟨_, rfl⟩
      rw [← Hte4] at Ee40
      rw [← Hfe4] at Ee41
      obtain ⟨bte4a, bte4b, bfe4a, bfe4b⟩ : 1 ≤ te4 ∧ te4 ≤ 64 ∧ 0 ≤ fe4 ∧ fe4 ≤ te4 := by rw [Hte4, Hfe4]; exact HOK.out _ (List.mem_of_getElem? (clAt_some (by omega)))
      replace Hte4 := Lib.hid Hte4.symm
      replace Hfe4 := Lib.hid Hfe4.symm
      go_wp2_with fail
      clear le4 Ee40 Ee41
      refine Calls.abs ?_
      intro w21 hW
      have hG : Gr [] wr w21 := by rw [hW]; exact (Gr.refl _ _).alloc
      have hbw : Below w.heap.size wr w21 := hG.below0 hs.size
      have hk : KeepD wr w21 := hG.keep True.intro
      have sz_w21 : w.heap.size ≤ wr.heap.size := hs.size
      have Blc : Bx w21 (wr.heap.size) 48 #[.int .i64 te4, .int .i64 fe4] := by rw [hW]; exact (Bx.new0 _ _ _)
      replace hs := hs.trans hbw
      clear hW hG hk hbw
      have hz_w21 : wr.heap.size < w21.heap.size := Blc.lt
      with_reducible refine (cl_check_ok _ (by omega) (by omega) (by omega) (by omega)).mono ?_
      rintro e w22 ⟨rfl, hb⟩
      replace hs := bStep hs hb
      replace Blc := Blc.mono hb
      clear hb
      go_wp2
      go_roundw
      case rel => exact ⟨k + 1, by omega, by go_num, hs⟩
      all_goals first | (simp [intOf]; done) | (simp [intOf]; omega)
    · have q3d : ((k : Int) < (L.length : Int)) = False := eq_false (by omega)
      go_wp2
      go_ret
      exact ⟨rfl, hs⟩

end Go.Proofs.Ytmnipggjjcmjkaa
