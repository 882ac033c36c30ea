/-
  Classes that are not right: the errors, on both sides.
-/
import Derived.Test.YtmnipggjjcmjkaaGreatPkAlWQ
import Derived.Test.YtmnipggjjcmjkaaGreatPkAlXQ
import Derived.Test.YtmnipggjjcmjkaaGreatAlUQ
import Derived.Test.YtmnipggjjcmjkaaGreatPkLawQ
set_option linter.unusedSimpArgs false
set_option linter.unusedVariables false
namespace Go.Proofs.YtmnipggjjcmjkaaGreat
open Go.RowKit Dg
attribute [local go_sem ↓] Go.wp_at_zero Go.wp_at_succ

theorem cl_iff {L : List Cls} {k : Nat} {t f e : Int} (ht : (clAt L k).1 = t) (hf : (clAt L k).2 = f) (he : (if clB (clAt L k) = true then (0 : Int) else 1) = e) : (if t < 1 ∨ 64 < t ∨ f < 0 ∨ t < f then (1 : Int) else 0) = e := by
  subst ht hf he
  by_cases h : clB (clAt L k) = true
  · have := clB_ok.1 h
    unfold ClOk at this
    rw [if_pos h, if_neg (by omega)]
  · rw [if_neg h, if_pos]
    have h2 : ¬ ClOk (clAt L k) := fun e => h (clB_ok.2 e)
    unfold ClOk at h2
    omega
theorem cl_e0 {c : Cls} {e : Int} (he : (if clB c = true then (0 : Int) else 1) = e) (h : e = 0) : clB c = true := by
  by_cases hb : clB c = true
  · exact hb
  · rw [if_neg hb] at he; omega
theorem cl_e1 {c : Cls} {e : Int} (he : (if clB c = true then (0 : Int) else 1) = e) (h : ¬ e = 0) : clB c = false ∧ e = 1 := by
  cases hb : clB c
  · rw [hb] at he; exact ⟨rfl, he.symm⟩
  · rw [hb] at he; exact absurd he.symm h

set_option maxRecDepth 100000 in
set_option maxHeartbeats 4000000 in
theorem al_checkClasses_few {v : Value} {L : List Cls} (w : World) (hl : RowsI 2 ClC w v L) (h1 : L.length < 1) {W : Int} (hW : clE L = W) : Calls Tryz.prog 101 #[v] w (RetV w (.int .i64 W)) := by
  obtain ⟨ao, cap, rfl, hc1, hc2, hc3⟩ := hl.slice
  have hs := Below.refl w.heap.size w
  have HW := Lib.hid hW
  clear hW hl
  go_enter Tryz.func101, Tryz.ntmps101
  have q1 : L.length < 1 := (by omega)
  have q1d : ((L.length : Int) < 1) = True := eq_true (by omega)
  go_wp2
  go_ret
  exact ⟨by rw [← HW.out, clE_few (by omega)]; rfl, hs⟩

set_option maxRecDepth 100000 in
set_option maxHeartbeats 4000000 in
theorem al_checkClasses_many {v : Value} {L : List Cls} (w : World) (hl : RowsI 2 ClC w v L) (h1 : 16 < L.length) {W : Int} (hW : clE L = W) : Calls Tryz.prog 101 #[v] w (RetV w (.int .i64 W)) := by
  obtain ⟨ao, cap, rfl, hc1, hc2, hc3⟩ := hl.slice
  have hs := Below.refl w.heap.size w
  have HW := Lib.hid hW
  clear hW hl
  go_enter Tryz.func101, Tryz.ntmps101
  have q1 : ¬ (L.length < 1) := (by omega)
  have q1d : ((L.length : Int) < 1) = False := eq_false (by omega)
  have q2 : 16 < L.length := (by omega)
  have q2d : ((16 : Int) < (L.length : Int)) = True := eq_true (by omega)
  go_wp2
  go_ret
  exact ⟨by rw [← HW.out, clE_many (by omega)]; rfl, hs⟩

set_option maxRecDepth 100000 in
set_option maxHeartbeats 4000000 in
theorem al_checkClasses_in {v : Value} {L : List Cls} (w : World) (hl : RowsI 2 ClC w v L) (h1 : 1 ≤ L.length) (h16 : L.length ≤ 16) {W : Int} (hW : clE L = W) : Calls Tryz.prog 101 #[v] w (RetV w (.int .i64 W)) := by
  obtain ⟨bhl, ohl, khl, rfl, hl1, hl2⟩ := hl.openI (by omega)
  have HLI := Lib.hid hl
  clear hl
  have hs := Below.refl w.heap.size w
  have HW := Lib.hid hW
  clear hW
  go_enter Tryz.func101, Tryz.ntmps101
  have q1 : ¬ (L.length < 1) := (by omega)
  have q1d : ((L.length : Int) < 1) = False := eq_false (by omega)
  have q2 : ¬ (16 < L.length) := (by omega)
  have q2d : ((16 : Int) < (L.length : Int)) = False := eq_false (by omega)
  go_wp2
  go_loopw [16] (fun s16 wq => ∃ k : Nat, k ≤ L.length ∧ s16 = .int .i64 k ∧ Below w.heap.size w wq ∧ ((L.take k).all clB = true)) (fun s16 _ => L.length - (intOf s16).toNat)
  case atStart => exact ⟨0, Nat.zero_le _, rfl, hs, rfl⟩
  case round =>
    clear hs
    obtain ⟨k, k_le, rfl, hs, HI⟩ := hrel
    replace HI := Lib.hid HI
    by_cases q3 : k < L.length
    · have q3d : ((k : Int) < (L.length : Int)) = True := eq_true (by omega)
      obtain ⟨Ee40, Ee41, le4⟩ := rowClI_at (HLI.out.mono ClC.kept hs) (show k < L.length by omega)
      obtain ⟨te4, Hte4⟩ : ∃ z : Int, z = (clAt L k).1 := ⟨_, rfl⟩
      obtain ⟨fe4, Hfe4⟩ : ∃ z : Int, z = (clAt L k).2 := ⟨_, rfl⟩
      rw [← Hte4] at Ee40
      rw [← Hfe4] at Ee41
      replace Hte4 := Lib.hid Hte4.symm
      replace Hfe4 := Lib.hid Hfe4.symm
      go_wp2_with fail
      clear le4 Ee40 Ee41
      refine Calls.abs ?_
      intro w21 hW
      have hG : Gr [] wr w21 := by rw [hW]; exact (Gr.refl _ _).alloc
      have hbw : Below w.heap.size wr w21 := hG.below0 hs.size
      have hk : KeepD wr w21 := hG.keep True.intro
      have sz_w21 : w.heap.size ≤ wr.heap.size := hs.size
      have Blc : Bx w21 (wr.heap.size) 57 #[.int .i64 te4, .int .i64 fe4] := by rw [hW]; exact (Bx.new0 _ _ _)
      replace hs := hs.trans hbw
      clear hW hG hk hbw
      have hz_w21 : wr.heap.size < w21.heap.size := Blc.lt
      obtain ⟨er5, Her5⟩ : ∃ z : Int, (if clB (clAt L k) = true then (0 : Int) else 1) = z := ⟨_, rfl⟩
      replace Her5 := Lib.hid Her5
      with_reducible refine (cl_check_all (n := te4) (f := fe4) _ (cl_iff Hte4.out Hfe4.out Her5.out)).mono ?_
      rintro e w22 ⟨rfl, hb⟩
      replace hs := bStep hs hb
      replace Blc := Blc.mono hb
      clear hb
      by_cases q6 : er5 = 0
      · have q6b : (er5 == 0) = true := beq_iff_eq.2 (by omega)
        have q6n : (er5 != 0) = false := bne_eq_false_iff_eq.2 (by omega)
        have q6H := Lib.hid q6
        clear q6
        go_wp2
        go_roundw
        case rel => exact ⟨k + 1, by omega, by go_num, hs, all_succ (show k < L.length by omega) HI.out (cl_e0 Her5.out q6H.out)⟩
        all_goals first | (simp [intOf]; done) | (simp [intOf]; omega)
      · have q6b : (er5 == 0) = false := beq_eq_false_iff_ne.2 (by omega)
        have q6n : (er5 != 0) = true := bne_iff_ne.2 (by omega)
        have q6H := Lib.hid q6
        clear q6
        go_wp2
        go_ret
        exact ⟨by rw [← HW.out, clE_bad (by omega) (by omega) (show k < L.length by omega) (cl_e1 Her5.out q6H.out).1, (cl_e1 Her5.out q6H.out).2]; rfl, hs⟩
    · have q3d : ((k : Int) < (L.length : Int)) = False := eq_false (by omega)
      go_wp2
      go_ret
      exact ⟨by rw [← HW.out, clE_ok (by omega) (by omega) (show L.all clB = true by have h := HI.out; rwa [List.take_of_length_le (by omega)] at h)]; rfl, hs⟩

theorem al_checkClasses_all {v : Value} {L : List Cls} (w : World) (hl : RowsI 2 ClC w v L) {W : Int} (hW : clE L = W) : Calls Tryz.prog 101 #[v] w (RetV w (.int .i64 W)) := by
  by_cases h1 : L.length < 1
  · exact al_checkClasses_few w hl h1 hW
  · by_cases h2 : 16 < L.length
    · exact al_checkClasses_many w hl h2 hW
    · exact al_checkClasses_in w hl (by omega) (by omega) hW

set_option maxRecDepth 100000 in
set_option maxHeartbeats 4000000 in
theorem r8_Classes_few {v : Value} {L : List Cls} (w : World) (hl : RowsI 2 ClC w v L) (h1 : L.length < 1) {W : Int} (hW : clE L = W) : Calls Tryz.prog 35 #[v] w (RetV w (.int .i64 W)) := by
  obtain ⟨ao, cap, rfl, hc1, hc2, hc3⟩ := hl.slice
  have hs := Below.refl w.heap.size w
  have HW := Lib.hid hW
  clear hW hl
  go_enter Tryz.func35, Tryz.ntmps35
  have q1 : L.length < 1 := (by omega)
  have q1d : ((L.length : Int) < 1) = True := eq_true (by omega)
  go_wp2
  go_ret
  exact ⟨by rw [← HW.out, clE_few (by omega)]; rfl, hs⟩

set_option maxRecDepth 100000 in
set_option maxHeartbeats 4000000 in
theorem r8_Classes_many {v : Value} {L : List Cls} (w : World) (hl : RowsI 2 ClC w v L) (h1 : 16 < L.length) {W : Int} (hW : clE L = W) : Calls Tryz.prog 35 #[v] w (RetV w (.int .i64 W)) := by
  obtain ⟨ao, cap, rfl, hc1, hc2, hc3⟩ := hl.slice
  have hs := Below.refl w.heap.size w
  have HW := Lib.hid hW
  clear hW hl
  go_enter Tryz.func35, Tryz.ntmps35
  have q1 : ¬ (L.length < 1) := (by omega)
  have q1d : ((L.length : Int) < 1) = False := eq_false (by omega)
  have q2 : 16 < L.length := (by omega)
  have q2d : ((16 : Int) < (L.length : Int)) = True := eq_true (by omega)
  go_wp2
  go_ret
  exact ⟨by rw [← HW.out, clE_many (by omega)]; rfl, hs⟩

set_option maxRecDepth 100000 in
set_option maxHeartbeats 4000000 in
theorem r8_Classes_in {v : Value} {L : List Cls} (w : World) (hl : RowsI 2 ClC w v L) (h1 : 1 ≤ L.length) (h16 : L.length ≤ 16) {W : Int} (hW : clE L = W) : Calls Tryz.prog 35 #[v] w (RetV w (.int .i64 W)) := by
  obtain ⟨bhl, ohl, khl, rfl, hl1, hl2⟩ := hl.openI (by omega)
  have HLI := Lib.hid hl
  clear hl
  have hs := Below.refl w.heap.size w
  have HW := Lib.hid hW
  clear hW
  go_enter Tryz.func35, Tryz.ntmps35
  have q1 : ¬ (L.length < 1) := (by omega)
  have q1d : ((L.length : Int) < 1) = False := eq_false (by omega)
  have q2 : ¬ (16 < L.length) := (by omega)
  have q2d : ((16 : Int) < (L.length : Int)) = False := eq_false (by omega)
  go_wp2
  go_loopw [3] (fun s3 wq => ∃ k : Nat, k ≤ L.length ∧ s3 = .int .i64 k ∧ Below w.heap.size w wq ∧ ((L.take k).all clB = true)) (fun s3 _ => L.length - (intOf s3).toNat)
  case atStart => exact ⟨0, Nat.zero_le _, rfl, hs, rfl⟩
  case round =>
    clear hs
    obtain ⟨k, k_le, rfl, hs, HI⟩ := hrel
    replace HI := Lib.hid HI
    by_cases q3 : k < L.length
    · have q3d : ((k : Int) < (L.length : Int)) = True := eq_true (by omega)
      obtain ⟨Ee40, Ee41, le4⟩ := rowClI_at (HLI.out.mono ClC.kept hs) (show k < L.length by omega)
      obtain ⟨te4, Hte4⟩ : ∃ z : Int, z = (clAt L k).1 := ⟨_, rfl⟩
      obtain ⟨fe4, Hfe4⟩ : ∃ z : Int, z = (clAt L k).2 := ⟨_, rfl⟩
      rw [← Hte4] at Ee40
      rw [← Hfe4] at Ee41
      replace Hte4 := Lib.hid Hte4.symm
      replace Hfe4 := Lib.hid Hfe4.symm
      go_wp2_with fail
      clear le4 Ee40 Ee41
      obtain ⟨er5, Her5⟩ : ∃ z : Int, (if clB (clAt L k) = true then (0 : Int) else 1) = z := ⟨_, rfl⟩
      replace Her5 := Lib.hid Her5
      with_reducible refine (r8_One_all (n := te4) (f := fe4) _ (cl_iff Hte4.out Hfe4.out Her5.out)).mono ?_
      rintro e w21 ⟨rfl, hb⟩
      replace hs := bStep hs hb
      clear hb
      by_cases q6 : er5 = 0
      · have q6b : (er5 == 0) = true := beq_iff_eq.2 (by omega)
        have q6n : (er5 != 0) = false := bne_eq_false_iff_eq.2 (by omega)
        have q6H := Lib.hid q6
        clear q6
        go_wp2
        go_roundw
        case rel => exact ⟨k + 1, by omega, by go_num, hs, all_succ (show k < L.length by omega) HI.out (cl_e0 Her5.out q6H.out)⟩
        all_goals first | (simp [intOf]; done) | (simp [intOf]; omega)
      · have q6b : (er5 == 0) = false := beq_eq_false_iff_ne.2 (by omega)
        have q6n : (er5 != 0) = true := bne_iff_ne.2 (by omega)
        have q6H := Lib.hid q6
        clear q6
        go_wp2
        go_ret
        exact ⟨by rw [← HW.out, clE_bad (by omega) (by omega) (show k < L.length by omega) (cl_e1 Her5.out q6H.out).1, (cl_e1 Her5.out q6H.out).2]; rfl, hs⟩
    · have q3d : ((k : Int) < (L.length : Int)) = False := eq_false (by omega)
      go_wp2
      go_ret
      exact ⟨by rw [← HW.out, clE_ok (by omega) (by omega) (show L.all clB = true by have h := HI.out; rwa [List.take_of_length_le (by omega)] at h)]; rfl, hs⟩

theorem r8_Classes_all {v : Value} {L : List Cls} (w : World) (hl : RowsI 2 ClC w v L) {W : Int} (hW : clE L = W) : Calls Tryz.prog 35 #[v] w (RetV w (.int .i64 W)) := by
  by_cases h1 : L.length < 1
  · exact r8_Classes_few w hl h1 hW
  · by_cases h2 : 16 < L.length
    · exact r8_Classes_many w hl h2 hW
    · exact r8_Classes_in w hl (by omega) (by omega) hW

set_option maxRecDepth 100000 in
set_option maxHeartbeats 4000000 in
theorem al_Rising_bad {v : Value} {L : List Cls}  (w : World) (hl : RowsI 2 ClC w v L) {W : Int} (hW : clE L = W) (hn : ¬ W = 0) : Calls Tryz.prog 36 #[v] w (RetV w (.tuple #[.slice none 0 0, .int .i64 W])) := by
  obtain ⟨ao, cap, rfl, hc1, hc2, hc3⟩ := hl.slice
  have hs := Below.refl w.heap.size w
  have HW := Lib.hid hW
  have HLL := Lib.hid hl
  have HWN := Lib.hid hn
  clear hW hl hn
  go_enter Tryz.func36, Tryz.ntmps36
  go_wp2_with fail
  with_reducible refine (al_checkClasses_all _ (HLL.out.mono ClC.kept hs) HW.out).mono ?_
  rintro e w1 ⟨rfl, hb⟩
  replace hs := bStep hs hb
  clear hb
  have q1 : ¬ (W = 0) := HWN.out
  have q1b : (W == 0) = false := beq_eq_false_iff_ne.2 (by omega)
  have q1n : (W != 0) = true := bne_iff_ne.2 (by omega)
  have q1H := Lib.hid q1
  clear q1
  go_wp2
  go_ret2
  exact ⟨rfl, hs⟩

set_option maxRecDepth 100000 in
set_option maxHeartbeats 4000000 in
theorem al_Misfit_bad {v : Value} {L : List Cls} {v' : Value} {C : List Rat} (w : World) (hl : RowsI 2 ClC w v L) {W : Int} (hW : clE L = W) (hc : Rows 3 29 PC w v' C) (hn : ¬ W = 0) : Calls Tryz.prog 37 #[v, v'] w (RetPE w 0 W) := by
  obtain ⟨ao, cap, rfl, hc1, hc2, hc3⟩ := hl.slice
  obtain ⟨a2, c2, rfl, hd1, hd2, hd3⟩ := hc.toI.slice
  clear hc
  have hs := Below.refl w.heap.size w
  have HW := Lib.hid hW
  have HLL := Lib.hid hl
  have HWN := Lib.hid hn
  clear hW hl hn
  go_enter Tryz.func37, Tryz.ntmps37
  go_wp2_with fail
  refine Calls.abs ?_
  intro w1 hW
  have hG : Gr [] w w1 := by rw [hW]; exact (Gr.refl _ _).alloc
  have hbw : Below w.heap.size w w1 := hG.below0 hs.size
  have hk : KeepD w w1 := hG.keep True.intro
  have sz_w1 : w.heap.size ≤ w.heap.size := hs.size
  have Blk : Bx w1 (w.heap.size) 29 #[.bool false, .slice none 0 0, .slice none 0 0] := by rw [hW]; exact (Bx.new0 _ _ _)
  replace hs := hs.trans hbw
  clear hW hG hk hbw
  have hz_w1 : w.heap.size < w1.heap.size := Blk.lt
  with_reducible refine (al_checkClasses_all _ (HLL.out.mono ClC.kept hs) HW.out).mono ?_
  rintro e w2 ⟨rfl, hb⟩
  replace hs := bStep hs hb
  replace Blk := Blk.mono hb
  clear hb
  have q1 : ¬ (W = 0) := HWN.out
  have q1b : (W == 0) = false := beq_eq_false_iff_ne.2 (by omega)
  have q1n : (W != 0) = true := bne_iff_ne.2 (by omega)
  have q1H := Lib.hid q1
  clear q1
  have ck_0 : w2.cell? ⟨w.heap.size, 0, none⟩ = some (.bool false) := Blk.at 0 rfl
  have ck_1 : w2.cell? ⟨w.heap.size, 1, none⟩ = some (.slice none 0 0) := Blk.at 1 rfl
  have ck_2 : w2.cell? ⟨w.heap.size, 2, none⟩ = some (.slice none 0 0) := Blk.at 2 rfl
  have fk := Blk.free
  have Lk : w.heap.size < w2.heap.size := Blk.lt
  go_wp2
  clear ck_0 ck_1 ck_2 fk Lk
  refine bodyPost.abs ?_
  intro w3 hW
  have hG : Gr [w.heap.size] w2 w3 := by rw [hW]; exact (Gr.refl _ _).set.set.set
  have hsz := hs.size
  have lk := Blk.lt
  have hbw : Below w.heap.size w2 w3 := hG.below1 hs.size (by first | omega | assumption)
  have hk : KeepD w2 w3 := hG.keep ⟨⟨_, Blk.ty, by decide⟩, True.intro⟩
  have Bl1k : Bx w3 (w.heap.size) 29 #[.bool false, .slice none 0 0, .slice none 0 0] := by rw [hW]; exact Blk.set3
  replace hs := hs.trans hbw
  replace Blk := Bl1k
  clear Bl1k
  clear hW hG hk hbw hsz lk
  have ck_0 : w3.cell? ⟨w.heap.size, 0, none⟩ = some (.bool false) := Blk.at 0 rfl
  have ck_1 : w3.cell? ⟨w.heap.size, 1, none⟩ = some (.slice none 0 0) := Blk.at 1 rfl
  have ck_2 : w3.cell? ⟨w.heap.size, 2, none⟩ = some (.slice none 0 0) := Blk.at 2 rfl
  exact bodyPost_ret (v := .tuple #[.agg #[.bool false, .slice none 0 0, .slice none 0 0], .int .i64 W]) (by simp [results, Tryz.results37, go_sem, ck_0, ck_1, ck_2]) rfl ⟨_, rfl, (PV.zero _), hs⟩

set_option maxRecDepth 100000 in
set_option maxHeartbeats 4000000 in
theorem al_Misfit_size {v : Value} {L : List Cls} {v' : Value} {C : List Rat} (w : World) (hl : RowsI 2 ClC w v L) {W : Int} (hW : clE L = W) (hc : Rows 3 29 PC w v' C) (hn : W = 0) (hC : ¬ C.length = L.length) : Calls Tryz.prog 37 #[v, v'] w (RetPE w 0 4) := by
  obtain ⟨ao, cap, rfl, hc1, hc2, hc3⟩ := hl.slice
  obtain ⟨a2, c2, rfl, hd1, hd2, hd3⟩ := hc.toI.slice
  clear hc
  have hs := Below.refl w.heap.size w
  have HW := Lib.hid hW
  have HLL := Lib.hid hl
  have HWN := Lib.hid hn
  clear hW hl hn
  go_enter Tryz.func37, Tryz.ntmps37
  go_wp2_with fail
  refine Calls.abs ?_
  intro w1 hW
  have hG : Gr [] w w1 := by rw [hW]; exact (Gr.refl _ _).alloc
  have hbw : Below w.heap.size w w1 := hG.below0 hs.size
  have hk : KeepD w w1 := hG.keep True.intro
  have sz_w1 : w.heap.size ≤ w.heap.size := hs.size
  have Blk : Bx w1 (w.heap.size) 29 #[.bool false, .slice none 0 0, .slice none 0 0] := by rw [hW]; exact (Bx.new0 _ _ _)
  replace hs := hs.trans hbw
  clear hW hG hk hbw
  have hz_w1 : w.heap.size < w1.heap.size := Blk.lt
  with_reducible refine (al_checkClasses_all _ (HLL.out.mono ClC.kept hs) HW.out).mono ?_
  rintro e w2 ⟨rfl, hb⟩
  replace hs := bStep hs hb
  replace Blk := Blk.mono hb
  clear hb
  have q1 : W = 0 := HWN.out
  have q1b : (W == 0) = true := beq_iff_eq.2 (by omega)
  have q1n : (W != 0) = false := bne_eq_false_iff_eq.2 (by omega)
  have q1H := Lib.hid q1
  clear q1
  have q2 : ¬ (C.length = L.length) := hC
  have q2b : ((C.length : Int) == (L.length : Int)) = false := beq_eq_false_iff_ne.2 (by omega)
  have q2n : ((C.length : Int) != (L.length : Int)) = true := bne_iff_ne.2 (by omega)
  have q2H := Lib.hid q2
  clear q2
  have ck_0 : w2.cell? ⟨w.heap.size, 0, none⟩ = some (.bool false) := Blk.at 0 rfl
  have ck_1 : w2.cell? ⟨w.heap.size, 1, none⟩ = some (.slice none 0 0) := Blk.at 1 rfl
  have ck_2 : w2.cell? ⟨w.heap.size, 2, none⟩ = some (.slice none 0 0) := Blk.at 2 rfl
  have fk := Blk.free
  have Lk : w.heap.size < w2.heap.size := Blk.lt
  go_wp2
  clear ck_0 ck_1 ck_2 fk Lk
  refine bodyPost.abs ?_
  intro w3 hW
  have hG : Gr [w.heap.size] w2 w3 := by rw [hW]; exact (Gr.refl _ _).set.set.set
  have hsz := hs.size
  have lk := Blk.lt
  have hbw : Below w.heap.size w2 w3 := hG.below1 hs.size (by first | omega | assumption)
  have hk : KeepD w2 w3 := hG.keep ⟨⟨_, Blk.ty, by decide⟩, True.intro⟩
  have Bl1k : Bx w3 (w.heap.size) 29 #[.bool false, .slice none 0 0, .slice none 0 0] := by rw [hW]; exact Blk.set3
  replace hs := hs.trans hbw
  replace Blk := Bl1k
  clear Bl1k
  clear hW hG hk hbw hsz lk
  have ck_0 : w3.cell? ⟨w.heap.size, 0, none⟩ = some (.bool false) := Blk.at 0 rfl
  have ck_1 : w3.cell? ⟨w.heap.size, 1, none⟩ = some (.slice none 0 0) := Blk.at 1 rfl
  have ck_2 : w3.cell? ⟨w.heap.size, 2, none⟩ = some (.slice none 0 0) := Blk.at 2 rfl
  exact bodyPost_ret (v := .tuple #[.agg #[.bool false, .slice none 0 0, .slice none 0 0], .int .i64 4]) (by simp [results, Tryz.results37, go_sem, ck_0, ck_1, ck_2]) rfl ⟨_, rfl, (PV.zero _), hs⟩

set_option maxRecDepth 100000 in
set_option maxHeartbeats 4000000 in
theorem al_Reliable_bad {v : Value} {L : List Cls} {vp vu : Value} {p u : Rat} (w : World) (hl : RowsI 2 ClC w v L) {W : Int} (hW : clE L = W) (hp : PV w vp p) (sp : SzQ 1 p) (hu : PV w vu u) (su : SzQ 1 u) (hn : ¬ W = 0) : Calls Tryz.prog 40 #[v, vp, vu] w (RetV w (.tuple #[.int .i64 0, .int .i64 W])) := by
  obtain ⟨ao, cap, rfl, hc1, hc2, hc3⟩ := hl.slice
  obtain ⟨shp, ahp, nhp, chp, Ahp, Nhp, Chp, rfl⟩ := hp.shape
  obtain ⟨shu, ahu, nhu, chu, Ahu, Nhu, Chu, rfl⟩ := hu.shape
  have hs := Below.refl w.heap.size w
  have HW := Lib.hid hW
  have HLL := Lib.hid hl
  have HWN := Lib.hid hn
  clear hW hl hn
  go_enter Tryz.func40, Tryz.ntmps40
  go_wp2_with fail
  refine Calls.abs ?_
  intro w1 hW
  have hG : Gr [] w w1 := by rw [hW]; exact (Gr.refl _ _).alloc.alloc
  have hbw : Below w.heap.size w w1 := hG.below0 hs.size
  have hk : KeepD w w1 := hG.keep True.intro
  have sz_w1 : w.heap.size ≤ w.heap.size := hs.size
  have Blchance : Bx w1 (w.heap.size) 29 #[.bool shp, .slice ahp nhp chp, .slice Ahp Nhp Chp] := by rw [hW]; exact ((Bx.new0 _ _ _).alloc _)
  have Blconfidence : Bx w1 (w.heap.size + 1) 29 #[.bool shu, .slice ahu nhu chu, .slice Ahu Nhu Chu] := by rw [hW]; exact (Bx.new0 _ _ _)
  replace hs := hs.trans hbw
  replace hp := hp.keep hk
  replace hu := hu.keep hk
  clear hW hG hk hbw
  have hz_w1 : w.heap.size + 1 < w1.heap.size := Blconfidence.lt
  with_reducible refine (al_checkClasses_all _ (HLL.out.mono ClC.kept hs) HW.out).mono ?_
  rintro e w2 ⟨rfl, hb⟩
  replace hs := bStep hs hb
  replace Blchance := Blchance.mono hb
  replace Blconfidence := Blconfidence.mono hb
  replace hp := hp.mono hb
  replace hu := hu.mono hb
  clear hb
  have q1 : ¬ (W = 0) := HWN.out
  have q1b : (W == 0) = false := beq_eq_false_iff_ne.2 (by omega)
  have q1n : (W != 0) = true := bne_iff_ne.2 (by omega)
  have q1H := Lib.hid q1
  clear q1
  go_wp2
  go_ret2
  exact ⟨rfl, hs⟩

set_option maxRecDepth 100000 in
set_option maxHeartbeats 4000000 in
theorem al_Reliable_arg1 {v : Value} {L : List Cls} {vp vu : Value} {p u : Rat} (w : World) (hl : RowsI 2 ClC w v L) {W : Int} (hW : clE L = W) (hp : PV w vp p) (sp : SzQ 1 p) (hu : PV w vu u) (su : SzQ 1 u) (hn : W = 0) (hP : ¬ (0 ≤ p ∧ p ≤ 1)) : Calls Tryz.prog 40 #[v, vp, vu] w (RetV w (.tuple #[.int .i64 0, .int .i64 1])) := by
  obtain ⟨ao, cap, rfl, hc1, hc2, hc3⟩ := hl.slice
  obtain ⟨shp, ahp, nhp, chp, Ahp, Nhp, Chp, rfl⟩ := hp.shape
  obtain ⟨shu, ahu, nhu, chu, Ahu, Nhu, Chu, rfl⟩ := hu.shape
  have hs := Below.refl w.heap.size w
  have HW := Lib.hid hW
  have HLL := Lib.hid hl
  have HWN := Lib.hid hn
  have HP := Lib.hid hP
  clear hW hl hn hP
  go_enter Tryz.func40, Tryz.ntmps40
  go_wp2_with fail
  refine Calls.abs ?_
  intro w1 hW
  have hG : Gr [] w w1 := by rw [hW]; exact (Gr.refl _ _).alloc.alloc
  have hbw : Below w.heap.size w w1 := hG.below0 hs.size
  have hk : KeepD w w1 := hG.keep True.intro
  have sz_w1 : w.heap.size ≤ w.heap.size := hs.size
  have Blchance : Bx w1 (w.heap.size) 29 #[.bool shp, .slice ahp nhp chp, .slice Ahp Nhp Chp] := by rw [hW]; exact ((Bx.new0 _ _ _).alloc _)
  have Blconfidence : Bx w1 (w.heap.size + 1) 29 #[.bool shu, .slice ahu nhu chu, .slice Ahu Nhu Chu] := by rw [hW]; exact (Bx.new0 _ _ _)
  replace hs := hs.trans hbw
  replace hp := hp.keep hk
  replace hu := hu.keep hk
  clear hW hG hk hbw
  have hz_w1 : w.heap.size + 1 < w1.heap.size := Blconfidence.lt
  with_reducible refine (al_checkClasses_all _ (HLL.out.mono ClC.kept hs) HW.out).mono ?_
  rintro e w2 ⟨rfl, hb⟩
  replace hs := bStep hs hb
  replace Blchance := Blchance.mono hb
  replace Blconfidence := Blconfidence.mono hb
  replace hp := hp.mono hb
  replace hu := hu.mono hb
  clear hb
  have q1 : W = 0 := HWN.out
  have q1b : (W == 0) = true := beq_iff_eq.2 (by omega)
  have q1n : (W != 0) = false := bne_eq_false_iff_eq.2 (by omega)
  have q1H := Lib.hid q1
  clear q1
  have cchance_0 : w2.cell? ⟨w.heap.size, 0, none⟩ = some (.bool shp) := Blchance.at 0 rfl
  have cchance_1 : w2.cell? ⟨w.heap.size, 1, none⟩ = some (.slice ahp nhp chp) := Blchance.at 1 rfl
  have cchance_2 : w2.cell? ⟨w.heap.size, 2, none⟩ = some (.slice Ahp Nhp Chp) := Blchance.at 2 rfl
  have Lchance : w.heap.size < w2.heap.size := Blchance.lt
  go_wp2_with fail
  clear cchance_0 cchance_1 cchance_2 Lchance
  with_reducible refine (al_isChance _ _ _ hp (SzQ.mid sp) rfl).mono ?_
  rintro e w3 ⟨rfl, hb⟩
  replace hs := bStep hs hb
  replace Blchance := Blchance.mono hb
  replace Blconfidence := Blconfidence.mono hb
  replace hp := hp.mono hb
  replace hu := hu.mono hb
  clear hb
  obtain ⟨b2, Hb2⟩ : ∃ b : Bool, b = decide (0 ≤ p ∧ p ≤ 1) := ⟨_, rfl⟩
  rw [← Hb2]
  replace Hb2 := Lib.hid Hb2
  have q3 : ¬ (0 ≤ p ∧ p ≤ 1) := HP.out
  obtain rfl : b2 = false := by rw [Hb2.out]; exact decide_eq_false q3
  have q3H := Lib.hid q3
  clear q3
  go_wp2
  go_ret2
  exact ⟨rfl, hs⟩

set_option maxRecDepth 100000 in
set_option maxHeartbeats 4000000 in
theorem al_Reliable_arg2 {v : Value} {L : List Cls} {vp vu : Value} {p u : Rat} (w : World) (hl : RowsI 2 ClC w v L) {W : Int} (hW : clE L = W) (hp : PV w vp p) (sp : SzQ 1 p) (hu : PV w vu u) (su : SzQ 1 u) (hn : W = 0) (hP : 0 ≤ p ∧ p ≤ 1) (hU : ¬ (0 ≤ u ∧ u ≤ 1)) : Calls Tryz.prog 40 #[v, vp, vu] w (RetV w (.tuple #[.int .i64 0, .int .i64 1])) := by
  obtain ⟨ao, cap, rfl, hc1, hc2, hc3⟩ := hl.slice
  obtain ⟨shp, ahp, nhp, chp, Ahp, Nhp, Chp, rfl⟩ := hp.shape
  obtain ⟨shu, ahu, nhu, chu, Ahu, Nhu, Chu, rfl⟩ := hu.shape
  have hs := Below.refl w.heap.size w
  have HW := Lib.hid hW
  have HLL := Lib.hid hl
  have HWN := Lib.hid hn
  have HP := Lib.hid hP
  have HU := Lib.hid hU
  clear hW hl hn hP hU
  go_enter Tryz.func40, Tryz.ntmps40
  go_wp2_with fail
  refine Calls.abs ?_
  intro w1 hW
  have hG : Gr [] w w1 := by rw [hW]; exact (Gr.refl _ _).alloc.alloc
  have hbw : Below w.heap.size w w1 := hG.below0 hs.size
  have hk : KeepD w w1 := hG.keep True.intro
  have sz_w1 : w.heap.size ≤ w.heap.size := hs.size
  have Blchance : Bx w1 (w.heap.size) 29 #[.bool shp, .slice ahp nhp chp, .slice Ahp Nhp Chp] := by rw [hW]; exact ((Bx.new0 _ _ _).alloc _)
  have Blconfidence : Bx w1 (w.heap.size + 1) 29 #[.bool shu, .slice ahu nhu chu, .slice Ahu Nhu Chu] := by rw [hW]; exact (Bx.new0 _ _ _)
  replace hs := hs.trans hbw
  replace hp := hp.keep hk
  replace hu := hu.keep hk
  clear hW hG hk hbw
  have hz_w1 : w.heap.size + 1 < w1.heap.size := Blconfidence.lt
  with_reducible refine (al_checkClasses_all _ (HLL.out.mono ClC.kept hs) HW.out).mono ?_
  rintro e w2 ⟨rfl, hb⟩
  replace hs := bStep hs hb
  replace Blchance := Blchance.mono hb
  replace Blconfidence := Blconfidence.mono hb
  replace hp := hp.mono hb
  replace hu := hu.mono hb
  clear hb
  have q1 : W = 0 := HWN.out
  have q1b : (W == 0) = true := beq_iff_eq.2 (by omega)
  have q1n : (W != 0) = false := bne_eq_false_iff_eq.2 (by omega)
  have q1H := Lib.hid q1
  clear q1
  have cchance_0 : w2.cell? ⟨w.heap.size, 0, none⟩ = some (.bool shp) := Blchance.at 0 rfl
  have cchance_1 : w2.cell? ⟨w.heap.size, 1, none⟩ = some (.slice ahp nhp chp) := Blchance.at 1 rfl
  have cchance_2 : w2.cell? ⟨w.heap.size, 2, none⟩ = some (.slice Ahp Nhp Chp) := Blchance.at 2 rfl
  have Lchance : w.heap.size < w2.heap.size := Blchance.lt
  go_wp2_with fail
  clear cchance_0 cchance_1 cchance_2 Lchance
  with_reducible refine (al_isChance _ _ _ hp (SzQ.mid sp) rfl).mono ?_
  rintro e w3 ⟨rfl, hb⟩
  replace hs := bStep hs hb
  replace Blchance := Blchance.mono hb
  replace Blconfidence := Blconfidence.mono hb
  replace hp := hp.mono hb
  replace hu := hu.mono hb
  clear hb
  obtain ⟨b2, Hb2⟩ : ∃ b : Bool, b = decide (0 ≤ p ∧ p ≤ 1) := ⟨_, rfl⟩
  rw [← Hb2]
  replace Hb2 := Lib.hid Hb2
  have q3 : 0 ≤ p ∧ p ≤ 1 := HP.out
  obtain rfl : b2 = true := by rw [Hb2.out]; exact decide_eq_true q3
  have q3H := Lib.hid q3
  clear q3
  have cconfidence_0 : w3.cell? ⟨w.heap.size + 1, 0, none⟩ = some (.bool shu) := Blconfidence.at 0 rfl
  have cconfidence_1 : w3.cell? ⟨w.heap.size + 1, 1, none⟩ = some (.slice ahu nhu chu) := Blconfidence.at 1 rfl
  have cconfidence_2 : w3.cell? ⟨w.heap.size + 1, 2, none⟩ = some (.slice Ahu Nhu Chu) := Blconfidence.at 2 rfl
  have Lconfidence : w.heap.size + 1 < w3.heap.size := Blconfidence.lt
  go_wp2_with fail
  clear cconfidence_0 cconfidence_1 cconfidence_2 Lconfidence
  with_reducible refine (al_isChance _ _ _ hu (SzQ.mid su) rfl).mono ?_
  rintro e w4 ⟨rfl, hb⟩
  replace hs := bStep hs hb
  replace Blchance := Blchance.mono hb
  replace Blconfidence := Blconfidence.mono hb
  replace hp := hp.mono hb
  replace hu := hu.mono hb
  clear hb
  obtain ⟨b4, Hb4⟩ : ∃ b : Bool, b = decide (0 ≤ u ∧ u ≤ 1) := ⟨_, rfl⟩
  rw [← Hb4]
  replace Hb4 := Lib.hid Hb4
  have q5 : ¬ (0 ≤ u ∧ u ≤ 1) := HU.out
  obtain rfl : b4 = false := by rw [Hb4.out]; exact decide_eq_false q5
  have q5H := Lib.hid q5
  clear q5
  go_wp2
  go_ret2
  exact ⟨rfl, hs⟩

set_option maxRecDepth 100000 in
set_option maxHeartbeats 4000000 in
theorem r8_Reliable_bad {v : Value} {L : List Cls} {vp vu : Value} {p u : Rat} (w : World) (hl : RowsI 2 ClC w v L) {W : Int} (hW : clE L = W) (hp : RV w vp p) (sp : SzQ 1 p) (hu : RV w vu u) (su : SzQ 1 u) (hn : ¬ W = 0) : Calls Tryz.prog 41 #[v, vp, vu] w (RetV w (.tuple #[.int .i64 0, .int .i64 W])) := by
  obtain ⟨ao, cap, rfl, hc1, hc2, hc3⟩ := hl.slice
  obtain ⟨shp, ahp, nhp, chp, Ahp, Nhp, Chp, rfl⟩ := hp.shape
  obtain ⟨shu, ahu, nhu, chu, Ahu, Nhu, Chu, rfl⟩ := hu.shape
  have hs := Below.refl w.heap.size w
  have HW := Lib.hid hW
  have HLL := Lib.hid hl
  have HWN := Lib.hid hn
  clear hW hl hn
  go_enter Tryz.func41, Tryz.ntmps41
  go_wp2_with fail
  refine Calls.abs ?_
  intro w1 hW
  have hG : Gr [] w w1 := by rw [hW]; exact (Gr.refl _ _).alloc.alloc
  have hbw : Below w.heap.size w w1 := hG.below0 hs.size
  have hk : KeepD w w1 := hG.keep True.intro
  have sz_w1 : w.heap.size ≤ w.heap.size := hs.size
  have Blchance : Bx w1 (w.heap.size) 36 #[.bool shp, .slice ahp nhp chp, .slice Ahp Nhp Chp] := by rw [hW]; exact ((Bx.new0 _ _ _).alloc _)
  have Blconfidence : Bx w1 (w.heap.size + 1) 36 #[.bool shu, .slice ahu nhu chu, .slice Ahu Nhu Chu] := by rw [hW]; exact (Bx.new0 _ _ _)
  replace hs := hs.trans hbw
  replace hp := hp.keep hk
  replace hu := hu.keep hk
  clear hW hG hk hbw
  have hz_w1 : w.heap.size + 1 < w1.heap.size := Blconfidence.lt
  with_reducible refine (r8_Classes_all _ (HLL.out.mono ClC.kept hs) HW.out).mono ?_
  rintro e w2 ⟨rfl, hb⟩
  replace hs := bStep hs hb
  replace Blchance := Blchance.mono hb
  replace Blconfidence := Blconfidence.mono hb
  replace hp := hp.mono hb
  replace hu := hu.mono hb
  clear hb
  have q1 : ¬ (W = 0) := HWN.out
  have q1b : (W == 0) = false := beq_eq_false_iff_ne.2 (by omega)
  have q1n : (W != 0) = true := bne_iff_ne.2 (by omega)
  have q1H := Lib.hid q1
  clear q1
  go_wp2
  go_ret2
  exact ⟨rfl, hs⟩

set_option maxRecDepth 100000 in
set_option maxHeartbeats 4000000 in
theorem r8_Reliable_arg1 {v : Value} {L : List Cls} {vp vu : Value} {p u : Rat} (w : World) (hl : RowsI 2 ClC w v L) {W : Int} (hW : clE L = W) (hp : RV w vp p) (sp : SzQ 1 p) (hu : RV w vu u) (su : SzQ 1 u) (hn : W = 0) (hP : ¬ (0 ≤ p ∧ p ≤ 1)) : Calls Tryz.prog 41 #[v, vp, vu] w (RetV w (.tuple #[.int .i64 0, .int .i64 1])) := by
  obtain ⟨ao, cap, rfl, hc1, hc2, hc3⟩ := hl.slice
  obtain ⟨shp, ahp, nhp, chp, Ahp, Nhp, Chp, rfl⟩ := hp.shape
  obtain ⟨shu, ahu, nhu, chu, Ahu, Nhu, Chu, rfl⟩ := hu.shape
  have hs := Below.refl w.heap.size w
  have HW := Lib.hid hW
  have HLL := Lib.hid hl
  have HWN := Lib.hid hn
  have HP := Lib.hid hP
  clear hW hl hn hP
  go_enter Tryz.func41, Tryz.ntmps41
  go_wp2_with fail
  refine Calls.abs ?_
  intro w1 hW
  have hG : Gr [] w w1 := by rw [hW]; exact (Gr.refl _ _).alloc.alloc
  have hbw : Below w.heap.size w w1 := hG.below0 hs.size
  have hk : KeepD w w1 := hG.keep True.intro
  have sz_w1 : w.heap.size ≤ w.heap.size := hs.size
  have Blchance : Bx w1 (w.heap.size) 36 #[.bool shp, .slice ahp nhp chp, .slice Ahp Nhp Chp] := by rw [hW]; exact ((Bx.new0 _ _ _).alloc _)
  have Blconfidence : Bx w1 (w.heap.size + 1) 36 #[.bool shu, .slice ahu nhu chu, .slice Ahu Nhu Chu] := by rw [hW]; exact (Bx.new0 _ _ _)
  replace hs := hs.trans hbw
  replace hp := hp.keep hk
  replace hu := hu.keep hk
  clear hW hG hk hbw
  have hz_w1 : w.heap.size + 1 < w1.heap.size := Blconfidence.lt
  with_reducible refine (r8_Classes_all _ (HLL.out.mono ClC.kept hs) HW.out).mono ?_
  rintro e w2 ⟨rfl, hb⟩
  replace hs := bStep hs hb
  replace Blchance := Blchance.mono hb
  replace Blconfidence := Blconfidence.mono hb
  replace hp := hp.mono hb
  replace hu := hu.mono hb
  clear hb
  have q1 : W = 0 := HWN.out
  have q1b : (W == 0) = true := beq_iff_eq.2 (by omega)
  have q1n : (W != 0) = false := bne_eq_false_iff_eq.2 (by omega)
  have q1H := Lib.hid q1
  clear q1
  have cchance_0 : w2.cell? ⟨w.heap.size, 0, none⟩ = some (.bool shp) := Blchance.at 0 rfl
  have cchance_1 : w2.cell? ⟨w.heap.size, 1, none⟩ = some (.slice ahp nhp chp) := Blchance.at 1 rfl
  have cchance_2 : w2.cell? ⟨w.heap.size, 2, none⟩ = some (.slice Ahp Nhp Chp) := Blchance.at 2 rfl
  have Lchance : w.heap.size < w2.heap.size := Blchance.lt
  go_wp2_with fail
  clear cchance_0 cchance_1 cchance_2 Lchance
  with_reducible refine (r8_Chance _ _ _ hp (SzQ.mid sp) rfl).mono ?_
  rintro e w3 ⟨rfl, hb⟩
  replace hs := bStep hs hb
  replace Blchance := Blchance.mono hb
  replace Blconfidence := Blconfidence.mono hb
  replace hp := hp.mono hb
  replace hu := hu.mono hb
  clear hb
  obtain ⟨b2, Hb2⟩ : ∃ b : Bool, b = decide (0 ≤ p ∧ p ≤ 1) := ⟨_, rfl⟩
  rw [← Hb2]
  replace Hb2 := Lib.hid Hb2
  have q3 : ¬ (0 ≤ p ∧ p ≤ 1) := HP.out
  obtain rfl : b2 = false := by rw [Hb2.out]; exact decide_eq_false q3
  have q3H := Lib.hid q3
  clear q3
  go_wp2
  go_ret2
  exact ⟨rfl, hs⟩

set_option maxRecDepth 100000 in
set_option maxHeartbeats 4000000 in
theorem r8_Reliable_arg2 {v : Value} {L : List Cls} {vp vu : Value} {p u : Rat} (w : World) (hl : RowsI 2 ClC w v L) {W : Int} (hW : clE L = W) (hp : RV w vp p) (sp : SzQ 1 p) (hu : RV w vu u) (su : SzQ 1 u) (hn : W = 0) (hP : 0 ≤ p ∧ p ≤ 1) (hU : ¬ (0 ≤ u ∧ u ≤ 1)) : Calls Tryz.prog 41 #[v, vp, vu] w (RetV w (.tuple #[.int .i64 0, .int .i64 1])) := by
  obtain ⟨ao, cap, rfl, hc1, hc2, hc3⟩ := hl.slice
  obtain ⟨shp, ahp, nhp, chp, Ahp, Nhp, Chp, rfl⟩ := hp.shape
  obtain ⟨shu, ahu, nhu, chu, Ahu, Nhu, Chu, rfl⟩ := hu.shape
  have hs := Below.refl w.heap.size w
  have HW := Lib.hid hW
  have HLL := Lib.hid hl
  have HWN := Lib.hid hn
  have HP := Lib.hid hP
  have HU := Lib.hid hU
  clear hW hl hn hP hU
  go_enter Tryz.func41, Tryz.ntmps41
  go_wp2_with fail
  refine Calls.abs ?_
  intro w1 hW
  have hG : Gr [] w w1 := by rw [hW]; exact (Gr.refl _ _).alloc.alloc
  have hbw : Below w.heap.size w w1 := hG.below0 hs.size
  have hk : KeepD w w1 := hG.keep True.intro
  have sz_w1 : w.heap.size ≤ w.heap.size := hs.size
  have Blchance : Bx w1 (w.heap.size) 36 #[.bool shp, .slice ahp nhp chp, .slice Ahp Nhp Chp] := by rw [hW]; exact ((Bx.new0 _ _ _).alloc _)
  have Blconfidence : Bx w1 (w.heap.size + 1) 36 #[.bool shu, .slice ahu nhu chu, .slice Ahu Nhu Chu] := by rw [hW]; exact (Bx.new0 _ _ _)
  replace hs := hs.trans hbw
  replace hp := hp.keep hk
  replace hu := hu.keep hk
  clear hW hG hk hbw
  have hz_w1 : w.heap.size + 1 < w1.heap.size := Blconfidence.lt
  with_reducible refine (r8_Classes_all _ (HLL.out.mono ClC.kept hs) HW.out).mono ?_
  rintro e w2 ⟨rfl, hb⟩
  replace hs := bStep hs hb
  replace Blchance := Blchance.mono hb
  replace Blconfidence := Blconfidence.mono hb
  replace hp := hp.mono hb
  replace hu := hu.mono hb
  clear hb
  have q1 : W = 0 := HWN.out
  have q1b : (W == 0) = true := beq_iff_eq.2 (by omega)
  have q1n : (W != 0) = false := bne_eq_false_iff_eq.2 (by omega)
  have q1H := Lib.hid q1
  clear q1
  have cchance_0 : w2.cell? ⟨w.heap.size, 0, none⟩ = some (.bool shp) := Blchance.at 0 rfl
  have cchance_1 : w2.cell? ⟨w.heap.size, 1, none⟩ = some (.slice ahp nhp chp) := Blchance.at 1 rfl
  have cchance_2 : w2.cell? ⟨w.heap.size, 2, none⟩ = some (.slice Ahp Nhp Chp) := Blchance.at 2 rfl
  have Lchance : w.heap.size < w2.heap.size := Blchance.lt
  go_wp2_with fail
  clear cchance_0 cchance_1 cchance_2 Lchance
  with_reducible refine (r8_Chance _ _ _ hp (SzQ.mid sp) rfl).mono ?_
  rintro e w3 ⟨rfl, hb⟩
  replace hs := bStep hs hb
  replace Blchance := Blchance.mono hb
  replace Blconfidence := Blconfidence.mono hb
  replace hp := hp.mono hb
  replace hu := hu.mono hb
  clear hb
  obtain ⟨b2, Hb2⟩ : ∃ b : Bool, b = decide (0 ≤ p ∧ p ≤ 1) := ⟨_, rfl⟩
  rw [← Hb2]
  replace Hb2 := Lib.hid Hb2
  have q3 : 0 ≤ p ∧ p ≤ 1 := HP.out
  obtain rfl : b2 = true := by rw [Hb2.out]; exact decide_eq_true q3
  have q3H := Lib.hid q3
  clear q3
  have cconfidence_0 : w3.cell? ⟨w.heap.size + 1, 0, none⟩ = some (.bool shu) := Blconfidence.at 0 rfl
  have cconfidence_1 : w3.cell? ⟨w.heap.size + 1, 1, none⟩ = some (.slice ahu nhu chu) := Blconfidence.at 1 rfl
  have cconfidence_2 : w3.cell? ⟨w.heap.size + 1, 2, none⟩ = some (.slice Ahu Nhu Chu) := Blconfidence.at 2 rfl
  have Lconfidence : w.heap.size + 1 < w3.heap.size := Blconfidence.lt
  go_wp2_with fail
  clear cconfidence_0 cconfidence_1 cconfidence_2 Lconfidence
  with_reducible refine (r8_Chance _ _ _ hu (SzQ.mid su) rfl).mono ?_
  rintro e w4 ⟨rfl, hb⟩
  replace hs := bStep hs hb
  replace Blchance := Blchance.mono hb
  replace Blconfidence := Blconfidence.mono hb
  replace hp := hp.mono hb
  replace hu := hu.mono hb
  clear hb
  obtain ⟨b4, Hb4⟩ : ∃ b : Bool, b = decide (0 ≤ u ∧ u ≤ 1) := ⟨_, rfl⟩
  rw [← Hb4]
  replace Hb4 := Lib.hid Hb4
  have q5 : ¬ (0 ≤ u ∧ u ≤ 1) := HU.out
  obtain rfl : b4 = false := by rw [Hb4.out]; exact decide_eq_false q5
  have q5H := Lib.hid q5
  clear q5
  go_wp2
  go_ret2
  exact ⟨rfl, hs⟩

end Go.Proofs.YtmnipggjjcmjkaaGreat
/-
  Reference 08: share, Rising, Misfit, Reliable of right classes.
-/
namespace Go.Proofs.YtmnipggjjcmjkaaGreat
open Go.RowKit Dg
attribute [local go_sem ↓] Go.wp_at_zero Go.wp_at_succ

theorem r8_part_c {n d : Int} (w : World) (h0 : 0 ≤ n) (h1 : n ≤ d) (h2 : 1 ≤ d) (h3 : d ≤ 1024) : Calls Tryz.prog 97 #[.int .i64 n, .int .i64 d] w (RetQ w (shQ (d, n))) := by
  have h := r8_part (S := d.toNat) (i := n.toNat) (ii := n) w (by omega) (by omega) (by omega) (by omega)
  rw [show ((d.toNat : Nat) : Int) = d by omega] at h
  have e : atQs d.toNat n.toNat = shQ (d, n) := by
    unfold atQs shQ
    rw [show ((n.toNat : Nat) : Int) = n by omega, show ((d.toNat : Nat) : Int) = d by omega]
  rwa [e] at h
theorem r8_sure_e {v v' : Value} {p u : Rat} {L : List Cls} {i : Nat} {t f : Int} (w : World) (ht : (clAt L i).1 = t) (hf : (clAt L i).2 = f) (h1 : 1 ≤ t) (h2 : t ≤ 64) (h3 : 0 ≤ f) (h4 : f ≤ t) (hp : RV w v p) (sp : SzQ 1 p) (p0 : 0 ≤ p ∧ p ≤ 1) (hu : RV w v' u) (su : SzQ 1 u) {b : Bool} (hq : prvC L u p i = b) :
    Calls Tryz.prog 96 #[.agg #[.int .i64 t, .int .i64 f], v, v'] w (RetV w (.bool b)) := by
  have h := r8_sure (n := t.toNat) (f := f.toNat) w (by omega) (by omega) hp sp p0.1 p0.2 hu su (b := b) (by subst ht hf; exact hq)
  rwa [show ((t.toNat : Nat) : Int) = t by omega, show ((f.toNat : Nat) : Int) = f by omega] at h

set_option maxRecDepth 100000 in
set_option maxHeartbeats 4000000 in
theorem r8_num (n : Int) (w : World) (ln : 0 ≤ n) (un : n ≤ 4294967295) :
    Calls Tryz.prog 106 #[.int .i64 n] w (RetQ w (((n : Int) : Rat))) := by
  have hs := Below.refl w.heap.size w
  go_enter Tryz.func106, Tryz.ntmps106
  go_wp2_with fail
  refine Calls.abs ?_
  intro w1 hW
  have hG : Gr [] w w1 := by rw [hW]; exact (Gr.refl _ _).alloc
  have hbw : Below w.heap.size w w1 := hG.below0 hs.size
  have hk : KeepD w w1 := hG.keep True.intro
  have sz_w1 : w.heap.size ≤ w.heap.size := hs.size
  have Blk : Bx w1 (w.heap.size) 36 #[.bool false, .slice none 0 0, .slice none 0 0] := by rw [hW]; exact (Bx.new0 _ _ _)
  replace hs := hs.trans hbw
  clear hW hG hk hbw
  have hz_w1 : w.heap.size < w1.heap.size := Blk.lt
  with_reducible refine (r_Int_calls n _ (by omega) (by omega)).mono ?_
  rintro e w2 ⟨_, rfl, h1, hb⟩
  obtain ⟨sh1, ah1, nh1, ch1, Ah1, Nh1, Ch1, rfl⟩ := h1.shape
  replace hs := bStep hs hb
  replace Blk := Blk.mono hb
  clear hb
  have ck_0 : w2.cell? ⟨w.heap.size, 0, none⟩ = some (.bool false) := Blk.at 0 rfl
  have ck_1 : w2.cell? ⟨w.heap.size, 1, none⟩ = some (.slice none 0 0) := Blk.at 1 rfl
  have ck_2 : w2.cell? ⟨w.heap.size, 2, none⟩ = some (.slice none 0 0) := Blk.at 2 rfl
  have fk := Blk.free
  have Lk : w.heap.size < w2.heap.size := Blk.lt
  go_wp2
  clear ck_0 ck_1 ck_2 fk Lk
  refine bodyPost.abs ?_
  intro w3 hW
  have hG : Gr [w.heap.size] w2 w3 := by rw [hW]; exact (Gr.refl _ _).set.set.set
  have hsz := hs.size
  have lk := Blk.lt
  have hbw : Below w.heap.size w2 w3 := hG.below1 hs.size (by first | omega | assumption)
  have hk : KeepD w2 w3 := hG.keep ⟨⟨_, Blk.ty, by decide⟩, True.intro⟩
  have Bl1k : Bx w3 (w.heap.size) 36 #[.bool sh1, .slice ah1 nh1 ch1, .slice Ah1 Nh1 Ch1] := by rw [hW]; exact Blk.set3
  replace hs := hs.trans hbw
  replace Blk := Bl1k
  clear Bl1k
  replace h1 := h1.keep hk
  clear hW hG hk hbw hsz lk
  have ck_0 : w3.cell? ⟨w.heap.size, 0, none⟩ = some (.bool sh1) := Blk.at 0 rfl
  have ck_1 : w3.cell? ⟨w.heap.size, 1, none⟩ = some (.slice ah1 nh1 ch1) := Blk.at 1 rfl
  have ck_2 : w3.cell? ⟨w.heap.size, 2, none⟩ = some (.slice Ah1 Nh1 Ch1) := Blk.at 2 rfl
  exact bodyPost_ret (v := .agg #[.bool sh1, .slice ah1 nh1 ch1, .slice Ah1 Nh1 Ch1]) (by simp [results, Tryz.results106, go_sem, ck_0, ck_1, ck_2]) rfl ⟨_, rfl, h1, hs⟩

set_option maxRecDepth 100000 in
set_option maxHeartbeats 4000000 in
theorem r8_square (vx : Value) (x : Rat) (w : World) (hx : RV w vx x) (sx : Mid x) :
    Calls Tryz.prog 107 #[vx] w (RetQ w (x * x)) := by
  obtain ⟨shx, ahx, nhx, chx, Ahx, Nhx, Chx, rfl⟩ := hx.shape
  have hs := Below.refl w.heap.size w
  go_enter Tryz.func107, Tryz.ntmps107
  go_wp2_with fail
  refine Calls.abs ?_
  intro w1 hW
  have hG : Gr [] w w1 := by rw [hW]; exact (Gr.refl _ _).alloc.alloc
  have hbw : Below w.heap.size w w1 := hG.below0 hs.size
  have hk : KeepD w w1 := hG.keep True.intro
  have sz_w1 : w.heap.size ≤ w.heap.size := hs.size
  have Blx : Bx w1 (w.heap.size) 36 #[.bool shx, .slice ahx nhx chx, .slice Ahx Nhx Chx] := by rw [hW]; exact ((Bx.new0 _ _ _).alloc _)
  have Blk : Bx w1 (w.heap.size + 1) 36 #[.bool false, .slice none 0 0, .slice none 0 0] := by rw [hW]; exact (Bx.new0 _ _ _)
  replace hs := hs.trans hbw
  replace hx := hx.keep hk
  clear hW hG hk hbw
  have hz_w1 : w.heap.size + 1 < w1.heap.size := Blk.lt
  with_reducible refine (rMul hx hx (SzQ.fit sx) (SzQ.fit sx)).mono ?_
  rintro e w2 ⟨_, rfl, h1, hb⟩
  obtain ⟨sh1, ah1, nh1, ch1, Ah1, Nh1, Ch1, rfl⟩ := h1.shape
  replace hs := bStep hs hb
  replace Blx := Blx.mono hb
  replace Blk := Blk.mono hb
  replace hx := hx.mono hb
  clear hb
  have ck_0 : w2.cell? ⟨w.heap.size + 1, 0, none⟩ = some (.bool false) := Blk.at 0 rfl
  have ck_1 : w2.cell? ⟨w.heap.size + 1, 1, none⟩ = some (.slice none 0 0) := Blk.at 1 rfl
  have ck_2 : w2.cell? ⟨w.heap.size + 1, 2, none⟩ = some (.slice none 0 0) := Blk.at 2 rfl
  have fk := Blk.free
  have Lk : w.heap.size + 1 < w2.heap.size := Blk.lt
  go_wp2
  clear ck_0 ck_1 ck_2 fk Lk
  refine bodyPost.abs ?_
  intro w3 hW
  have hG : Gr [w.heap.size + 1] w2 w3 := by rw [hW]; exact (Gr.refl _ _).set.set.set
  have hsz := hs.size
  have lk := Blk.lt
  have hbw : Below w.heap.size w2 w3 := hG.below1 hs.size (by first | omega | assumption)
  have hk : KeepD w2 w3 := hG.keep ⟨⟨_, Blk.ty, by decide⟩, True.intro⟩
  have Bl1k : Bx w3 (w.heap.size + 1) 36 #[.bool sh1, .slice ah1 nh1 ch1, .slice Ah1 Nh1 Ch1] := by rw [hW]; exact Blk.set3
  replace hs := hs.trans hbw
  replace Blx := hG.bx Blx (notMem1 (by omega))
  replace Blk := Bl1k
  clear Bl1k
  replace hx := hx.keep hk
  replace h1 := h1.keep hk
  clear hW hG hk hbw hsz lk
  have ck_0 : w3.cell? ⟨w.heap.size + 1, 0, none⟩ = some (.bool sh1) := Blk.at 0 rfl
  have ck_1 : w3.cell? ⟨w.heap.size + 1, 1, none⟩ = some (.slice ah1 nh1 ch1) := Blk.at 1 rfl
  have ck_2 : w3.cell? ⟨w.heap.size + 1, 2, none⟩ = some (.slice Ah1 Nh1 Ch1) := Blk.at 2 rfl
  exact bodyPost_ret (v := .agg #[.bool sh1, .slice ah1 nh1 ch1, .slice Ah1 Nh1 Ch1]) (by simp [results, Tryz.results107, go_sem, ck_0, ck_1, ck_2]) rfl ⟨_, rfl, h1, hs⟩

set_option maxRecDepth 100000 in
set_option maxHeartbeats 4000000 in
theorem r8_share {v : Value} {L : List Cls} (w : World) (hl : RowsI 2 ClC w v L) (h1 : 1 ≤ L.length) (h16 : L.length ≤ 16) (hok : ∀ c ∈ L, ClOk c) {f t : Nat} (h_ft : f ≤ t) (h_t : t < L.length) {fi ti : Int} (hfi : fi = f) (hti : ti = t) : Calls Tryz.prog 109 #[v, .int .i64 fi, .int .i64 ti] w (RetQ w (shR L f t)) := by
  subst hfi hti
  obtain ⟨bhl, ohl, khl, rfl, hl1, hl2⟩ := hl.openI (by omega)
  have HLI := Lib.hid hl
  clear hl
  have HOK := Lib.hid hok
  clear hok
  have hs := Below.refl w.heap.size w
  go_enter Tryz.func109, Tryz.ntmps109
  go_wp2
  refine Code.abs ?_
  intro w1 hW
  have hG : Gr [] w w1 := by rw [hW]; exact (Gr.refl _ _).alloc
  have hbw : Below w.heap.size w w1 := hG.below0 hs.size
  have hk : KeepD w w1 := hG.keep True.intro
  have sz_w1 : w.heap.size ≤ w.heap.size := hs.size
  have Blk : Bx w1 (w.heap.size) 36 #[.bool false, .slice none 0 0, .slice none 0 0] := by rw [hW]; exact (Bx.new0 _ _ _)
  replace hs := hs.trans hbw
  clear hW hG hk hbw
  have hz_w1 : w.heap.size < w1.heap.size := Blk.lt
  go_loopw [7, 8, 9] (fun s7 s8 s9 wq => ∃ k : Nat, f ≤ k ∧ k ≤ (t + 1) ∧ s9 = .int .i64 k ∧ s7 = .int .i64 ((pfC L f k).2) ∧ s8 = .int .i64 ((pfC L f k).1) ∧ Below w.heap.size w wq ∧ Bx wq (w.heap.size) 36 #[.bool false, .slice none 0 0, .slice none 0 0]) (fun s7 s8 s9 _ => (t + 1) - (intOf s9).toNat)
  case atStart => exact ⟨f, Nat.le_refl _, by omega, rfl, (by rw [pfC_zero]), (by rw [pfC_zero]), hs, Blk⟩
  case round =>
    clear Blk hs
    obtain ⟨k, k_ge, k_le, rfl, rfl, rfl, hs, Blk⟩ := hrel
    obtain ⟨pb1, pb2, pb3, -⟩ := pfC_bd HOK.out h16 (f := f) (k := k)
    by_cases q1 : k ≤ t
    · have q1d : ((k : Int) ≤ (t : Int)) = True := eq_true (by omega)
      go_upto_region 5 with fail
      obtain ⟨Ee20, Ee21, le2⟩ := rowClI_at (HLI.out.mono ClC.kept hs) (show k < L.length by omega)
      obtain ⟨te2, Hte2⟩ : ∃ z : Int, z = (clAt L k).1 := ⟨_, rfl⟩
      obtain ⟨fe2, Hfe2⟩ : ∃ z : Int, z = (clAt L k).2 := ⟨_, rfl⟩
      rw [← Hte2] at Ee20
      rw [← Hfe2] at Ee21
      obtain ⟨bte2a, bte2b, bfe2a, bfe2b⟩ : 1 ≤ te2 ∧ te2 ≤ 64 ∧ 0 ≤ fe2 ∧ fe2 ≤ te2 := by rw [Hte2, Hfe2]; exact HOK.out _ (List.mem_of_getElem? (clAt_some (by omega)))
      replace Hte2 := Lib.hid Hte2.symm
      replace Hfe2 := Lib.hid Hfe2.symm
      have bk_e2 : k < L.length := by omega
      have bi_e2 : (k : Int) < (L.length : Int) := by omega
      refine U_region (S := fun w' => w'.cell? ⟨bhl, ohl + k * 2, none⟩ = some (.int .i64 te2) ∧ w'.cell? ⟨bhl, ohl + k * 2 + 1, none⟩ = some (.int .i64 fe2)) (by kernel_rfl) 16 ?_
      refine AnyU.abs ?_
      intro w22 hW
      have hb : Below wr.heap.size wr w22 := by rw [hW]; exact bDrew _
      replace hs := bStep hs hb
      replace Blk := Blk.mono hb
      replace Ee20 := cellK Ee20 hb
      replace Ee21 := cellK Ee21 hb
      clear hb hW
      have hH := (show w22.cell? ⟨bhl, ohl + k * 2, none⟩ = some (.int .i64 te2) ∧ w22.cell? ⟨bhl, ohl + k * 2 + 1, none⟩ = some (.int .i64 fe2) from ⟨Ee20, Ee21⟩)
      refine U_tk 0 16 ?_ ?_ hH ?_
      rotate_left
      · (intro w hSw; (try dsimp only at hSw); go_simp; try with_reducible rfl)
      simp only [LY]
      refine U_tk 1 17 ?_ ?_ hH ?_
      rotate_left
      · (intro w hSw; (try dsimp only at hSw); go_simp; try with_reducible rfl)
      simp only [LY]
      refine U_tk 2 18 ?_ ?_ hH ?_
      rotate_left
      · (intro w hSw; (try dsimp only at hSw); go_simp; try with_reducible rfl)
      simp only [LY]
      refine U_tk 3 19 ?_ ?_ hH ?_
      rotate_left
      · (intro w hSw; (try dsimp only at hSw); go_simp; try with_reducible rfl)
      simp only [LY]
      refine U_tk 4 20 ?_ ?_ hH ?_
      rotate_left
      · (intro w hSw; (try dsimp only at hSw); go_simp; try with_reducible rfl)
      simp only [LY]
      refine U_tk 5 21 ?_ ?_ hH ?_
      rotate_left
      · (intro w hSw; (try dsimp only at hSw); go_simp; try with_reducible rfl)
      simp only [LY]
      refine U_tk 6 22 ?_ ?_ hH ?_
      rotate_left
      · (intro w hSw; (try dsimp only at hSw); go_simp; try with_reducible rfl)
      simp only [LY]
      refine U_tk 7 23 ?_ ?_ hH ?_
      rotate_left
      · (intro w hSw; (try dsimp only at hSw); go_simp; try with_reducible rfl)
      simp only [LY]
      refine U_tk 8 24 ?_ ?_ hH ?_
      rotate_left
      · (intro w hSw; (try dsimp only at hSw); go_simp; try with_reducible rfl)
      simp only [LY]
      refine U_tk 9 25 ?_ ?_ hH ?_
      rotate_left
      · (intro w hSw; (try dsimp only at hSw); go_simp; try with_reducible rfl)
      simp only [LY]
      refine U_tk 10 26 ?_ ?_ hH ?_
      rotate_left
      · (intro w hSw; (try dsimp only at hSw); go_simp; try with_reducible rfl)
      simp only [LY]
      refine U_tk 11 27 ?_ ?_ hH ?_
      rotate_left
      · (intro w hSw; (try dsimp only at hSw); go_simp; try with_reducible rfl)
      simp only [LY]
      refine U_tk 12 28 ?_ ?_ hH ?_
      rotate_left
      · (intro w hSw; (try dsimp only at hSw); go_simp; try with_reducible rfl)
      simp only [LY]
      refine U_tk 13 29 ?_ ?_ hH ?_
      rotate_left
      · (intro w hSw; (try dsimp only at hSw); go_simp; try with_reducible rfl)
      simp only [LY]
      refine U_tk 14 7 ?_ ?_ hH ?_
      rotate_left
      · (intro w hSw; (try dsimp only at hSw); go_simp; try with_reducible rfl)
      simp only [LY]
      refine U_tk 15 8 ?_ ?_ hH ?_
      rotate_left
      · (intro w hSw; (try dsimp only at hSw); go_simp; try with_reducible rfl)
      simp only [LY]
      clear hH
      refine U_endN (by kernel_rfl) ?_
      clear Ee20 Ee21
      go_wp2
      go_roundw
      case rel => exact ⟨k + 1, by omega, by omega, by go_num, (congrArg _ ((IntWalk.i64_in _ (by omega)).trans (by rw [pfC_next k_ge (show k < L.length by omega) Hte2.out Hfe2.out]))), (congrArg _ ((IntWalk.i64_in _ (by omega)).trans (by rw [pfC_next k_ge (show k < L.length by omega) Hte2.out Hfe2.out]))), hs, Blk⟩
      all_goals first | (simp [intOf]; done) | (simp [intOf]; omega)
    · have q1d : ((k : Int) ≤ (t : Int)) = False := eq_false (by omega)
      obtain rfl : k = t + 1 := by omega
      have pb4 := (pfC_bd HOK.out h16 (f := f) (k := t + 1)).2.2.2 (by omega) (by omega)
      go_wp2_with fail
      with_reducible refine (r8_part_c (n := (pfC L f (t + 1)).2) (d := (pfC L f (t + 1)).1) _ (by omega) (by omega) (by omega) (by omega)).mono ?_
      rintro e w22 ⟨_, rfl, h2, hb⟩
      obtain ⟨sh2, ah2, nh2, ch2, Ah2, Nh2, Ch2, rfl⟩ := h2.shape
      replace hs := bStep hs hb
      replace Blk := Blk.mono hb
      clear hb
      have ck_0 : w22.cell? ⟨w.heap.size, 0, none⟩ = some (.bool false) := Blk.at 0 rfl
      have ck_1 : w22.cell? ⟨w.heap.size, 1, none⟩ = some (.slice none 0 0) := Blk.at 1 rfl
      have ck_2 : w22.cell? ⟨w.heap.size, 2, none⟩ = some (.slice none 0 0) := Blk.at 2 rfl
      have fk := Blk.free
      have Lk : w.heap.size < w22.heap.size := Blk.lt
      go_wp2
      clear ck_0 ck_1 ck_2 fk Lk
      refine bodyPost.abs ?_
      intro w23 hW
      have hG : Gr [w.heap.size] w22 w23 := by rw [hW]; exact (Gr.refl _ _).set.set.set
      have hsz := hs.size
      have lk := Blk.lt
      have hbw : Below w.heap.size w22 w23 := hG.below1 hs.size (by first | omega | assumption)
      have hk : KeepD w22 w23 := hG.keep ⟨⟨_, Blk.ty, by decide⟩, True.intro⟩
      have Bl1k : Bx w23 (w.heap.size) 36 #[.bool sh2, .slice ah2 nh2 ch2, .slice Ah2 Nh2 Ch2] := by rw [hW]; exact Blk.set3
      replace hs := hs.trans hbw
      replace Blk := Bl1k
      clear Bl1k
      replace h2 := h2.keep hk
      clear hW hG hk hbw hsz lk
      have ck_0 : w23.cell? ⟨w.heap.size, 0, none⟩ = some (.bool sh2) := Blk.at 0 rfl
      have ck_1 : w23.cell? ⟨w.heap.size, 1, none⟩ = some (.slice ah2 nh2 ch2) := Blk.at 1 rfl
      have ck_2 : w23.cell? ⟨w.heap.size, 2, none⟩ = some (.slice Ah2 Nh2 Ch2) := Blk.at 2 rfl
      exact bodyPost_ret (v := .agg #[.bool sh2, .slice ah2 nh2 ch2, .slice Ah2 Nh2 Ch2]) (by simp [results, Tryz.results109, go_sem, ck_0, ck_1, ck_2]) rfl ⟨_, rfl, h2.of_eq (rfl), hs⟩

set_option maxRecDepth 100000 in
set_option maxHeartbeats 16000000 in
theorem r8_Misfit {v v' : Value} {L : List Cls} (w : World) (hl : RowsI 2 ClC w v L) {C : List Rat} (hc : Rows 3 36 RC w v' C) (h1 : 1 ≤ L.length) (h16 : L.length ≤ 16) (hok : ∀ c ∈ L, ClOk c) (n1 : C.length ≤ L.length) (n2 : L.length ≤ C.length) (hz : ∀ i, i < C.length → SzQ 1 (nthQ C i)) {q : Rat} (hq : mfL L C = q) : Calls Tryz.prog 38 #[v, v'] w (RetQ w q) := by
  obtain ⟨bhl, ohl, khl, rfl, hl1, hl2⟩ := hl.openI (by omega)
  have HLI := Lib.hid hl
  clear hl
  obtain ⟨bhc, ohc, khc, rfl, hc1, hc2, -⟩ := hc.open_ (by omega)
  have HMZ := Lib.hid (mfK_sz hok (by omega) hz)
  have HOK := Lib.hid hok
  have HCZ := Lib.hid hz
  have HQ := Lib.hid hq
  clear hok hz hq
  have hs := Below.refl w.heap.size w
  go_enter Tryz.func38, Tryz.ntmps38
  go_wp2_with fail
  refine Calls.abs ?_
  intro w1 hW
  have hG : Gr [] w w1 := by rw [hW]; exact (Gr.refl _ _).alloc
  have hbw : Below w.heap.size w w1 := hG.below0 hs.size
  have hk : KeepD w w1 := hG.keep True.intro
  have sz_w1 : w.heap.size ≤ w.heap.size := hs.size
  have nhc_w1 : bhc < w.heap.size := hc.lt (by omega)
  have Blk : Bx w1 (w.heap.size) 36 #[.bool false, .slice none 0 0, .slice none 0 0] := by rw [hW]; exact (Bx.new0 _ _ _)
  replace hs := hs.trans hbw
  replace hc := rowsJ RC.kept _ _ _ hc (hG.below0 (Nat.le_refl _))
  clear hW hG hk hbw
  have hz_w1 : w.heap.size < w1.heap.size := Blk.lt
  with_reducible refine (r_zero _).mono ?_
  rintro e w2 ⟨_, rfl, h1, hb⟩
  obtain ⟨sh1, ah1, nh1, ch1, Ah1, Nh1, Ch1, rfl⟩ := h1.shape
  replace hs := bStep hs hb
  replace Blk := Blk.mono hb
  replace hc := rowsJ RC.kept _ _ _ hc hb
  clear hb
  go_wp2
  refine Code.abs ?_
  intro w3 hW
  have hG : Gr [] w2 w3 := by rw [hW]; exact (Gr.refl _ _).alloc
  have hbw : Below w.heap.size w2 w3 := hG.below0 hs.size
  have hk : KeepD w2 w3 := hG.keep True.intro
  have sz_w3 : w.heap.size ≤ w2.heap.size := hs.size
  have nk_w3 : w.heap.size < w2.heap.size := Blk.lt
  have nhc_w3 : bhc < w2.heap.size := hc.lt (by omega)
  have Blsum : Bx w3 (w2.heap.size) 36 #[.bool sh1, .slice ah1 nh1 ch1, .slice Ah1 Nh1 Ch1] := by rw [hW]; exact (Bx.new0 _ _ _)
  replace hs := hs.trans hbw
  replace hc := rowsJ RC.kept _ _ _ hc (hG.below0 (Nat.le_refl _))
  replace Blk := hG.bx Blk notMem0
  replace h1 := h1.keep hk
  clear hW hG hk hbw
  have hz_w3 : w2.heap.size < w3.heap.size := Blsum.lt
  go_loopw [6] (fun s6 wq => ∃ k : Nat, k ≤ L.length ∧ s6 = .int .i64 k ∧ Below w.heap.size w wq ∧ Bx wq (w.heap.size) 36 #[.bool false, .slice none 0 0, .slice none 0 0] ∧ Rows 3 36 RC wq (.slice (some ⟨bhc, ohc, none⟩) C.length khc) C ∧ BoxR wq (w2.heap.size) (mfK L C k)) (fun s6 _ => L.length - (intOf s6).toNat)
  case atStart => exact ⟨0, Nat.zero_le _, rfl, hs, Blk, hc, ⟨_, _, _, _, _, _, _, Blsum, (h1.of_eq mfK_zero.symm)⟩⟩
  case round =>
    clear Blk Blsum h1 hc hs
    obtain ⟨k, k_le, rfl, hs, Blk, hc, ⟨sh2, ah2, nh2, ch2, Ah2, Nh2, Ch2, Blsum, h2⟩⟩ := hrel
    by_cases q3 : k < L.length
    · have q3d : ((k : Int) < (L.length : Int)) = True := eq_true (by omega)
      go_upto_region 5 with fail
      obtain ⟨Ee40, Ee41, le4⟩ := rowClI_at (HLI.out.mono ClC.kept hs) (show k < L.length by omega)
      obtain ⟨te4, Hte4⟩ : ∃ z : Int, z = (clAt L k).1 := ⟨_, rfl⟩
      obtain ⟨fe4, Hfe4⟩ : ∃ z : Int, z = (clAt L k).2 := ⟨_, rfl⟩
      rw [← Hte4] at Ee40
      rw [← Hfe4] at Ee41
      obtain ⟨bte4a, bte4b, bfe4a, bfe4b⟩ : 1 ≤ te4 ∧ te4 ≤ 64 ∧ 0 ≤ fe4 ∧ fe4 ≤ te4 := by rw [Hte4, Hfe4]; exact HOK.out _ (List.mem_of_getElem? (clAt_some (by omega)))
      replace Hte4 := Lib.hid Hte4.symm
      replace Hfe4 := Lib.hid Hfe4.symm
      have bk_e4 : k < L.length := by omega
      have bi_e4 : (k : Int) < (L.length : Int) := by omega
      have BI7a : k < C.length := by omega
      have BI7b : ((k : Int) : Int) < (C.length : Int) := by omega
      obtain ⟨ge8a, ae8a, ne8a, ce8a, Ae8a, Ne8a, De8a, Ee80, Ee81, Ee82, he8a, le8⟩ := rowR_at hc (show k < C.length by omega)
      refine U_region (S := fun w' => w'.cell? ⟨w2.heap.size, 0, none⟩ = some (.bool sh2) ∧ w'.cell? ⟨w2.heap.size, 1, none⟩ = some (.slice ah2 nh2 ch2) ∧ w'.cell? ⟨w2.heap.size, 2, none⟩ = some (.slice Ah2 Nh2 Ch2) ∧ w'.cell? ⟨bhl, ohl + k * 2, none⟩ = some (.int .i64 te4) ∧ w'.cell? ⟨bhl, ohl + k * 2 + 1, none⟩ = some (.int .i64 fe4) ∧ w'.cell? ⟨bhc, ohc + k * 3, none⟩ = some (.bool ge8a) ∧ w'.cell? ⟨bhc, ohc + k * 3 + 1, none⟩ = some (.slice ae8a ne8a ce8a) ∧ w'.cell? ⟨bhc, ohc + k * 3 + 2, none⟩ = some (.slice Ae8a Ne8a De8a)) (by kernel_rfl) 26 ?_
      refine AnyU.abs ?_
      intro w24 hW
      have hb : Below wr.heap.size wr w24 := by rw [hW]; exact bDrew _
      replace hs := bStep hs hb
      replace Blk := Blk.mono hb
      replace Blsum := Blsum.mono hb
      replace h2 := h2.mono hb
      replace he8a := he8a.mono hb
      replace hc := rowsJ RC.kept _ _ _ hc hb
      replace Ee40 := cellK Ee40 hb
      replace Ee41 := cellK Ee41 hb
      replace Ee80 := cellK Ee80 hb
      replace Ee81 := cellK Ee81 hb
      replace Ee82 := cellK Ee82 hb
      clear hb hW
      have csum_0 : w24.cell? ⟨w2.heap.size, 0, none⟩ = some (.bool sh2) := Blsum.at 0 rfl
      have csum_1 : w24.cell? ⟨w2.heap.size, 1, none⟩ = some (.slice ah2 nh2 ch2) := Blsum.at 1 rfl
      have csum_2 : w24.cell? ⟨w2.heap.size, 2, none⟩ = some (.slice Ah2 Nh2 Ch2) := Blsum.at 2 rfl
      have hH := (show w24.cell? ⟨w2.heap.size, 0, none⟩ = some (.bool sh2) ∧ w24.cell? ⟨w2.heap.size, 1, none⟩ = some (.slice ah2 nh2 ch2) ∧ w24.cell? ⟨w2.heap.size, 2, none⟩ = some (.slice Ah2 Nh2 Ch2) ∧ w24.cell? ⟨bhl, ohl + k * 2, none⟩ = some (.int .i64 te4) ∧ w24.cell? ⟨bhl, ohl + k * 2 + 1, none⟩ = some (.int .i64 fe4) ∧ w24.cell? ⟨bhc, ohc + k * 3, none⟩ = some (.bool ge8a) ∧ w24.cell? ⟨bhc, ohc + k * 3 + 1, none⟩ = some (.slice ae8a ne8a ce8a) ∧ w24.cell? ⟨bhc, ohc + k * 3 + 2, none⟩ = some (.slice Ae8a Ne8a De8a) from ⟨csum_0, csum_1, csum_2, Ee40, Ee41, Ee80, Ee81, Ee82⟩)
      refine U_tt 0 ?_ ?_ hH ?_
      rotate_left
      · (intro w hSw; (try dsimp only at hSw); go_simp; try with_reducible rfl)
      try simp only [LY]
      refine U_tt 1 ?_ ?_ hH ?_
      rotate_left
      · (intro w hSw; (try dsimp only at hSw); go_simp; try with_reducible rfl)
      try simp only [LY]
      refine U_tt 2 ?_ ?_ hH ?_
      rotate_left
      · (intro w hSw; (try dsimp only at hSw); go_simp; try with_reducible rfl)
      try simp only [LY]
      refine U_tt 3 ?_ ?_ hH ?_
      rotate_left
      · (intro w hSw; (try dsimp only at hSw); go_simp; try with_reducible rfl)
      try simp only [LY]
      refine U_tt 4 ?_ ?_ hH ?_
      rotate_left
      · (intro w hSw; (try dsimp only at hSw); go_simp; try with_reducible rfl)
      try simp only [LY]
      refine U_tt 5 ?_ ?_ hH ?_
      rotate_left
      · (intro w hSw; (try dsimp only at hSw); go_simp; try with_reducible rfl)
      try simp only [LY]
      refine U_tt 7 ?_ ?_ hH ?_
      rotate_left
      · (intro w hSw; (try dsimp only at hSw); go_simp; try with_reducible rfl)
      try simp only [LY]
      refine U_tt 8 ?_ ?_ hH ?_
      rotate_left
      · (intro w hSw; (try dsimp only at hSw); go_simp; try with_reducible rfl)
      try simp only [LY]
      refine U_tt 9 ?_ ?_ hH ?_
      rotate_left
      · (intro w hSw; (try dsimp only at hSw); go_simp; try with_reducible rfl)
      try simp only [LY]
      refine U_tt 10 ?_ ?_ hH ?_
      rotate_left
      · (intro w hSw; (try dsimp only at hSw); go_simp; try with_reducible rfl)
      try simp only [LY]
      refine U_tt 11 ?_ ?_ hH ?_
      rotate_left
      · (intro w hSw; (try dsimp only at hSw); go_simp; try with_reducible rfl)
      try simp only [LY]
      refine U_tt 12 ?_ ?_ hH ?_
      rotate_left
      · (intro w hSw; (try dsimp only at hSw); go_simp; try with_reducible rfl)
      try simp only [LY]
      refine U_tt 13 ?_ ?_ hH ?_
      rotate_left
      · (intro w hSw; (try dsimp only at hSw); go_simp; try with_reducible rfl)
      try simp only [LY]
      refine U_tt 14 ?_ ?_ hH ?_
      rotate_left
      · (intro w hSw; (try dsimp only at hSw); go_simp; try with_reducible rfl)
      try simp only [LY]
      refine U_tt 15 ?_ ?_ hH ?_
      rotate_left
      · (intro w hSw; (try dsimp only at hSw); go_simp; try with_reducible rfl)
      try simp only [LY]
      refine U_tt 16 ?_ ?_ hH ?_
      rotate_left
      · (intro w hSw; (try dsimp only at hSw); go_simp; try with_reducible rfl)
      try simp only [LY]
      refine U_tt 18 ?_ ?_ hH ?_
      rotate_left
      · (intro w hSw; (try dsimp only at hSw); go_simp; try with_reducible rfl)
      try simp only [LY]
      refine U_tt 19 ?_ ?_ hH ?_
      rotate_left
      · (intro w hSw; (try dsimp only at hSw); go_simp; try with_reducible rfl)
      try simp only [LY]
      refine U_tt 20 ?_ ?_ hH ?_
      rotate_left
      · (intro w hSw; (try dsimp only at hSw); go_simp; try with_reducible rfl)
      try simp only [LY]
      refine U_tt 21 ?_ ?_ hH ?_
      rotate_left
      · (intro w hSw; (try dsimp only at hSw); go_simp; try with_reducible rfl)
      try simp only [LY]
      clear hH
      refine U_one (i := 6) (by kernel_rfl) rfl (fun K hK => ?_)
      go_simp
      (with_reducible refine (r8_num te4 _ (by omega) (by omega)).mono ?_)
      rintro e w25 ⟨_, rfl, h5, hb⟩
      obtain ⟨sh5, ah5, nh5, ch5, Ah5, Nh5, Ch5, rfl⟩ := h5.shape
      replace hs := bStep hs hb
      replace Blk := Blk.mono hb
      replace Blsum := Blsum.mono hb
      replace h2 := h2.mono hb
      replace he8a := he8a.mono hb
      replace hc := rowsJ RC.kept _ _ _ hc hb
      replace csum_0 := cellK csum_0 hb
      replace csum_1 := cellK csum_1 hb
      replace csum_2 := cellK csum_2 hb
      replace Ee40 := cellK Ee40 hb
      replace Ee41 := cellK Ee41 hb
      replace Ee80 := cellK Ee80 hb
      replace Ee81 := cellK Ee81 hb
      replace Ee82 := cellK Ee82 hb
      clear hb
      try go_wp2_with fail
      refine hK.out _ _ ⟨csum_0, csum_1, csum_2, Ee40, Ee41, Ee80, Ee81, Ee82⟩ (fun hH => ?_)
      clear hK K
      try simp only [LY]
      clear hH
      refine U_one (i := 17) (by kernel_rfl) rfl (fun K hK => ?_)
      go_simp
      (with_reducible refine (r8_part_c (n := fe4) (d := te4) _ (by omega) (by omega) (by omega) (by omega)).mono ?_)
      rintro e w26 ⟨_, rfl, h6, hb⟩
      obtain ⟨sh6, ah6, nh6, ch6, Ah6, Nh6, Ch6, rfl⟩ := h6.shape
      replace hs := bStep hs hb
      replace Blk := Blk.mono hb
      replace Blsum := Blsum.mono hb
      replace h2 := h2.mono hb
      replace he8a := he8a.mono hb
      replace h5 := h5.mono hb
      replace hc := rowsJ RC.kept _ _ _ hc hb
      replace csum_0 := cellK csum_0 hb
      replace csum_1 := cellK csum_1 hb
      replace csum_2 := cellK csum_2 hb
      replace Ee40 := cellK Ee40 hb
      replace Ee41 := cellK Ee41 hb
      replace Ee80 := cellK Ee80 hb
      replace Ee81 := cellK Ee81 hb
      replace Ee82 := cellK Ee82 hb
      clear hb
      try go_wp2_with fail
      refine hK.out _ _ ⟨csum_0, csum_1, csum_2, Ee40, Ee41, Ee80, Ee81, Ee82⟩ (fun hH => ?_)
      clear hK K
      try simp only [LY]
      clear hH
      refine U_one (i := 22) (by kernel_rfl) rfl (fun K hK => ?_)
      go_simp
      (with_reducible refine (rSub h6 he8a (SzQ.fit (szQ_frac (by omega) (by omega) (by omega))) (SzQ.fit (HCZ.out k (by omega)))).mono ?_)
      rintro e w27 ⟨_, rfl, h9, hb⟩
      obtain ⟨sh9, ah9, nh9, ch9, Ah9, Nh9, Ch9, rfl⟩ := h9.shape
      replace hs := bStep hs hb
      replace Blk := Blk.mono hb
      replace Blsum := Blsum.mono hb
      replace h2 := h2.mono hb
      replace he8a := he8a.mono hb
      replace h5 := h5.mono hb
      replace h6 := h6.mono hb
      replace hc := rowsJ RC.kept _ _ _ hc hb
      replace csum_0 := cellK csum_0 hb
      replace csum_1 := cellK csum_1 hb
      replace csum_2 := cellK csum_2 hb
      replace Ee40 := cellK Ee40 hb
      replace Ee41 := cellK Ee41 hb
      replace Ee80 := cellK Ee80 hb
      replace Ee81 := cellK Ee81 hb
      replace Ee82 := cellK Ee82 hb
      clear hb
      try go_wp2_with fail
      refine hK.out _ _ ⟨csum_0, csum_1, csum_2, Ee40, Ee41, Ee80, Ee81, Ee82⟩ (fun hH => ?_)
      clear hK K
      try simp only [LY]
      clear hH
      refine U_one (i := 23) (by kernel_rfl) rfl (fun K hK => ?_)
      go_simp
      (with_reducible refine (r8_square _ _ _ h9 (SzQ.mid (SzQ.sub (szQ_frac (by omega) (by omega) (by omega)) (HCZ.out k (by omega))))).mono ?_)
      rintro e w28 ⟨_, rfl, h10, hb⟩
      obtain ⟨sh10, ah10, nh10, ch10, Ah10, Nh10, Ch10, rfl⟩ := h10.shape
      replace hs := bStep hs hb
      replace Blk := Blk.mono hb
      replace Blsum := Blsum.mono hb
      replace h2 := h2.mono hb
      replace he8a := he8a.mono hb
      replace h5 := h5.mono hb
      replace h6 := h6.mono hb
      replace h9 := h9.mono hb
      replace hc := rowsJ RC.kept _ _ _ hc hb
      replace csum_0 := cellK csum_0 hb
      replace csum_1 := cellK csum_1 hb
      replace csum_2 := cellK csum_2 hb
      replace Ee40 := cellK Ee40 hb
      replace Ee41 := cellK Ee41 hb
      replace Ee80 := cellK Ee80 hb
      replace Ee81 := cellK Ee81 hb
      replace Ee82 := cellK Ee82 hb
      clear hb
      try go_wp2_with fail
      refine hK.out _ _ ⟨csum_0, csum_1, csum_2, Ee40, Ee41, Ee80, Ee81, Ee82⟩ (fun hH => ?_)
      clear hK K
      try simp only [LY]
      clear hH
      refine U_one (i := 24) (by kernel_rfl) rfl (fun K hK => ?_)
      go_simp
      (with_reducible refine (rMul h5 h10 (SzQ.fit (szQ_int (by omega))) (SzQ.fit (SzQ.mul (SzQ.sub (szQ_frac (by omega) (by omega) (by omega)) (HCZ.out k (by omega))) (SzQ.sub (szQ_frac (by omega) (by omega) (by omega)) (HCZ.out k (by omega)))))).mono ?_)
      rintro e w29 ⟨_, rfl, h11, hb⟩
      obtain ⟨sh11, ah11, nh11, ch11, Ah11, Nh11, Ch11, rfl⟩ := h11.shape
      replace hs := bStep hs hb
      replace Blk := Blk.mono hb
      replace Blsum := Blsum.mono hb
      replace h2 := h2.mono hb
      replace he8a := he8a.mono hb
      replace h5 := h5.mono hb
      replace h6 := h6.mono hb
      replace h9 := h9.mono hb
      replace h10 := h10.mono hb
      replace hc := rowsJ RC.kept _ _ _ hc hb
      replace csum_0 := cellK csum_0 hb
      replace csum_1 := cellK csum_1 hb
      replace csum_2 := cellK csum_2 hb
      replace Ee40 := cellK Ee40 hb
      replace Ee41 := cellK Ee41 hb
      replace Ee80 := cellK Ee80 hb
      replace Ee81 := cellK Ee81 hb
      replace Ee82 := cellK Ee82 hb
      clear hb
      try go_wp2_with fail
      refine hK.out _ _ ⟨csum_0, csum_1, csum_2, Ee40, Ee41, Ee80, Ee81, Ee82⟩ (fun hH => ?_)
      clear hK K
      try simp only [LY]
      clear hH
      refine U_one (i := 25) (by kernel_rfl) rfl (fun K hK => ?_)
      go_simp
      (with_reducible refine (rAdd h2 h11 (SzQ.fit ((HMZ.out k (by omega)).mono (show k * 12 + 1 ≤ 200 by omega))) (SzQ.fit (SzQ.mul (szQ_int (by omega)) (SzQ.mul (SzQ.sub (szQ_frac (by omega) (by omega) (by omega)) (HCZ.out k (by omega))) (SzQ.sub (szQ_frac (by omega) (by omega) (by omega)) (HCZ.out k (by omega))))))).mono ?_)
      rintro e w30 ⟨_, rfl, h12, hb⟩
      obtain ⟨sh12, ah12, nh12, ch12, Ah12, Nh12, Ch12, rfl⟩ := h12.shape
      replace hs := bStep hs hb
      replace Blk := Blk.mono hb
      replace Blsum := Blsum.mono hb
      replace h2 := h2.mono hb
      replace he8a := he8a.mono hb
      replace h5 := h5.mono hb
      replace h6 := h6.mono hb
      replace h9 := h9.mono hb
      replace h10 := h10.mono hb
      replace h11 := h11.mono hb
      replace hc := rowsJ RC.kept _ _ _ hc hb
      replace csum_0 := cellK csum_0 hb
      replace csum_1 := cellK csum_1 hb
      replace csum_2 := cellK csum_2 hb
      replace Ee40 := cellK Ee40 hb
      replace Ee41 := cellK Ee41 hb
      replace Ee80 := cellK Ee80 hb
      replace Ee81 := cellK Ee81 hb
      replace Ee82 := cellK Ee82 hb
      clear hb
      try go_wp2_with fail
      refine hK.out _ _ ⟨csum_0, csum_1, csum_2, Ee40, Ee41, Ee80, Ee81, Ee82⟩ (fun hH => ?_)
      clear hK K
      try simp only [LY]
      clear hH
      have csum_0 : w30.cell? ⟨w2.heap.size, 0, none⟩ = some (.bool sh2) := Blsum.at 0 rfl
      have csum_1 : w30.cell? ⟨w2.heap.size, 1, none⟩ = some (.slice ah2 nh2 ch2) := Blsum.at 1 rfl
      have csum_2 : w30.cell? ⟨w2.heap.size, 2, none⟩ = some (.slice Ah2 Nh2 Ch2) := Blsum.at 2 rfl
      have fsum := Blsum.free
      have Lsum : w2.heap.size < w30.heap.size := Blsum.lt
      refine U_last (by kernel_rfl) rfl (by kernel_rfl) (fun K hK => ?_)
      go_simp
      refine hK.out _ _ ?_
      clear hK K
      intro w31 hW
      have hG : Gr [w2.heap.size] w30 w31 := by rw [hW]; exact (Gr.refl _ _).set.set.set
      have hsz := hs.size
      have lsum := Blsum.lt
      have hbw : Below w.heap.size w30 w31 := hG.below1 hs.size (by first | omega | assumption)
      have hk : KeepD w30 w31 := hG.keep ⟨⟨_, Blsum.ty, by decide⟩, True.intro⟩
      have Bl1sum : Bx w31 (w2.heap.size) 36 #[.bool sh12, .slice ah12 nh12 ch12, .slice Ah12 Nh12 Ch12] := by rw [hW]; exact Blsum.set3
      replace hs := hs.trans hbw
      replace hc := hc.gr RC.kept hG (notMem1 (by omega)) hk
      replace Blk := hG.bx Blk (notMem1 (by omega))
      replace Blsum := Bl1sum
      clear Bl1sum
      replace h2 := h2.keep hk
      replace he8a := he8a.keep hk
      replace h5 := h5.keep hk
      replace h6 := h6.keep hk
      replace h9 := h9.keep hk
      replace h10 := h10.keep hk
      replace h11 := h11.keep hk
      replace h12 := h12.keep hk
      clear hW hG hk hbw hsz lsum
      try simp only [LY]
      clear csum_0 csum_1 csum_2 Ee40 Ee41 Ee80 Ee81 Ee82
      go_wp2
      go_roundw
      case rel => exact ⟨k + 1, by omega, by go_num, hs, Blk, hc, ⟨_, _, _, _, _, _, _, Blsum, h12.of_eq (mfK_next' (by omega) (by omega) Hte4.out Hfe4.out)⟩⟩
      all_goals first | (simp [intOf]; done) | (simp [intOf]; omega)
    · have q3d : ((k : Int) < (L.length : Int)) = False := eq_false (by omega)
      obtain rfl : k = L.length := by omega
      have csum_0 : wr.cell? ⟨w2.heap.size, 0, none⟩ = some (.bool sh2) := Blsum.at 0 rfl
      have csum_1 : wr.cell? ⟨w2.heap.size, 1, none⟩ = some (.slice ah2 nh2 ch2) := Blsum.at 1 rfl
      have csum_2 : wr.cell? ⟨w2.heap.size, 2, none⟩ = some (.slice Ah2 Nh2 Ch2) := Blsum.at 2 rfl
      have Lsum : w2.heap.size < wr.heap.size := Blsum.lt
      have ck_0 : wr.cell? ⟨w.heap.size, 0, none⟩ = some (.bool false) := Blk.at 0 rfl
      have ck_1 : wr.cell? ⟨w.heap.size, 1, none⟩ = some (.slice none 0 0) := Blk.at 1 rfl
      have ck_2 : wr.cell? ⟨w.heap.size, 2, none⟩ = some (.slice none 0 0) := Blk.at 2 rfl
      have fk := Blk.free
      have Lk : w.heap.size < wr.heap.size := Blk.lt
      go_wp2
      clear csum_0 csum_1 csum_2 ck_0 ck_1 ck_2 fk Lsum Lk
      refine bodyPost.abs ?_
      intro w24 hW
      have hG : Gr [w.heap.size] wr w24 := by rw [hW]; exact (Gr.refl _ _).set.set.set
      have hsz := hs.size
      have lk := Blk.lt
      have hbw : Below w.heap.size wr w24 := hG.below1 hs.size (by first | omega | assumption)
      have hk : KeepD wr w24 := hG.keep ⟨⟨_, Blk.ty, by decide⟩, True.intro⟩
      have Bl1k : Bx w24 (w.heap.size) 36 #[.bool sh2, .slice ah2 nh2 ch2, .slice Ah2 Nh2 Ch2] := by rw [hW]; exact Blk.set3
      replace hs := hs.trans hbw
      replace hc := hc.gr RC.kept hG (notMem1 (by omega)) hk
      replace Blsum := hG.bx Blsum (notMem1 (by omega))
      replace Blk := Bl1k
      clear Bl1k
      replace h2 := h2.keep hk
      clear hW hG hk hbw hsz lk
      have ck_0 : w24.cell? ⟨w.heap.size, 0, none⟩ = some (.bool sh2) := Blk.at 0 rfl
      have ck_1 : w24.cell? ⟨w.heap.size, 1, none⟩ = some (.slice ah2 nh2 ch2) := Blk.at 1 rfl
      have ck_2 : w24.cell? ⟨w.heap.size, 2, none⟩ = some (.slice Ah2 Nh2 Ch2) := Blk.at 2 rfl
      exact bodyPost_ret (v := .agg #[.bool sh2, .slice ah2 nh2 ch2, .slice Ah2 Nh2 Ch2]) (by simp [results, Tryz.results38, go_sem, ck_0, ck_1, ck_2]) rfl ⟨_, rfl, h2.of_eq ((mfK_all (by omega)).trans HQ.out), hs⟩

set_option maxRecDepth 100000 in
set_option maxHeartbeats 16000000 in
theorem r8_Reliable {v vp vu : Value} {p u : Rat} {L : List Cls} (w : World) (hl : RowsI 2 ClC w v L) (hp : RV w vp p) (sp : SzQ 1 p) (hp1 : 0 ≤ p ∧ p ≤ 1) (hu : RV w vu u) (su : SzQ 1 u) (hu1 : 0 ≤ u ∧ u ≤ 1) (h1 : 1 ≤ L.length) (h16 : L.length ≤ 16) (hok : ∀ c ∈ L, ClOk c) {D : Nat} (hD : relF (prvC L u p) L.length = D) {r1 r2 : Int} (hr1 : r1 = if D = L.length then 0 else (D : Int)) (hr2 : r2 = if D = L.length then 5 else 0) (hW : clE L = 0) : Calls Tryz.prog 41 #[v, vp, vu] w (RetV w (.tuple #[.int .i64 r1, .int .i64 r2])) := by
  obtain ⟨bhl, ohl, khl, rfl, hl1, hl2⟩ := hl.openI (by omega)
  have HLI := Lib.hid hl
  clear hl
  obtain ⟨shp, ahp, nhp, chp, Ahp, Nhp, Chp, rfl⟩ := hp.shape
  obtain ⟨shu, ahu, nhu, chu, Ahu, Nhu, Chu, rfl⟩ := hu.shape
  have HE1 := Lib.hid hr1
  have HE2 := Lib.hid hr2
  have HOK := Lib.hid hok
  have HD := Lib.hid hD
  have HP := Lib.hid hp1
  have HU := Lib.hid hu1
  have HW := Lib.hid hW
  clear hok hD hp1 hu1 hr1 hr2 hW
  have hs := Below.refl w.heap.size w
  go_enter Tryz.func41, Tryz.ntmps41
  go_wp2_with fail
  refine Calls.abs ?_
  intro w1 hW
  have hG : Gr [] w w1 := by rw [hW]; exact (Gr.refl _ _).alloc.alloc
  have hbw : Below w.heap.size w w1 := hG.below0 hs.size
  have hk : KeepD w w1 := hG.keep True.intro
  have sz_w1 : w.heap.size ≤ w.heap.size := hs.size
  have Blchance : Bx w1 (w.heap.size) 36 #[.bool shp, .slice ahp nhp chp, .slice Ahp Nhp Chp] := by rw [hW]; exact ((Bx.new0 _ _ _).alloc _)
  have Blconfidence : Bx w1 (w.heap.size + 1) 36 #[.bool shu, .slice ahu nhu chu, .slice Ahu Nhu Chu] := by rw [hW]; exact (Bx.new0 _ _ _)
  replace hs := hs.trans hbw
  replace hp := hp.keep hk
  replace hu := hu.keep hk
  clear hW hG hk hbw
  have hz_w1 : w.heap.size + 1 < w1.heap.size := Blconfidence.lt
  with_reducible refine (r8_Classes_all _ (HLI.out.mono ClC.kept hs) HW.out).mono ?_
  rintro e w2 ⟨rfl, hb⟩
  replace hs := bStep hs hb
  replace Blchance := Blchance.mono hb
  replace Blconfidence := Blconfidence.mono hb
  replace hp := hp.mono hb
  replace hu := hu.mono hb
  clear hb
  have cchance_0 : w2.cell? ⟨w.heap.size, 0, none⟩ = some (.bool shp) := Blchance.at 0 rfl
  have cchance_1 : w2.cell? ⟨w.heap.size, 1, none⟩ = some (.slice ahp nhp chp) := Blchance.at 1 rfl
  have cchance_2 : w2.cell? ⟨w.heap.size, 2, none⟩ = some (.slice Ahp Nhp Chp) := Blchance.at 2 rfl
  have Lchance : w.heap.size < w2.heap.size := Blchance.lt
  go_wp2_with fail
  clear cchance_0 cchance_1 cchance_2 Lchance
  with_reducible refine (r8_Chance _ _ _ hp (SzQ.mid sp) rfl).mono ?_
  rintro e w3 ⟨rfl, hb⟩
  replace hs := bStep hs hb
  replace Blchance := Blchance.mono hb
  replace Blconfidence := Blconfidence.mono hb
  replace hp := hp.mono hb
  replace hu := hu.mono hb
  clear hb
  obtain ⟨b1, Hb1⟩ : ∃ b : Bool, b = decide (0 ≤ p ∧ p ≤ 1) := ⟨_, rfl⟩
  rw [← Hb1]
  replace Hb1 := Lib.hid Hb1
  have q2 : 0 ≤ p ∧ p ≤ 1 := HP.out
  obtain rfl : b1 = true := by rw [Hb1.out]; exact decide_eq_true q2
  have q2H := Lib.hid q2
  clear q2
  have cconfidence_0 : w3.cell? ⟨w.heap.size + 1, 0, none⟩ = some (.bool shu) := Blconfidence.at 0 rfl
  have cconfidence_1 : w3.cell? ⟨w.heap.size + 1, 1, none⟩ = some (.slice ahu nhu chu) := Blconfidence.at 1 rfl
  have cconfidence_2 : w3.cell? ⟨w.heap.size + 1, 2, none⟩ = some (.slice Ahu Nhu Chu) := Blconfidence.at 2 rfl
  have Lconfidence : w.heap.size + 1 < w3.heap.size := Blconfidence.lt
  go_wp2_with fail
  clear cconfidence_0 cconfidence_1 cconfidence_2 Lconfidence
  with_reducible refine (r8_Chance _ _ _ hu (SzQ.mid su) rfl).mono ?_
  rintro e w4 ⟨rfl, hb⟩
  replace hs := bStep hs hb
  replace Blchance := Blchance.mono hb
  replace Blconfidence := Blconfidence.mono hb
  replace hp := hp.mono hb
  replace hu := hu.mono hb
  clear hb
  obtain ⟨b3, Hb3⟩ : ∃ b : Bool, b = decide (0 ≤ u ∧ u ≤ 1) := ⟨_, rfl⟩
  rw [← Hb3]
  replace Hb3 := Lib.hid Hb3
  have q4 : 0 ≤ u ∧ u ≤ 1 := HU.out
  obtain rfl : b3 = true := by rw [Hb3.out]; exact decide_eq_true q4
  have q4H := Lib.hid q4
  clear q4
  go_wp2
  go_loopw [9] (fun s9 wq => ∃ k : Nat, k ≤ L.length ∧ s9 = .int .i64 k ∧ Below w.heap.size w wq ∧ Bx wq (w.heap.size) 36 #[.bool shp, .slice ahp nhp chp, .slice Ahp Nhp Chp] ∧ Bx wq (w.heap.size + 1) 36 #[.bool shu, .slice ahu nhu chu, .slice Ahu Nhu Chu] ∧ RV wq (.agg #[.bool shp, .slice ahp nhp chp, .slice Ahp Nhp Chp]) (p) ∧ RV wq (.agg #[.bool shu, .slice ahu nhu chu, .slice Ahu Nhu Chu]) (u) ∧ (relF (prvC L u p) k = D)) (fun s9 _ => (intOf s9).toNat)
  case atStart => exact ⟨L.length, Nat.le_refl _, rfl, hs, Blchance, Blconfidence, hp, hu, HD.out⟩
  case round =>
    clear Blchance Blconfidence hp hu hs
    obtain ⟨k, k_le, rfl, hs, Blchance, Blconfidence, hp, hu, HI⟩ := hrel
    replace HI := Lib.hid HI
    go_upto_region 7 with fail
    by_cases q5 : 0 < k
    · have q5d : ((0 : Int) < (k : Int)) = True := eq_true (by omega)
      have SW6a := IntWalk.i64_in ((k : Int) - 1) (by omega)
      have SW6b : (0 : Int) ≤ (k : Int) - 1 := by omega
      have SW6c : ((k : Int) - 1).toNat = (k - 1) := by omega
      have SW6d : (k : Int) - 1 < (L.length : Int) := by omega
      have SW6e : (1 : Int) ≤ (k : Int) := by omega
      have SW6f : (k : Int) < (L.length : Int) + 1 := by omega
      obtain ⟨Ee70, Ee71, le7⟩ := rowClI_at (HLI.out.mono ClC.kept hs) (show (k - 1) < L.length by omega)
      obtain ⟨te7, Hte7⟩ : ∃ z : Int, z = (clAt L (k - 1)).1 := ⟨_, rfl⟩
      obtain ⟨fe7, Hfe7⟩ : ∃ z : Int, z = (clAt L (k - 1)).2 := ⟨_, rfl⟩
      rw [← Hte7] at Ee70
      rw [← Hfe7] at Ee71
      obtain ⟨bte7a, bte7b, bfe7a, bfe7b⟩ : 1 ≤ te7 ∧ te7 ≤ 64 ∧ 0 ≤ fe7 ∧ fe7 ≤ te7 := by rw [Hte7, Hfe7]; exact HOK.out _ (List.mem_of_getElem? (clAt_some (by omega)))
      replace Hte7 := Lib.hid Hte7.symm
      replace Hfe7 := Lib.hid Hfe7.symm
      obtain ⟨b8, Hb8⟩ : ∃ b : Bool, b = prvC L u p (k - 1) := ⟨_, rfl⟩
      replace Hb8 := Lib.hid Hb8
      refine U_region (S := fun w' => w'.cell? ⟨w.heap.size, 0, none⟩ = some (.bool shp) ∧ w'.cell? ⟨w.heap.size, 1, none⟩ = some (.slice ahp nhp chp) ∧ w'.cell? ⟨w.heap.size, 2, none⟩ = some (.slice Ahp Nhp Chp) ∧ w'.cell? ⟨w.heap.size + 1, 0, none⟩ = some (.bool shu) ∧ w'.cell? ⟨w.heap.size + 1, 1, none⟩ = some (.slice ahu nhu chu) ∧ w'.cell? ⟨w.heap.size + 1, 2, none⟩ = some (.slice Ahu Nhu Chu) ∧ w'.cell? ⟨bhl, ohl + (k - 1) * 2, none⟩ = some (.int .i64 te7) ∧ w'.cell? ⟨bhl, ohl + (k - 1) * 2 + 1, none⟩ = some (.int .i64 fe7)) (by kernel_rfl) 12 ?_
      refine AnyU.abs ?_
      intro w25 hW
      have hb : Below wr.heap.size wr w25 := by rw [hW]; exact bDrew _
      replace hs := bStep hs hb
      replace Blchance := Blchance.mono hb
      replace Blconfidence := Blconfidence.mono hb
      replace hp := hp.mono hb
      replace hu := hu.mono hb
      replace Ee70 := cellK Ee70 hb
      replace Ee71 := cellK Ee71 hb
      clear hb hW
      have cchance_0 : w25.cell? ⟨w.heap.size, 0, none⟩ = some (.bool shp) := Blchance.at 0 rfl
      have cchance_1 : w25.cell? ⟨w.heap.size, 1, none⟩ = some (.slice ahp nhp chp) := Blchance.at 1 rfl
      have cchance_2 : w25.cell? ⟨w.heap.size, 2, none⟩ = some (.slice Ahp Nhp Chp) := Blchance.at 2 rfl
      have cconfidence_0 : w25.cell? ⟨w.heap.size + 1, 0, none⟩ = some (.bool shu) := Blconfidence.at 0 rfl
      have cconfidence_1 : w25.cell? ⟨w.heap.size + 1, 1, none⟩ = some (.slice ahu nhu chu) := Blconfidence.at 1 rfl
      have cconfidence_2 : w25.cell? ⟨w.heap.size + 1, 2, none⟩ = some (.slice Ahu Nhu Chu) := Blconfidence.at 2 rfl
      have hH := (show w25.cell? ⟨w.heap.size, 0, none⟩ = some (.bool shp) ∧ w25.cell? ⟨w.heap.size, 1, none⟩ = some (.slice ahp nhp chp) ∧ w25.cell? ⟨w.heap.size, 2, none⟩ = some (.slice Ahp Nhp Chp) ∧ w25.cell? ⟨w.heap.size + 1, 0, none⟩ = some (.bool shu) ∧ w25.cell? ⟨w.heap.size + 1, 1, none⟩ = some (.slice ahu nhu chu) ∧ w25.cell? ⟨w.heap.size + 1, 2, none⟩ = some (.slice Ahu Nhu Chu) ∧ w25.cell? ⟨bhl, ohl + (k - 1) * 2, none⟩ = some (.int .i64 te7) ∧ w25.cell? ⟨bhl, ohl + (k - 1) * 2 + 1, none⟩ = some (.int .i64 fe7) from ⟨cchance_0, cchance_1, cchance_2, cconfidence_0, cconfidence_1, cconfidence_2, Ee70, Ee71⟩)
      refine U_tk 0 25 ?_ ?_ hH ?_
      rotate_left
      · (intro w hSw; (try dsimp only at hSw); go_simp; try with_reducible rfl)
      simp only [LY]
      refine U_tk 1 26 ?_ ?_ hH ?_
      rotate_left
      · (intro w hSw; (try dsimp only at hSw); go_simp; try with_reducible rfl)
      simp only [LY]
      refine U_tk 2 27 ?_ ?_ hH ?_
      rotate_left
      · (intro w hSw; (try dsimp only at hSw); go_simp; try with_reducible rfl)
      simp only [LY]
      refine U_tk 3 28 ?_ ?_ hH ?_
      rotate_left
      · (intro w hSw; (try dsimp only at hSw); go_simp; try with_reducible rfl)
      simp only [LY]
      refine U_tk 4 29 ?_ ?_ hH ?_
      rotate_left
      · (intro w hSw; (try dsimp only at hSw); go_simp; try with_reducible rfl)
      simp only [LY]
      refine U_tk 5 30 ?_ ?_ hH ?_
      rotate_left
      · (intro w hSw; (try dsimp only at hSw); go_simp; try with_reducible rfl)
      simp only [LY]
      refine U_tk 6 31 ?_ ?_ hH ?_
      rotate_left
      · (intro w hSw; (try dsimp only at hSw); go_simp; try with_reducible rfl)
      simp only [LY]
      refine U_tk 7 32 ?_ ?_ hH ?_
      rotate_left
      · (intro w hSw; (try dsimp only at hSw); go_simp; try with_reducible rfl)
      simp only [LY]
      refine U_tk 8 33 ?_ ?_ hH ?_
      rotate_left
      · (intro w hSw; (try dsimp only at hSw); go_simp; try with_reducible rfl)
      simp only [LY]
      refine U_tk 9 34 ?_ ?_ hH ?_
      rotate_left
      · (intro w hSw; (try dsimp only at hSw); go_simp; try with_reducible rfl)
      simp only [LY]
      clear hH
      refine U_one (i := 10) (by kernel_rfl) rfl (fun K hK => ?_)
      go_simp
      (with_reducible refine (r8_sure_e _ Hte7.out Hfe7.out (by omega) (by omega) (by omega) (by omega) hp sp HP.out hu su Hb8.out.symm).mono ?_)
      rintro e w26 ⟨rfl, hb⟩
      replace hs := bStep hs hb
      replace Blchance := Blchance.mono hb
      replace Blconfidence := Blconfidence.mono hb
      replace hp := hp.mono hb
      replace hu := hu.mono hb
      replace cchance_0 := cellK cchance_0 hb
      replace cchance_1 := cellK cchance_1 hb
      replace cchance_2 := cellK cchance_2 hb
      replace cconfidence_0 := cellK cconfidence_0 hb
      replace cconfidence_1 := cellK cconfidence_1 hb
      replace cconfidence_2 := cellK cconfidence_2 hb
      replace Ee70 := cellK Ee70 hb
      replace Ee71 := cellK Ee71 hb
      clear hb
      try go_wp2_with fail
      refine hK.out _ _ ⟨cchance_0, cchance_1, cchance_2, cconfidence_0, cconfidence_1, cconfidence_2, Ee70, Ee71⟩ (fun hH => ?_)
      clear hK K
      try simp only [LY]
      refine U_tk 11 36 ?_ ?_ hH ?_
      rotate_left
      · (intro w hSw; (try dsimp only at hSw); go_simp; try with_reducible rfl)
      simp only [LY]
      clear hH
      refine U_endN (by kernel_rfl) ?_
      clear cchance_0 cchance_1 cchance_2 cconfidence_0 cconfidence_1 cconfidence_2 Ee70 Ee71
      by_cases q9 : prvC L u p (k - 1) = true
      · obtain rfl : b8 = true := by rw [Hb8.out]; exact q9
        have q9H := Lib.hid q9
        clear q9
        go_wp2
        go_roundw
        case rel => exact ⟨k - 1, by omega, congrArg _ (by omega), hs, Blchance, Blconfidence, hp, hu, (relF_yes (P := prvC L u p) (by omega) q9H.out).symm.trans HI.out⟩
        all_goals first | (simp [intOf]; done) | (simp [intOf]; omega)
      · obtain rfl : b8 = false := by rw [Hb8.out]; simpa using q9
        have q9H := Lib.hid q9
        clear q9
        obtain rfl : k = D := (relF_no (P := prvC L u p) (by omega) q9H.out).symm.trans HI.out
        by_cases q10 : k = L.length
        · have q10b : ((k : Int) == (L.length : Int)) = true := beq_iff_eq.2 (by omega)
          have q10n : ((k : Int) != (L.length : Int)) = false := bne_eq_false_iff_eq.2 (by omega)
          have q10H := Lib.hid q10
          clear q10
          go_wp2
          clear le7
          go_ret2
          exact ⟨by rw [HE1.out, HE2.out, if_pos q10H.out, if_pos q10H.out]; rfl, hs⟩
        · have q10b : ((k : Int) == (L.length : Int)) = false := beq_eq_false_iff_ne.2 (by omega)
          have q10n : ((k : Int) != (L.length : Int)) = true := bne_iff_ne.2 (by omega)
          have q10H := Lib.hid q10
          clear q10
          go_wp2
          clear le7
          go_ret2
          exact ⟨by rw [HE1.out, HE2.out, if_neg q10H.out, if_neg q10H.out]; rfl, hs⟩
    · have q5d : ((0 : Int) < (k : Int)) = False := eq_false (by omega)
      refine U_region (S := fun w' => True) (by kernel_rfl) 12 ?_
      refine AnyU.abs ?_
      intro w25 hW
      have hb : Below wr.heap.size wr w25 := by rw [hW]; exact bDrew _
      replace hs := bStep hs hb
      replace Blchance := Blchance.mono hb
      replace Blconfidence := Blconfidence.mono hb
      replace hp := hp.mono hb
      replace hu := hu.mono hb
      clear hb hW
      have hH := (show True from True.intro)
      refine U_tk 0 25 ?_ ?_ hH ?_
      rotate_left
      · (intro w hSw; (try dsimp only at hSw); go_simp; try with_reducible rfl)
      simp only [LY]
      refine U_tk 1 26 ?_ ?_ hH ?_
      rotate_left
      · (intro w hSw; (try dsimp only at hSw); go_simp; try with_reducible rfl)
      simp only [LY]
      refine U_tk 2 27 ?_ ?_ hH ?_
      rotate_left
      · (intro w hSw; (try dsimp only at hSw); go_simp; try with_reducible rfl)
      simp only [LY]
      refine U_tu 3 28 hH ?_
      simp only [LY]
      refine U_tu 4 29 hH ?_
      simp only [LY]
      refine U_tu 5 30 hH ?_
      simp only [LY]
      refine U_tu 6 31 hH ?_
      simp only [LY]
      refine U_tu 7 32 hH ?_
      simp only [LY]
      refine U_tu 8 33 hH ?_
      simp only [LY]
      refine U_tu 9 34 hH ?_
      simp only [LY]
      clear hH
      refine U_one (i := 10) (by kernel_rfl) rfl (fun K hK => ?_)
      go_simp
      refine hK.out _ _ True.intro (fun hH => ?_)
      clear hK K
      try simp only [LY]
      refine U_tk 11 36 ?_ ?_ hH ?_
      rotate_left
      · (intro w hSw; (try dsimp only at hSw); go_simp; try with_reducible rfl)
      simp only [LY]
      clear hH
      refine U_endN (by kernel_rfl) ?_
      obtain rfl : k = D := by have h := HI.out; rw [show k = 0 by omega] at h ⊢; exact h
      by_cases q6 : k = L.length
      · have q6b : ((k : Int) == (L.length : Int)) = true := beq_iff_eq.2 (by omega)
        have q6n : ((k : Int) != (L.length : Int)) = false := bne_eq_false_iff_eq.2 (by omega)
        have q6H := Lib.hid q6
        clear q6
        go_wp2
        go_ret2
        exact ⟨by rw [HE1.out, HE2.out, if_pos q6H.out, if_pos q6H.out]; rfl, hs⟩
      · have q6b : ((k : Int) == (L.length : Int)) = false := beq_eq_false_iff_ne.2 (by omega)
        have q6n : ((k : Int) != (L.length : Int)) = true := bne_iff_ne.2 (by omega)
        have q6H := Lib.hid q6
        clear q6
        go_wp2
        go_ret2
        exact ⟨by rw [HE1.out, HE2.out, if_neg q6H.out, if_neg q6H.out]; rfl, hs⟩

set_option maxRecDepth 100000 in
set_option maxHeartbeats 16000000 in
theorem r8_Rising {v : Value} {L : List Cls} (w : World) (hl : RowsI 2 ClC w v L) (h1 : 1 ≤ L.length) (h16 : L.length ≤ 16) (hok : ∀ c ∈ L, ClOk c) : Calls Tryz.prog 39 #[v] w (Ret1 (fun w v => Rows 3 36 RC w v (outR (pavL L))) w) := by
  obtain ⟨bhl, ohl, khl, rfl, hl1, hl2⟩ := hl.openI (by omega)
  have HLI := Lib.hid hl
  clear hl
  have HOK := Lib.hid hok
  clear hok
  have hs := Below.refl w.heap.size w
  obtain ⟨i0, hi, hz0, hz1, hz2⟩ := info_parts rR_info
  go_enter Tryz.func39, Tryz.ntmps39
  go_wp2_with (at_make; refine wpList.stop ?_)
  refine ⟨?_⟩
  refine wpList_make_full _ rfl _ _ _ rfl w.heap.size 36 i0 _ 3 Tryz.underlying47 hi hz0 hz1 _ _ _ _ (L.length) rfl rfl (by omega) (by omega) (by rw [hz2]; omega) (by unfold maxLen; omega) hs.size ?_
  intro w1 hown hgrow
  have hb : Below w.heap.size w w1 := (Below.refl _ _).grown hgrow (Nat.le_refl _) (fun k hk => by cases hk)
  have hv_ou : w.heap.size ≤ w.heap.size := hs.size
  replace hs := bStep hs hb
  clear hb
  have Vou : VecR 36 3 RC w1 (w.heap.size) (rsL L 0 0) := by rw [← rsL_zero]; exact VecR.made hown (by omega) ⟨_, _, _, rfl, RV.zero _⟩
  clear hown hgrow
  have Lv_ou : w.heap.size < w1.heap.size := Vou.lt
  go_wp2
  go_loopw [4] (fun s4 wq => ∃ i : Nat, i ≤ L.length ∧ s4 = .int .i64 i ∧ Below w.heap.size w wq ∧ (VecR 36 3 RC wq (w.heap.size) (rsL L i 0))) (fun s4 _ => L.length - (intOf s4).toNat)
  case atStart => exact ⟨0, Nat.zero_le _, rfl, hs, Vou⟩
  case round =>
    clear hs
    obtain ⟨i, k_le, rfl, hs, Vou⟩ := hrel
    obtain ⟨wo, hwo⟩ : ∃ x, x = wr := ⟨_, rfl⟩
    subst hwo
    replace Vou := Lib.hid Vou
    replace Vou := Vou.out
    by_cases q1 : i < L.length
    · have q1d : ((i : Int) < (L.length : Int)) = True := eq_true (by omega)
      go_wp2
      go_loopw [5] (fun s5 wq => ∃ j : Nat, j ≤ (i + 1) ∧ s5 = .int .i64 j ∧ Below w.heap.size w wq ∧ (VecR 36 3 RC wq (w.heap.size) (rsL L i j))) (fun s5 _ => (i + 1) - (intOf s5).toNat)
      case atStart => exact ⟨0, Nat.zero_le _, rfl, hs, Vou⟩
      case round =>
        clear hs
        obtain ⟨j, k_le, rfl, hs, Vou⟩ := hrel
        obtain ⟨wi, hwo⟩ : ∃ x, x = wr := ⟨_, rfl⟩
        subst hwo
        replace Vou := Lib.hid Vou
        replace Vou := Vou.out
        by_cases q2 : j ≤ i
        · have q2d : ((j : Int) ≤ (i : Int)) = True := eq_true (by omega)
          go_wp2_with fail
          with_reducible refine (r8_share _ (HLI.out.mono ClC.kept hs) (by omega) (by omega) HOK.out (f := j) (t := i) (by omega) (by omega) (by omega) (by omega)).mono ?_
          rintro e w42 ⟨_, rfl, h3, hb⟩
          obtain ⟨sh3, ah3, nh3, ch3, Ah3, Nh3, Ch3, rfl⟩ := h3.shape
          replace hs := bStep hs hb
          replace Vou := VecR.mono RC.kept Vou hb
          clear hb
          go_wp2
          have nv4 : w.heap.size < w42.heap.size := Vou.lt
          refine Code.abs ?_
          intro w43 hW
          have hG : Gr [] w42 w43 := by rw [hW]; exact (Gr.refl _ _).alloc
          have hbw : Below w.heap.size w42 w43 := hG.below0 hs.size
          have hk : KeepD w42 w43 := hG.keep True.intro
          have sz_w43 : w.heap.size ≤ w42.heap.size := hs.size
          have Blleast : Bx w43 (w42.heap.size) 36 #[.bool sh3, .slice ah3 nh3 ch3, .slice Ah3 Nh3 Ch3] := by rw [hW]; exact (Bx.new0 _ _ _)
          replace hs := hs.trans hbw
          replace Vou := VecR.mono RC.kept Vou (hG.below0 (Nat.le_refl _))
          replace h3 := h3.keep hk
          clear hW hG hk hbw
          have hz_w43 : w42.heap.size < w43.heap.size := Blleast.lt
          go_loopw [7] (fun s7 wq => ∃ t : Nat, i ≤ t ∧ t ≤ L.length ∧ s7 = .int .i64 t ∧ Below w.heap.size w wq ∧ VecR 36 3 RC wq (w.heap.size) (rsL L i j) ∧ BoxR wq (w42.heap.size) (lsQ L j i (t - i))) (fun s7 _ => L.length - (intOf s7).toNat)
          case atStart => exact ⟨i, Nat.le_refl _, by omega, rfl, hs, Vou, ⟨_, _, _, _, _, _, _, Blleast, (h3.of_eq (by rw [Nat.sub_self]; rfl))⟩⟩
          case round =>
            clear Blleast h3 Vou hs
            obtain ⟨t, k_ge, k_le, rfl, hs, Vou, ⟨sh5, ah5, nh5, ch5, Ah5, Nh5, Ch5, Blleast, h5⟩⟩ := hrel
            by_cases q6 : t < L.length
            · have q6d : ((t : Int) < (L.length : Int)) = True := eq_true (by omega)
              go_wp2_with fail
              with_reducible refine (r8_share _ (HLI.out.mono ClC.kept hs) (by omega) (by omega) HOK.out (f := j) (t := t) (by omega) (by omega) (by omega) (by omega)).mono ?_
              rintro e w64 ⟨_, rfl, h7, hb⟩
              obtain ⟨sh7, ah7, nh7, ch7, Ah7, Nh7, Ch7, rfl⟩ := h7.shape
              replace hs := bStep hs hb
              replace Blleast := Blleast.mono hb
              replace h5 := h5.mono hb
              replace Vou := VecR.mono RC.kept Vou hb
              clear hb
              have cleast_0 : w64.cell? ⟨w42.heap.size, 0, none⟩ = some (.bool sh5) := Blleast.at 0 rfl
              have cleast_1 : w64.cell? ⟨w42.heap.size, 1, none⟩ = some (.slice ah5 nh5 ch5) := Blleast.at 1 rfl
              have cleast_2 : w64.cell? ⟨w42.heap.size, 2, none⟩ = some (.slice Ah5 Nh5 Ch5) := Blleast.at 2 rfl
              have Lleast : w42.heap.size < w64.heap.size := Blleast.lt
              go_wp2_with fail
              clear cleast_0 cleast_1 cleast_2 Lleast
              have nv8 : w.heap.size < w64.heap.size := Vou.lt
              refine Calls.abs ?_
              intro w65 hW
              have hG : Gr [] w64 w65 := by rw [hW]; exact (Gr.refl _ _).alloc
              have hbw : Below w.heap.size w64 w65 := hG.below0 hs.size
              have hk : KeepD w64 w65 := hG.keep True.intro
              have sz_w65 : w.heap.size ≤ w64.heap.size := hs.size
              have nleast_w65 : w42.heap.size < w64.heap.size := Blleast.lt
              have Bls : Bx w65 (w64.heap.size) 36 #[.bool sh7, .slice ah7 nh7 ch7, .slice Ah7 Nh7 Ch7] := by rw [hW]; exact (Bx.new0 _ _ _)
              replace hs := hs.trans hbw
              replace Vou := VecR.mono RC.kept Vou (hG.below0 (Nat.le_refl _))
              replace Blleast := hG.bx Blleast notMem0
              replace h5 := h5.keep hk
              replace h7 := h7.keep hk
              clear hW hG hk hbw
              have hz_w65 : w64.heap.size < w65.heap.size := Bls.lt
              with_reducible refine (rCmp h7 h5 (SzQ.fit (shR_sz HOK.out h16 (f := j) (t := t) (by omega) (by omega))) (SzQ.fit (lsQ_sz HOK.out h16 (show j ≤ i by omega) _ (by omega) (show i < L.length by omega)))).mono ?_
              rintro e w66 ⟨rfl, hb⟩
              replace hs := bStep hs hb
              replace Blleast := Blleast.mono hb
              replace Bls := Bls.mono hb
              replace h5 := h5.mono hb
              replace h7 := h7.mono hb
              replace Vou := VecR.mono RC.kept Vou hb
              clear hb
              obtain ⟨sg9, Hsg9⟩ : ∃ s : Int, s = sgQ ((shR L j t) - (lsQ L j i (t - i))) := ⟨_, rfl⟩
              rw [← Hsg9]
              replace Hsg9 := Lib.hid Hsg9
              by_cases q10 : shR L j t < lsQ L j i (t - i)
              · have q10_ : sg9 < 0 := by have h := sq_lt (shR L j t) (lsQ L j i (t - i)); rw [← Hsg9.out] at h; exact h.2 q10
                have q10H := Lib.hid q10
                clear q10
                have q10d : decide (sg9 < 0) = true := decide_eq_true q10_
                have cs_0 : w66.cell? ⟨w64.heap.size, 0, none⟩ = some (.bool sh7) := Bls.at 0 rfl
                have cs_1 : w66.cell? ⟨w64.heap.size, 1, none⟩ = some (.slice ah7 nh7 ch7) := Bls.at 1 rfl
                have cs_2 : w66.cell? ⟨w64.heap.size, 2, none⟩ = some (.slice Ah7 Nh7 Ch7) := Bls.at 2 rfl
                have Ls : w64.heap.size < w66.heap.size := Bls.lt
                have cleast_0 : w66.cell? ⟨w42.heap.size, 0, none⟩ = some (.bool sh5) := Blleast.at 0 rfl
                have cleast_1 : w66.cell? ⟨w42.heap.size, 1, none⟩ = some (.slice ah5 nh5 ch5) := Blleast.at 1 rfl
                have cleast_2 : w66.cell? ⟨w42.heap.size, 2, none⟩ = some (.slice Ah5 Nh5 Ch5) := Blleast.at 2 rfl
                have fleast := Blleast.free
                have Lleast : w42.heap.size < w66.heap.size := Blleast.lt
                go_upto_region 11 with fail
                clear cs_0 cs_1 cs_2 cleast_0 cleast_1 cleast_2 fleast Ls Lleast
                refine Code.abs ?_
                intro w67 hW
                have hG : Gr [w42.heap.size] w66 w67 := by rw [hW]; exact (Gr.refl _ _).set.set.set
                have hsz := hs.size
                have lleast := Blleast.lt
                have hbw : Below w.heap.size w66 w67 := hG.below1 hs.size (by first | omega | assumption)
                have hk : KeepD w66 w67 := hG.keep ⟨⟨_, Blleast.ty, by decide⟩, True.intro⟩
                have Bl1least : Bx w67 (w42.heap.size) 36 #[.bool sh7, .slice ah7 nh7 ch7, .slice Ah7 Nh7 Ch7] := by rw [hW]; exact Blleast.set3
                replace hs := hs.trans hbw
                replace Vou := VecR.gr RC.kept Vou hG (notMem1 (by omega)) hk
                replace Bls := hG.bx Bls (notMem1 (by omega))
                replace Blleast := Bl1least
                clear Bl1least
                replace h5 := h5.keep hk
                replace h7 := h7.keep hk
                clear hW hG hk hbw hsz lleast
                go_wp2
                go_roundw
                case rel => exact ⟨t + 1, by omega, by omega, by go_num, hs, Vou, ⟨_, _, _, _, _, _, _, Blleast, h7.of_eq (lsQ_less k_ge rfl q10H.out).symm⟩⟩
                all_goals first | (simp [intOf]; done) | (simp [intOf]; omega)
              · have q10_ : ¬ (sg9 < 0) := by have h := sq_lt (shR L j t) (lsQ L j i (t - i)); rw [← Hsg9.out] at h; exact fun h1 => q10 (h.1 h1)
                have q10H := Lib.hid q10
                clear q10
                have q10d : decide (sg9 < 0) = false := decide_eq_false q10_
                go_wp2
                go_roundw
                case rel => exact ⟨t + 1, by omega, by omega, by go_num, hs, Vou, ⟨_, _, _, _, _, _, _, Blleast, h5.of_eq (lsQ_keep k_ge rfl q10H.out).symm⟩⟩
                all_goals first | (simp [intOf]; done) | (simp [intOf]; omega)
            · have q6d : ((t : Int) < (L.length : Int)) = False := eq_false (by omega)
              obtain rfl : t = L.length := by omega
              go_upto_region 15 with fail
              by_cases q7 : j = 0
              · have q7b : ((j : Int) == 0) = true := beq_iff_eq.2 (by omega)
                have q7n : ((j : Int) != 0) = false := bne_eq_false_iff_eq.2 (by omega)
                have q7H := Lib.hid q7
                clear q7
                refine U_region (S := fun w' => True) (by kernel_rfl) 11 ?_
                refine AnyU.abs ?_
                intro w64 hW
                have hb : Below wr.heap.size wr w64 := by rw [hW]; exact bDrew _
                replace hs := bStep hs hb
                replace Blleast := Blleast.mono hb
                replace h5 := h5.mono hb
                replace Vou := VecR.mono RC.kept Vou hb
                clear hb hW
                have hH := (show True from True.intro)
                refine U_tk 0 43 ?_ ?_ hH ?_
                rotate_left
                · (intro w hSw; (try dsimp only at hSw); go_simp; try with_reducible rfl)
                simp only [LY]
                refine U_tk 1 44 ?_ ?_ hH ?_
                rotate_left
                · (intro w hSw; (try dsimp only at hSw); go_simp; try with_reducible rfl)
                simp only [LY]
                refine U_tk 2 45 ?_ ?_ hH ?_
                rotate_left
                · (intro w hSw; (try dsimp only at hSw); go_simp; try with_reducible rfl)
                simp only [LY]
                refine U_tu 3 46 hH ?_
                simp only [LY]
                refine U_tu 4 47 hH ?_
                simp only [LY]
                refine U_tu 5 48 hH ?_
                simp only [LY]
                refine U_tu 6 49 hH ?_
                simp only [LY]
                refine U_tu 7 50 hH ?_
                simp only [LY]
                clear hH
                refine U_one (i := 8) (by kernel_rfl) rfl (fun K hK => ?_)
                go_simp
                refine hK.out _ _ True.intro (fun hH => ?_)
                clear hK K
                try simp only [LY]
                refine U_tu 9 52 hH ?_
                simp only [LY]
                refine U_tk 10 53 ?_ ?_ hH ?_
                rotate_left
                · (intro w hSw; (try dsimp only at hSw); go_simp; try with_reducible rfl)
                simp only [LY]
                clear hH
                refine U_endN (by kernel_rfl) ?_
                have BI8a : i < L.length := by omega
                have BI8b : ((i : Int) : Int) < (L.length : Int) := by omega
                obtain ⟨ge9, ae9, ne9, ce9, Ae9, Ne9, De9, Ee90, Ee91, Ee92, he9, le9⟩ := vecR_at Vou (show i < (rsL L i j).length by (rw [rsL_len]; omega))
                rw [rsL_at (show i < L.length by omega)] at he9
                have cleast_0 : w64.cell? ⟨w42.heap.size, 0, none⟩ = some (.bool sh5) := Blleast.at 0 rfl
                have cleast_1 : w64.cell? ⟨w42.heap.size, 1, none⟩ = some (.slice ah5 nh5 ch5) := Blleast.at 1 rfl
                have cleast_2 : w64.cell? ⟨w42.heap.size, 2, none⟩ = some (.slice Ah5 Nh5 Ch5) := Blleast.at 2 rfl
                have Lleast : w42.heap.size < w64.heap.size := Blleast.lt
                have fVou := Vou.free
                have LVou : w.heap.size < w64.heap.size := Vou.lt
                go_upto_region 7 with fail
                clear cleast_0 cleast_1 cleast_2 Lleast fVou LVou le9 Ee90 Ee91 Ee92
                refine Code.abs ?_
                intro w65 hW
                have hG : Gr [w.heap.size] w64 w65 := by rw [hW]; exact (Gr.refl _ _).set.set.set
                have hsz := hs.size
                have hbw : Below w.heap.size w64 w65 := hG.below1 hs.size (by first | omega | assumption)
                have hk : KeepD w64 w65 := hG.keep ⟨⟨_, Vou.ty, by decide⟩, True.intro⟩
                have V1ou : VecR 36 3 RC w65 (w.heap.size) ((rsL L i j).set i (lsQ L j i (L.length - i))) := by rw [hW]; exact (Vou.put3 RC.kept (show i < (rsL L i j).length by (rw [rsL_len]; omega)) (by decide) ⟨_, _, _, rfl, h5⟩ ((Gr.refl _ _)))
                rw [rsL_set (gsQ_first q7H.out)] at V1ou
                replace hs := hs.trans hbw
                replace Blleast := hG.bx Blleast (notMem1 (by omega))
                replace Vou := V1ou
                clear V1ou
                replace h5 := h5.keep hk
                replace he9 := he9.keep hk
                clear hW hG hk hbw hsz
                go_wp2
                go_roundw
                case rel => exact ⟨j + 1, by omega, by go_num, hs, Vou⟩
                all_goals first | (simp [intOf]; done) | (simp [intOf]; omega)
              · have q7b : ((j : Int) == 0) = false := beq_eq_false_iff_ne.2 (by omega)
                have q7n : ((j : Int) != 0) = true := bne_iff_ne.2 (by omega)
                have q7H := Lib.hid q7
                clear q7
                have BI8a : i < L.length := by omega
                have BI8b : ((i : Int) : Int) < (L.length : Int) := by omega
                obtain ⟨ge9, ae9, ne9, ce9, Ae9, Ne9, De9, Ee90, Ee91, Ee92, he9, le9⟩ := vecR_at Vou (show i < (rsL L i j).length by (rw [rsL_len]; omega))
                rw [rsL_at (show i < L.length by omega)] at he9
                obtain ⟨sg10, Hsg10⟩ : ∃ s : Int, s = sgQ ((lsQ L j i (L.length - i)) - (gsQ L i j)) := ⟨_, rfl⟩
                replace Hsg10 := Lib.hid Hsg10
                refine U_region (S := fun w' => w'.cell? ⟨w42.heap.size, 0, none⟩ = some (.bool sh5) ∧ w'.cell? ⟨w42.heap.size, 1, none⟩ = some (.slice ah5 nh5 ch5) ∧ w'.cell? ⟨w42.heap.size, 2, none⟩ = some (.slice Ah5 Nh5 Ch5) ∧ w'.cell? ⟨w.heap.size, i * 3, none⟩ = some (.bool ge9) ∧ w'.cell? ⟨w.heap.size, i * 3 + 1, none⟩ = some (.slice ae9 ne9 ce9) ∧ w'.cell? ⟨w.heap.size, i * 3 + 2, none⟩ = some (.slice Ae9 Ne9 De9)) (by kernel_rfl) 11 ?_
                refine AnyU.abs ?_
                intro w64 hW
                have hb : Below wr.heap.size wr w64 := by rw [hW]; exact bDrew _
                replace hs := bStep hs hb
                replace Blleast := Blleast.mono hb
                replace h5 := h5.mono hb
                replace he9 := he9.mono hb
                replace Vou := VecR.mono RC.kept Vou hb
                replace Ee90 := cellK Ee90 hb
                replace Ee91 := cellK Ee91 hb
                replace Ee92 := cellK Ee92 hb
                clear hb hW
                have cleast_0 : w64.cell? ⟨w42.heap.size, 0, none⟩ = some (.bool sh5) := Blleast.at 0 rfl
                have cleast_1 : w64.cell? ⟨w42.heap.size, 1, none⟩ = some (.slice ah5 nh5 ch5) := Blleast.at 1 rfl
                have cleast_2 : w64.cell? ⟨w42.heap.size, 2, none⟩ = some (.slice Ah5 Nh5 Ch5) := Blleast.at 2 rfl
                have hH := (show w64.cell? ⟨w42.heap.size, 0, none⟩ = some (.bool sh5) ∧ w64.cell? ⟨w42.heap.size, 1, none⟩ = some (.slice ah5 nh5 ch5) ∧ w64.cell? ⟨w42.heap.size, 2, none⟩ = some (.slice Ah5 Nh5 Ch5) ∧ w64.cell? ⟨w.heap.size, i * 3, none⟩ = some (.bool ge9) ∧ w64.cell? ⟨w.heap.size, i * 3 + 1, none⟩ = some (.slice ae9 ne9 ce9) ∧ w64.cell? ⟨w.heap.size, i * 3 + 2, none⟩ = some (.slice Ae9 Ne9 De9) from ⟨cleast_0, cleast_1, cleast_2, Ee90, Ee91, Ee92⟩)
                refine U_tk 0 43 ?_ ?_ hH ?_
                rotate_left
                · (intro w hSw; (try dsimp only at hSw); go_simp; try with_reducible rfl)
                simp only [LY]
                refine U_tk 1 44 ?_ ?_ hH ?_
                rotate_left
                · (intro w hSw; (try dsimp only at hSw); go_simp; try with_reducible rfl)
                simp only [LY]
                refine U_tk 2 45 ?_ ?_ hH ?_
                rotate_left
                · (intro w hSw; (try dsimp only at hSw); go_simp; try with_reducible rfl)
                simp only [LY]
                refine U_tk 3 46 ?_ ?_ hH ?_
                rotate_left
                · (intro w hSw; (try dsimp only at hSw); go_simp; try with_reducible rfl)
                simp only [LY]
                refine U_tk 4 47 ?_ ?_ hH ?_
                rotate_left
                · (intro w hSw; (try dsimp only at hSw); go_simp; try with_reducible rfl)
                simp only [LY]
                refine U_tk 5 48 ?_ ?_ hH ?_
                rotate_left
                · (intro w hSw; (try dsimp only at hSw); go_simp; try with_reducible rfl)
                simp only [LY]
                refine U_tk 6 49 ?_ ?_ hH ?_
                rotate_left
                · (intro w hSw; (try dsimp only at hSw); go_simp; try with_reducible rfl)
                simp only [LY]
                refine U_tk 7 50 ?_ ?_ hH ?_
                rotate_left
                · (intro w hSw; (try dsimp only at hSw); go_simp; try with_reducible rfl)
                simp only [LY]
                clear hH
                refine U_one (i := 8) (by kernel_rfl) rfl (fun K hK => ?_)
                go_simp
                (with_reducible refine (rCmp h5 he9 (SzQ.fit (lsQ_sz HOK.out h16 (show j ≤ i by omega) _ (by omega) (show i < L.length by omega))) (SzQ.fit (gsQ_sz HOK.out h16 (show i < L.length by omega) j (by omega)))).mono ?_)
                rintro e w65 ⟨rfl, hb⟩
                replace hs := bStep hs hb
                replace Blleast := Blleast.mono hb
                replace h5 := h5.mono hb
                replace he9 := he9.mono hb
                replace Vou := VecR.mono RC.kept Vou hb
                replace cleast_0 := cellK cleast_0 hb
                replace cleast_1 := cellK cleast_1 hb
                replace cleast_2 := cellK cleast_2 hb
                replace Ee90 := cellK Ee90 hb
                replace Ee91 := cellK Ee91 hb
                replace Ee92 := cellK Ee92 hb
                clear hb
                rw [← Hsg10.out]
                try go_wp2_with fail
                refine hK.out _ _ ⟨cleast_0, cleast_1, cleast_2, Ee90, Ee91, Ee92⟩ (fun hH => ?_)
                clear hK K
                try simp only [LY]
                refine U_tk 9 52 ?_ ?_ hH ?_
                rotate_left
                · (intro w hSw; (try dsimp only at hSw); go_simp; try with_reducible rfl)
                simp only [LY]
                refine U_tk 10 53 ?_ ?_ hH ?_
                rotate_left
                · (intro w hSw; (try dsimp only at hSw); go_simp; try with_reducible rfl)
                simp only [LY]
                clear hH
                refine U_endN (by kernel_rfl) ?_
                clear cleast_0 cleast_1 cleast_2 Ee90 Ee91 Ee92
                by_cases q11 : gsQ L i j < lsQ L j i (L.length - i)
                · have q11_ : 0 < sg10 := by have h := sq_gt (lsQ L j i (L.length - i)) (gsQ L i j); rw [← Hsg10.out] at h; exact h.2 q11
                  have q11H := Lib.hid q11
                  clear q11
                  have q11d : decide (0 < sg10) = true := decide_eq_true q11_
                  obtain ⟨ge12, ae12, ne12, ce12, Ae12, Ne12, De12, Ee120, Ee121, Ee122, he12, le12⟩ := vecR_at Vou (show i < (rsL L i j).length by (rw [rsL_len]; omega))
                  rw [rsL_at (show i < L.length by omega)] at he12
                  have cleast_0 : w65.cell? ⟨w42.heap.size, 0, none⟩ = some (.bool sh5) := Blleast.at 0 rfl
                  have cleast_1 : w65.cell? ⟨w42.heap.size, 1, none⟩ = some (.slice ah5 nh5 ch5) := Blleast.at 1 rfl
                  have cleast_2 : w65.cell? ⟨w42.heap.size, 2, none⟩ = some (.slice Ah5 Nh5 Ch5) := Blleast.at 2 rfl
                  have Lleast : w42.heap.size < w65.heap.size := Blleast.lt
                  have fVou := Vou.free
                  have LVou : w.heap.size < w65.heap.size := Vou.lt
                  go_upto_region 7 with fail
                  clear cleast_0 cleast_1 cleast_2 Lleast fVou LVou le9 le12 Ee120 Ee121 Ee122
                  refine Code.abs ?_
                  intro w66 hW
                  have hG : Gr [w.heap.size] w65 w66 := by rw [hW]; exact (Gr.refl _ _).set.set.set
                  have hsz := hs.size
                  have hbw : Below w.heap.size w65 w66 := hG.below1 hs.size (by first | omega | assumption)
                  have hk : KeepD w65 w66 := hG.keep ⟨⟨_, Vou.ty, by decide⟩, True.intro⟩
                  have V1ou : VecR 36 3 RC w66 (w.heap.size) ((rsL L i j).set i (lsQ L j i (L.length - i))) := by rw [hW]; exact (Vou.put3 RC.kept (show i < (rsL L i j).length by (rw [rsL_len]; omega)) (by decide) ⟨_, _, _, rfl, h5⟩ ((Gr.refl _ _)))
                  rw [rsL_set (gsQ_more q7H.out q11H.out)] at V1ou
                  replace hs := hs.trans hbw
                  replace Blleast := hG.bx Blleast (notMem1 (by omega))
                  replace Vou := V1ou
                  clear V1ou
                  replace h5 := h5.keep hk
                  replace he9 := he9.keep hk
                  replace he12 := he12.keep hk
                  clear hW hG hk hbw hsz
                  go_wp2
                  go_roundw
                  case rel => exact ⟨j + 1, by omega, by go_num, hs, Vou⟩
                  all_goals first | (simp [intOf]; done) | (simp [intOf]; omega)
                · have q11_ : ¬ (0 < sg10) := by have h := sq_gt (lsQ L j i (L.length - i)) (gsQ L i j); rw [← Hsg10.out] at h; exact fun h1 => q11 (h.1 h1)
                  have q11H := Lib.hid q11
                  clear q11
                  have q11d : decide (0 < sg10) = false := decide_eq_false q11_
                  go_wp2
                  go_roundw
                  case rel => exact ⟨j + 1, by omega, by go_num, hs, (rsL_same (gsQ_keep q7H.out q11H.out) ▸ Vou)⟩
                  all_goals first | (simp [intOf]; done) | (simp [intOf]; omega)
        · have q2d : ((j : Int) ≤ (i : Int)) = False := eq_false (by omega)
          obtain rfl : j = i + 1 := by omega
          go_wp2
          go_roundw
          case rel => exact ⟨i + 1, by omega, by go_num, hs, (rsL_next L i ▸ Vou)⟩
          all_goals first | (simp [intOf]; done) | (simp [intOf]; omega)
    · have q1d : ((i : Int) < (L.length : Int)) = False := eq_false (by omega)
      obtain rfl : i = L.length := by omega
      go_wp2
      have hR := Vou.rows (by rw [rsL_len]; omega)
      rw [rsL_len, rsL_all HOK.out] at hR
      go_ret
      exact ⟨_, rfl, hR, hs⟩

end Go.Proofs.YtmnipggjjcmjkaaGreat
/-
  Law 08: small (24 bits), list, classes.
-/
namespace Go.Proofs.YtmnipggjjcmjkaaGreat
open Go.RowKit Dg
attribute [local go_sem ↓] Go.wp_at_zero Go.wp_at_succ

theorem w64_16777216 : IntKind.i64.wrap 16777216 = 16777216 := by decide
theorem w64_m16777216 : IntKind.i64.wrap (-16777216) = -16777216 := by decide
def smF24 (x : Int × Int) : Bool := !(decide (16777216 < x.1) || (decide (x.1 < -16777216) || decide (16777216 < x.2)))
set_option maxRecDepth 100000 in
set_option maxHeartbeats 4000000 in
theorem l8_small24 (v : Value) (l : List (Int × Int)) (w : World) (hl : RowsI 2 FC w v l) : Calls Tryz.prog 11 #[.int .i64 24, v] w (RetV w (.bool (l.all smF24))) := by
  obtain ⟨ao, cap, rfl, hc1, hc2, hc3⟩ := hl.slice
  have hs := Below.refl w.heap.size w
  have HL := Lib.hid hl
  clear hl
  go_enter Tryz.func11, Tryz.ntmps11
  go_wp2
  go_loopw [9] (fun s9 wq => ∃ k : Nat, k ≤ l.length ∧ s9 = .int .i64 k ∧ Below w.heap.size w wq ∧ ((l.take k).all smF24 = true)) (fun s9 _ => l.length - (intOf s9).toNat)
  case atStart => exact ⟨0, Nat.zero_le _, rfl, hs, rfl⟩
  case round =>
    clear hs
    obtain ⟨k, k_le, rfl, hs, HI⟩ := hrel
    replace HI := Lib.hid HI
    by_cases q1 : k < l.length
    · have q1d : ((k : Int) < (l.length : Int)) = True := eq_true (by omega)
      obtain ⟨bbe2, ooe2, cce2, hve2, Ee20, Ee21, le2⟩ := rowFC_at (HL.out.mono FC.kept hs) (show k < l.length by omega)
      obtain ⟨rfl, rfl⟩ := sliceE hve2
      obtain ⟨ze2a, Hze2a⟩ : ∃ z : Int, z = (fcA l k).1 := ⟨_, rfl⟩
      rw [← Hze2a] at Ee20
      replace Hze2a := Lib.hid Hze2a.symm
      obtain ⟨ze2b, Hze2b⟩ : ∃ z : Int, z = (fcA l k).2 := ⟨_, rfl⟩
      rw [← Hze2b] at Ee21
      replace Hze2b := Lib.hid Hze2b.symm
      go_upto_region 4 with fail
      clear le2 Ee20 Ee21
      refine Code.abs ?_
      intro w21 hW
      have hG : Gr [] wr w21 := by rw [hW]; exact (Gr.refl _ _).alloc
      have hbw : Below w.heap.size wr w21 := hG.below0 hs.size
      have hk : KeepD wr w21 := hG.keep True.intro
      have sz_w21 : w.heap.size ≤ wr.heap.size := hs.size
      have Blx : Bx w21 (wr.heap.size) 23 #[.int .i64 ze2a, .int .i64 ze2b] := by rw [hW]; exact (Bx.new0 _ _ _)
      replace hs := hs.trans hbw
      clear hW hG hk hbw
      have hz_w21 : wr.heap.size < w21.heap.size := Blx.lt
      by_cases q3 : 16777216 < ze2a
      · have q3d : ((16777216 : Int) < ze2a) = True := eq_true (by omega)
        refine U_region (S := fun w' => w'.cell? ⟨wr.heap.size, 0, none⟩ = some (.int .i64 ze2a) ∧ w'.cell? ⟨wr.heap.size, 1, none⟩ = some (.int .i64 ze2b)) (by kernel_rfl) 19 ?_
        refine AnyU.abs ?_
        intro w22 hW
        have hb : Below w21.heap.size w21 w22 := by rw [hW]; exact bDrew _
        replace hs := bStep hs hb
        replace Blx := Blx.mono hb
        clear hb hW
        have cx_0 : w22.cell? ⟨wr.heap.size, 0, none⟩ = some (.int .i64 ze2a) := Blx.at 0 rfl
        have cx_1 : w22.cell? ⟨wr.heap.size, 1, none⟩ = some (.int .i64 ze2b) := Blx.at 1 rfl
        have hH := (show w22.cell? ⟨wr.heap.size, 0, none⟩ = some (.int .i64 ze2a) ∧ w22.cell? ⟨wr.heap.size, 1, none⟩ = some (.int .i64 ze2b) from ⟨cx_0, cx_1⟩)
        refine U_tk 0 13 ?_ ?_ hH ?_
        rotate_left
        · (intro w hSw; (try dsimp only at hSw); go_simp; try with_reducible rfl)
        simp only [LY]
        refine U_tk 1 14 ?_ ?_ hH ?_
        rotate_left
        · (intro w hSw; (try dsimp only at hSw); go_simp; try with_reducible rfl)
        simp only [LY]
        refine U_tk 2 15 ?_ ?_ hH ?_
        rotate_left
        · (intro w hSw; (try dsimp only at hSw); go_simp; try with_reducible rfl)
        simp only [LY]
        refine U_tk 3 16 ?_ ?_ hH ?_
        rotate_left
        · (intro w hSw; (try dsimp only at hSw); go_simp; try with_reducible rfl)
        simp only [LY]
        try simp only [w64_16777216, w64_m16777216]
        refine U_tk 4 17 ?_ ?_ hH ?_
        rotate_left
        · (intro w hSw; (try dsimp only at hSw); go_simp; try with_reducible rfl)
        simp only [LY]
        try simp only [w64_16777216, w64_m16777216]
        refine U_tk 5 18 ?_ ?_ hH ?_
        rotate_left
        · (intro w hSw; (try dsimp only at hSw); go_simp; try with_reducible rfl)
        simp only [LY]
        refine U_tu 6 19 hH ?_
        simp only [LY]
        refine U_tu 7 20 hH ?_
        simp only [LY]
        refine U_tu 8 21 hH ?_
        simp only [LY]
        refine U_tu 9 22 hH ?_
        simp only [LY]
        refine U_tu 10 23 hH ?_
        simp only [LY]
        refine U_tk 11 24 ?_ ?_ hH ?_
        rotate_left
        · (intro w hSw; (try dsimp only at hSw); go_simp; try with_reducible rfl)
        simp only [LY]
        refine U_tk 12 25 ?_ ?_ hH ?_
        rotate_left
        · (intro w hSw; (try dsimp only at hSw); go_simp; try with_reducible rfl)
        simp only [LY]
        refine U_tu 13 26 hH ?_
        simp only [LY]
        refine U_tu 14 27 hH ?_
        simp only [LY]
        refine U_tu 15 28 hH ?_
        simp only [LY]
        refine U_tu 16 29 hH ?_
        simp only [LY]
        refine U_tu 17 30 hH ?_
        simp only [LY]
        refine U_tk 18 31 ?_ ?_ hH ?_
        rotate_left
        · (intro w hSw; (try dsimp only at hSw); go_simp; try with_reducible rfl)
        simp only [LY]
        clear hH
        refine U_endN (by kernel_rfl) ?_
        clear cx_0 cx_1
        go_wp2
        go_ret
        have HF := allF_take smF24 l k _ (fc_some (by omega)) HI.out
        rw [show smF24 (fcA l k) = false by unfold smF24; simp [Hze2a.out, Hze2b.out]; omega] at HF
        have HF2 := allF_false _ l (k + 1) HF
        exact ⟨by rw [HF2]; rfl, hs⟩
      · have q3d : ((16777216 : Int) < ze2a) = False := eq_false (by omega)
        by_cases q4 : ze2a < -16777216
        · have q4d : (ze2a < -16777216) = True := eq_true (by omega)
          refine U_region (S := fun w' => w'.cell? ⟨wr.heap.size, 0, none⟩ = some (.int .i64 ze2a) ∧ w'.cell? ⟨wr.heap.size, 1, none⟩ = some (.int .i64 ze2b)) (by kernel_rfl) 19 ?_
          refine AnyU.abs ?_
          intro w22 hW
          have hb : Below w21.heap.size w21 w22 := by rw [hW]; exact bDrew _
          replace hs := bStep hs hb
          replace Blx := Blx.mono hb
          clear hb hW
          have cx_0 : w22.cell? ⟨wr.heap.size, 0, none⟩ = some (.int .i64 ze2a) := Blx.at 0 rfl
          have cx_1 : w22.cell? ⟨wr.heap.size, 1, none⟩ = some (.int .i64 ze2b) := Blx.at 1 rfl
          have hH := (show w22.cell? ⟨wr.heap.size, 0, none⟩ = some (.int .i64 ze2a) ∧ w22.cell? ⟨wr.heap.size, 1, none⟩ = some (.int .i64 ze2b) from ⟨cx_0, cx_1⟩)
          refine U_tk 0 13 ?_ ?_ hH ?_
          rotate_left
          · (intro w hSw; (try dsimp only at hSw); go_simp; try with_reducible rfl)
          simp only [LY]
          refine U_tk 1 14 ?_ ?_ hH ?_
          rotate_left
          · (intro w hSw; (try dsimp only at hSw); go_simp; try with_reducible rfl)
          simp only [LY]
          refine U_tk 2 15 ?_ ?_ hH ?_
          rotate_left
          · (intro w hSw; (try dsimp only at hSw); go_simp; try with_reducible rfl)
          simp only [LY]
          refine U_tk 3 16 ?_ ?_ hH ?_
          rotate_left
          · (intro w hSw; (try dsimp only at hSw); go_simp; try with_reducible rfl)
          simp only [LY]
          try simp only [w64_16777216, w64_m16777216]
          refine U_tk 4 17 ?_ ?_ hH ?_
          rotate_left
          · (intro w hSw; (try dsimp only at hSw); go_simp; try with_reducible rfl)
          simp only [LY]
          try simp only [w64_16777216, w64_m16777216]
          refine U_tk 5 18 ?_ ?_ hH ?_
          rotate_left
          · (intro w hSw; (try dsimp only at hSw); go_simp; try with_reducible rfl)
          simp only [LY]
          refine U_tk 6 19 ?_ ?_ hH ?_
          rotate_left
          · (intro w hSw; (try dsimp only at hSw); go_simp; try with_reducible rfl)
          simp only [LY]
          refine U_tk 7 20 ?_ ?_ hH ?_
          rotate_left
          · (intro w hSw; (try dsimp only at hSw); go_simp; try with_reducible rfl)
          simp only [LY]
          refine U_tk 8 21 ?_ ?_ hH ?_
          rotate_left
          · (intro w hSw; (try dsimp only at hSw); go_simp; try with_reducible rfl)
          simp only [LY]
          refine U_tk 9 22 ?_ ?_ hH ?_
          rotate_left
          · (intro w hSw; (try dsimp only at hSw); go_simp; try with_reducible rfl)
          simp only [LY]
          try simp only [w64_16777216, w64_m16777216]
          refine U_tk 10 23 ?_ ?_ hH ?_
          rotate_left
          · (intro w hSw; (try dsimp only at hSw); go_simp; try with_reducible rfl)
          simp only [LY]
          try simp only [w64_16777216, w64_m16777216]
          refine U_tk 11 24 ?_ ?_ hH ?_
          rotate_left
          · (intro w hSw; (try dsimp only at hSw); go_simp; try with_reducible rfl)
          simp only [LY]
          refine U_tk 12 25 ?_ ?_ hH ?_
          rotate_left
          · (intro w hSw; (try dsimp only at hSw); go_simp; try with_reducible rfl)
          simp only [LY]
          refine U_tu 13 26 hH ?_
          simp only [LY]
          refine U_tu 14 27 hH ?_
          simp only [LY]
          refine U_tu 15 28 hH ?_
          simp only [LY]
          refine U_tu 16 29 hH ?_
          simp only [LY]
          refine U_tu 17 30 hH ?_
          simp only [LY]
          refine U_tk 18 31 ?_ ?_ hH ?_
          rotate_left
          · (intro w hSw; (try dsimp only at hSw); go_simp; try with_reducible rfl)
          simp only [LY]
          clear hH
          refine U_endN (by kernel_rfl) ?_
          clear cx_0 cx_1
          go_wp2
          go_ret
          have HF := allF_take smF24 l k _ (fc_some (by omega)) HI.out
          rw [show smF24 (fcA l k) = false by unfold smF24; simp [Hze2a.out, Hze2b.out]; omega] at HF
          have HF2 := allF_false _ l (k + 1) HF
          exact ⟨by rw [HF2]; rfl, hs⟩
        · have q4d : (ze2a < -16777216) = False := eq_false (by omega)
          refine U_region (S := fun w' => w'.cell? ⟨wr.heap.size, 0, none⟩ = some (.int .i64 ze2a) ∧ w'.cell? ⟨wr.heap.size, 1, none⟩ = some (.int .i64 ze2b)) (by kernel_rfl) 19 ?_
          refine AnyU.abs ?_
          intro w22 hW
          have hb : Below w21.heap.size w21 w22 := by rw [hW]; exact bDrew _
          replace hs := bStep hs hb
          replace Blx := Blx.mono hb
          clear hb hW
          have cx_0 : w22.cell? ⟨wr.heap.size, 0, none⟩ = some (.int .i64 ze2a) := Blx.at 0 rfl
          have cx_1 : w22.cell? ⟨wr.heap.size, 1, none⟩ = some (.int .i64 ze2b) := Blx.at 1 rfl
          have hH := (show w22.cell? ⟨wr.heap.size, 0, none⟩ = some (.int .i64 ze2a) ∧ w22.cell? ⟨wr.heap.size, 1, none⟩ = some (.int .i64 ze2b) from ⟨cx_0, cx_1⟩)
          refine U_tk 0 13 ?_ ?_ hH ?_
          rotate_left
          · (intro w hSw; (try dsimp only at hSw); go_simp; try with_reducible rfl)
          simp only [LY]
          refine U_tk 1 14 ?_ ?_ hH ?_
          rotate_left
          · (intro w hSw; (try dsimp only at hSw); go_simp; try with_reducible rfl)
          simp only [LY]
          refine U_tk 2 15 ?_ ?_ hH ?_
          rotate_left
          · (intro w hSw; (try dsimp only at hSw); go_simp; try with_reducible rfl)
          simp only [LY]
          refine U_tk 3 16 ?_ ?_ hH ?_
          rotate_left
          · (intro w hSw; (try dsimp only at hSw); go_simp; try with_reducible rfl)
          simp only [LY]
          try simp only [w64_16777216, w64_m16777216]
          refine U_tk 4 17 ?_ ?_ hH ?_
          rotate_left
          · (intro w hSw; (try dsimp only at hSw); go_simp; try with_reducible rfl)
          simp only [LY]
          try simp only [w64_16777216, w64_m16777216]
          refine U_tk 5 18 ?_ ?_ hH ?_
          rotate_left
          · (intro w hSw; (try dsimp only at hSw); go_simp; try with_reducible rfl)
          simp only [LY]
          refine U_tk 6 19 ?_ ?_ hH ?_
          rotate_left
          · (intro w hSw; (try dsimp only at hSw); go_simp; try with_reducible rfl)
          simp only [LY]
          refine U_tk 7 20 ?_ ?_ hH ?_
          rotate_left
          · (intro w hSw; (try dsimp only at hSw); go_simp; try with_reducible rfl)
          simp only [LY]
          refine U_tk 8 21 ?_ ?_ hH ?_
          rotate_left
          · (intro w hSw; (try dsimp only at hSw); go_simp; try with_reducible rfl)
          simp only [LY]
          refine U_tk 9 22 ?_ ?_ hH ?_
          rotate_left
          · (intro w hSw; (try dsimp only at hSw); go_simp; try with_reducible rfl)
          simp only [LY]
          try simp only [w64_16777216, w64_m16777216]
          refine U_tk 10 23 ?_ ?_ hH ?_
          rotate_left
          · (intro w hSw; (try dsimp only at hSw); go_simp; try with_reducible rfl)
          simp only [LY]
          try simp only [w64_16777216, w64_m16777216]
          refine U_tk 11 24 ?_ ?_ hH ?_
          rotate_left
          · (intro w hSw; (try dsimp only at hSw); go_simp; try with_reducible rfl)
          simp only [LY]
          refine U_tk 12 25 ?_ ?_ hH ?_
          rotate_left
          · (intro w hSw; (try dsimp only at hSw); go_simp; try with_reducible rfl)
          simp only [LY]
          refine U_tk 13 26 ?_ ?_ hH ?_
          rotate_left
          · (intro w hSw; (try dsimp only at hSw); go_simp; try with_reducible rfl)
          simp only [LY]
          refine U_tk 14 27 ?_ ?_ hH ?_
          rotate_left
          · (intro w hSw; (try dsimp only at hSw); go_simp; try with_reducible rfl)
          simp only [LY]
          refine U_tk 15 28 ?_ ?_ hH ?_
          rotate_left
          · (intro w hSw; (try dsimp only at hSw); go_simp; try with_reducible rfl)
          simp only [LY]
          refine U_tk 16 29 ?_ ?_ hH ?_
          rotate_left
          · (intro w hSw; (try dsimp only at hSw); go_simp; try with_reducible rfl)
          simp only [LY]
          try simp only [w64_16777216, w64_m16777216]
          refine U_tk 17 30 ?_ ?_ hH ?_
          rotate_left
          · (intro w hSw; (try dsimp only at hSw); go_simp; try with_reducible rfl)
          simp only [LY]
          try simp only [w64_16777216, w64_m16777216]
          refine U_tk 18 31 ?_ ?_ hH ?_
          rotate_left
          · (intro w hSw; (try dsimp only at hSw); go_simp; try with_reducible rfl)
          simp only [LY]
          clear hH
          refine U_endN (by kernel_rfl) ?_
          clear cx_0 cx_1
          by_cases q5 : 16777216 < ze2b
          · have q5d : ((16777216 : Int) < ze2b) = True := eq_true (by omega)
            go_wp2
            go_ret
            have HF := allF_take smF24 l k _ (fc_some (by omega)) HI.out
            rw [show smF24 (fcA l k) = false by unfold smF24; simp [Hze2a.out, Hze2b.out]; omega] at HF
            have HF2 := allF_false _ l (k + 1) HF
            exact ⟨by rw [HF2]; rfl, hs⟩
          · have q5d : ((16777216 : Int) < ze2b) = False := eq_false (by omega)
            go_wp2
            go_roundw
            case rel => exact ⟨k + 1, by omega, by go_num, hs, ((allF_take smF24 l k _ (fc_some (by omega)) HI.out).trans (by unfold smF24; simp [Hze2a.out, Hze2b.out]; omega))⟩
            all_goals first | (simp [intOf]; done) | (simp [intOf]; omega)
    · have q1d : ((k : Int) < (l.length : Int)) = False := eq_false (by omega)
      go_wp2
      go_ret
      have hp := HI.out
      rw [List.take_of_length_le (by omega)] at hp
      exact ⟨by rw [hp]; rfl, hs⟩

theorem smF24_sz {n d : Int} (h : smF24 (n, d) = true) : SzQ 1 (fracQ n d) := by
  unfold smF24 at h
  simp at h
  unfold fracQ
  split
  · exact szQ_int (by omega)
  · exact szQ_frac (by omega) (by omega) (by omega)
def fr8 (x : Int × Int) : Rat := fracQ x.1 x.2
theorem fr8_sz {l : List (Int × Int)} (h : l.all smF24 = true) (i : Nat) (hi : i < (l.map fr8).length) : SzQ 1 (nthQ (l.map fr8) i) := by
  rw [List.length_map] at hi
  have e : nthQ (l.map fr8) i = fr8 (fcA l i) := by
    unfold nthQ
    rw [List.getD_eq_getElem?_getD, List.getElem?_map, fc_some hi]; rfl
  rw [e]
  exact smF24_sz (List.all_eq_true.1 h _ (List.mem_of_getElem? (fc_some hi)))

set_option maxRecDepth 100000 in
set_option maxHeartbeats 16000000 in
theorem l8_list (v : Value) (l : List (Int × Int)) (w : World) (hl : RowsI 2 FC w v l) (h30 : l.length ≤ 30) (hok : ∀ x ∈ l, DOk x) :
    Calls Tryz.prog 21 #[v] w (Ret2 (fun w v => Rows 3 29 PC w v (l.map fr8)) (fun w v => Rows 3 36 RC w v (l.map fr8)) w) := by
  obtain ⟨ao, cap, rfl, hc1, hc2, hc3⟩ := hl.slice
  have hs := Below.refl w.heap.size w
  have HL := Lib.hid hl
  have HOK := Lib.hid hok
  obtain ⟨i0, hi, hz0, hz1, hz2⟩ := info_parts alP_info
  obtain ⟨j0, hj, hy0, hy1, hy2⟩ := info_parts rR_info
  clear hl hok
  go_enter Tryz.func21, Tryz.ntmps21
  go_wp2
  go_loopw [4, 5, 10] (fun av bv iv wq => ∃ k : Nat, k ≤ l.length ∧ iv = .int .i64 k ∧ Below w.heap.size w wq ∧ OwnR w.heap.size 29 3 PC wq av ((l.take k).map fr8) ∧ OwnR w.heap.size 36 3 RC wq bv ((l.take k).map fr8)) (fun _ _ iv _ => l.length - (intOf iv).toNat)
  case atStart => exact ⟨0, Nat.zero_le _, rfl, hs, OwnR.nil _ _ _ _ _, OwnR.nil _ _ _ _ _⟩
  case round =>
    obtain ⟨k, hk, rfl, hs, Opa, Opb⟩ := hrel
    by_cases hlt : k < l.length
    · obtain ⟨⟨n1, d1⟩, hx⟩ : ∃ x, l[k]? = some x := ⟨_, List.getElem?_eq_getElem hlt⟩
      obtain ⟨b, o, c, cs, hv, hlen, hat, rfl⟩ := (HL.out.mono FC.kept hs).get hx
      obtain ⟨rfl, rfl⟩ := sliceE hv
      obtain ⟨a1, a2, a3, a4⟩ := HOK.out _ (List.mem_of_getElem? hx)
      have e0 := hat 0 _ rfl
      have e1 := hat 1 _ rfl
      clear hat
      simp only [Nat.add_zero] at e0
      have HM := Lib.hid (map_take fr8 l k _ hx)
      have hlm : ((l.take k).map fr8).length = k := by rw [List.length_map, List.length_take]; omega
      clear hx hv hlen
      dsimp only at e0 e1 a1 a2 a3 a4
      go_upto_region 6 with fail
      clear e0 e1
      refine Code.abs ?_
      intro w21 hW
      have hsz := hs.size
      have hbw : Below w.heap.size wr w21 := by rw [hW]; exact (Below.alloc (Below.refl w.heap.size wr) (by first | exact hs.size | (have := hs.size; simp; done) | (have := hs.size; simp; omega)) _)
      have hs1 : Below w.heap.size w w21 := hs.trans hbw
      have hk : KeepD wr w21 := by rw [hW]; exact ((KeepD.refl _).alloc _)
      have hb1 : Below wr.heap.size wr w21 := by rw [hW]; exact (Below.alloc (Below.refl _ _) (by first | exact Nat.le_refl _ | (simp; done) | (simp; omega)) _)
      have Bl1x : Bx w21 (wr.heap.size) 23 #[.int .i64 n1, .int .i64 d1] := by rw [hW]; exact (Bx.new' _ _ _ _ (by first | rfl | (simp; done)))
      replace hs := hs1
      clear hs1
      have Blx := Bl1x
      clear Bl1x
      replace Opa := Opa.mono PC.kept hb1
      replace Opb := Opb.mono RC.kept hb1
      clear hb1
      clear hW hk hsz hbw
      have hz_w21 : wr.heap.size < w21.heap.size := Blx.lt
      refine U_region (S := fun w' => w'.cell? ⟨wr.heap.size, 0, none⟩ = some (.int .i64 n1) ∧ w'.cell? ⟨wr.heap.size, 1, none⟩ = some (.int .i64 d1)) (by kernel_rfl) 11 ?_
      refine AnyU.abs ?_
      intro w22 hW
      have hb : Below w21.heap.size w21 w22 := by rw [hW]; exact bDrew _
      replace hs := bStep hs hb
      replace Blx := Blx.mono hb
      replace Opa := Opa.mono PC.kept hb
      replace Opb := Opb.mono RC.kept hb
      clear hb hW
      have cx_0 : w22.cell? ⟨wr.heap.size, 0, none⟩ = some (.int .i64 n1) := Blx.at 0 rfl
      have cx_1 : w22.cell? ⟨wr.heap.size, 1, none⟩ = some (.int .i64 d1) := Blx.at 1 rfl
      have hH := (show w22.cell? ⟨wr.heap.size, 0, none⟩ = some (.int .i64 n1) ∧ w22.cell? ⟨wr.heap.size, 1, none⟩ = some (.int .i64 d1) from ⟨cx_0, cx_1⟩)
      refine U_tt 0 ?_ ?_ hH ?_
      rotate_left
      · (intro w hSw; (try dsimp only at hSw); go_simp; try with_reducible rfl)
      try simp only [LY]
      refine U_tt 1 ?_ ?_ hH ?_
      rotate_left
      · (intro w hSw; (try dsimp only at hSw); go_simp; try with_reducible rfl)
      try simp only [LY]
      refine U_tt 5 ?_ ?_ hH ?_
      rotate_left
      · (intro w hSw; (try dsimp only at hSw); go_simp; try with_reducible rfl)
      try simp only [LY]
      refine U_tt 6 ?_ ?_ hH ?_
      rotate_left
      · (intro w hSw; (try dsimp only at hSw); go_simp; try with_reducible rfl)
      try simp only [LY]
      clear hH
      refine U_one (i := 2) (by kernel_rfl) rfl (fun K hK => ?_)
      go_simp
      (with_reducible refine (l1_Of_ _ ⟨a1, a2, a3, a4⟩ rfl).mono ?_)
      rintro e w23 ⟨_, rfl, hp, hb⟩
      obtain ⟨shp, ahp, nhp, chp, Ahp, Nhp, Chp, rfl⟩ := hp.shape
      replace hs := bStep hs hb
      replace Blx := Blx.mono hb
      replace Opa := Opa.mono PC.kept hb
      replace Opb := Opb.mono RC.kept hb
      replace cx_0 := cellK cx_0 hb
      replace cx_1 := cellK cx_1 hb
      clear hb
      try go_wp2_with fail
      refine hK.out _ _ ⟨cx_0, cx_1⟩ (fun hH => ?_)
      clear hK K
      try simp only [LY]
      clear hH
      refine U_one (i := 3) (by kernel_rfl) rfl (fun K hK => ?_)
      go_simp
      generalize hWn : (w23.alloc (.cells #[.bool shp, .slice ahp nhp chp, .slice Ahp Nhp Chp] 29)) = w24
      have hb : Below w23.heap.size w23 w24 := by rw [← hWn]; exact (Below.refl _ _).alloc (Nat.le_refl _) _
      have Ble : Bx w24 (w23.heap.size) 29 #[.bool shp, .slice ahp nhp chp, .slice Ahp Nhp Chp] := by rw [← hWn]; exact Bx.new _ _ _
      have nx_e : wr.heap.size ≠ w23.heap.size := by have := Blx.lt; omega
      have sz_e : w.heap.size ≤ w23.heap.size := hs.size
      replace hs := bStep hs hb
      replace Blx := Blx.mono hb
      replace hp := hp.mono hb
      replace Opa := Opa.mono PC.kept hb
      replace Opb := Opb.mono RC.kept hb
      replace cx_0 := cellK cx_0 hb
      replace cx_1 := cellK cx_1 hb
      clear hb hWn
      refine hK.out _ _ ⟨cx_0, cx_1⟩ (fun hH => ?_)
      clear hK K
      try simp only [LY]
      clear hH
      refine U_one (i := 4) (by kernel_rfl) rfl (fun K hK => ?_)
      obtain ⟨css, ho1, ho2, ho3, hown0⟩ := Opa
      simp only [List.getElem_toArray, List.getElem_cons_succ, List.getElem_cons_zero]
      rw [if_pos (by rfl)]
      refine wp_append_lies _ _ _ _ (by rfl) w.heap.size 29 i0 _ 3 56 Tryz.underlying46 hi hz0 hz1 hz2 (by rfl) (by omega) _ _ css.flatten (by rfl) hown0 ⟨w23.heap.size, 0, none⟩ 1 1 [.bool shp, .slice ahp nhp chp, .slice Ahp Nhp Chp] (by rfl) (by rfl) Ble.news ?_ (by omega) ?_ ?_ ?_ _ rfl ?_
      · intro u hu; simp only [List.mem_cons, List.mem_nil_iff, or_false] at hu; rcases hu with rfl | rfl | rfl <;> rfl
      · unfold maxLen; omega
      · omega
      · exact hs.size
      intro gpa cappa w25 hown1 hgrow hat hlt
      have hk := KeepD.owns hown0 hgrow (by decide)
      have ho := owns_onlyT hown0 hgrow
      replace hs := hs.grown hgrow hs.size (fun k hk => (hown0.lt k hk).1)
      replace Opa := OwnR.push PC.kept ho1 ho2 ho3 (x := (fr8 (n1, d1))) rfl ⟨_, _, _, rfl, hp⟩ hown1 hk
      replace Blx := Blx.only ho (by decide)
      replace hp := hp.keep hk
      replace Opb := Opb.onlyT RC.kept ho (by decide) (by decide)
      replace cx_0 := Blx.at 0 rfl
      replace cx_1 := Blx.at 1 rfl
      clear hk ho ho1 ho2 ho3 hown0 hown1 hgrow Ble
      refine hK.out _ _ ⟨cx_0, cx_1⟩ (fun hH => ?_)
      clear hK K
      try simp only [LY]
      clear hH
      refine U_one (i := 7) (by kernel_rfl) rfl (fun K hK => ?_)
      go_simp
      (with_reducible refine (r_Of_calls n1 d1 _ a1 a2 a3 a4).mono ?_)
      rintro e w26 ⟨_, rfl, hr, hb⟩
      obtain ⟨shr, ahr, nhr, chr, Ahr, Nhr, Chr, rfl⟩ := hr.shape
      replace hs := bStep hs hb
      replace Blx := Blx.mono hb
      replace hp := hp.mono hb
      replace Opa := Opa.mono PC.kept hb
      replace Opb := Opb.mono RC.kept hb
      replace cx_0 := cellK cx_0 hb
      replace cx_1 := cellK cx_1 hb
      clear hb
      try go_wp2_with fail
      refine hK.out _ _ ⟨cx_0, cx_1⟩ (fun hH => ?_)
      clear hK K
      try simp only [LY]
      clear hH
      refine U_one (i := 8) (by kernel_rfl) rfl (fun K hK => ?_)
      go_simp
      generalize hWn : (w26.alloc (.cells #[.bool shr, .slice ahr nhr chr, .slice Ahr Nhr Chr] 36)) = w27
      have hb : Below w26.heap.size w26 w27 := by rw [← hWn]; exact (Below.refl _ _).alloc (Nat.le_refl _) _
      have Blf : Bx w27 (w26.heap.size) 36 #[.bool shr, .slice ahr nhr chr, .slice Ahr Nhr Chr] := by rw [← hWn]; exact Bx.new _ _ _
      have nx_f : wr.heap.size ≠ w26.heap.size := by have := Blx.lt; omega
      have sz_f : w.heap.size ≤ w26.heap.size := hs.size
      replace hs := bStep hs hb
      replace Blx := Blx.mono hb
      replace hp := hp.mono hb
      replace hr := hr.mono hb
      replace Opa := Opa.mono PC.kept hb
      replace Opb := Opb.mono RC.kept hb
      replace cx_0 := cellK cx_0 hb
      replace cx_1 := cellK cx_1 hb
      clear hb hWn
      refine hK.out _ _ ⟨cx_0, cx_1⟩ (fun hH => ?_)
      clear hK K
      try simp only [LY]
      clear hH
      refine U_one (i := 9) (by kernel_rfl) rfl (fun K hK => ?_)
      obtain ⟨css, ho1, ho2, ho3, hown0⟩ := Opb
      simp only [List.getElem_toArray, List.getElem_cons_succ, List.getElem_cons_zero]
      rw [if_pos (by rfl)]
      refine wp_append_lies _ _ _ _ (by rfl) w.heap.size 36 j0 _ 3 56 Tryz.underlying47 hj hy0 hy1 hy2 (by rfl) (by omega) _ _ css.flatten (by rfl) hown0 ⟨w26.heap.size, 0, none⟩ 1 1 [.bool shr, .slice ahr nhr chr, .slice Ahr Nhr Chr] (by rfl) (by rfl) Blf.news ?_ (by omega) ?_ ?_ ?_ _ rfl ?_
      · intro u hu; simp only [List.mem_cons, List.mem_nil_iff, or_false] at hu; rcases hu with rfl | rfl | rfl <;> rfl
      · unfold maxLen; omega
      · omega
      · exact hs.size
      intro gpb cappb w28 hown1 hgrow hat hlt
      have hk := KeepD.owns hown0 hgrow (by decide)
      have ho := owns_onlyT hown0 hgrow
      replace hs := hs.grown hgrow hs.size (fun k hk => (hown0.lt k hk).1)
      replace Opb := OwnR.push RC.kept ho1 ho2 ho3 (x := (fr8 (n1, d1))) rfl ⟨_, _, _, rfl, hr⟩ hown1 hk
      replace Blx := Blx.only ho (by decide)
      replace hp := hp.keep hk
      replace hr := hr.keep hk
      replace Opa := Opa.onlyT PC.kept ho (by decide) (by decide)
      replace cx_0 := Blx.at 0 rfl
      replace cx_1 := Blx.at 1 rfl
      clear hk ho ho1 ho2 ho3 hown0 hown1 hgrow Blf
      refine hK.out _ _ ⟨cx_0, cx_1⟩ (fun hH => ?_)
      clear hK K
      try simp only [LY]
      refine U_tt 10 ?_ ?_ hH ?_
      rotate_left
      · (intro w hSw; (try dsimp only at hSw); go_simp; try with_reducible rfl)
      try simp only [LY]
      clear hH
      refine U_last (by kernel_rfl) rfl (by kernel_rfl) (fun K hK => ?_)
      go_simp
      refine hK.out _ _ ?_
      clear hK K
      intro wl hW
      rw [hW]
      clear hW wl
      try simp only [LY]
      clear cx_0 cx_1
      go_wp2
      go_roundw
      case rel => exact ⟨k + 1, by omega, by go_num, hs, by rw [HM.out]; rw [hlm] at Opa; exact Opa, by rw [HM.out]; rw [hlm] at Opb; exact Opb⟩
      all_goals first | (simp [intOf]; done) | (simp [intOf]; omega)
    · rw [List.take_of_length_le (by omega)] at Opa Opb
      have O1 := Lib.hid Opa.rows
      have O2 := Lib.hid Opb.rows
      clear Opa Opb
      go_wp2
      go_ret2
      exact ⟨_, _, rfl, O1.out, O2.out, hs⟩
theorem rcls_info : (Tryz.prog.info? 66).map (fun i => (i.zero, i.size, i.bytes)) = some (some (.agg #[.int .i64 0, .int .i64 0]), 2, 16) := by kernel_rfl
set_option maxRecDepth 100000 in
set_option maxHeartbeats 4000000 in
theorem l8_classes {v : Value} {L : List Cls} (w : World) (hl : RowsI 2 ClC w v L) (h20 : L.length ≤ 20) : Calls Tryz.prog 34 #[v] w (Ret1 (fun w v => Rows 2 66 ClC w v L) w) := by
  obtain ⟨ao, cap, rfl, hc1, hc2, hc3⟩ := hl.slice
  have hs := Below.refl w.heap.size w
  have HLI := Lib.hid hl
  clear hl
  obtain ⟨i0, hi, hz0, hz1, hz2⟩ := info_parts rcls_info
  go_enter Tryz.func34, Tryz.ntmps34
  go_wp2
  go_loopw [3, 8] (fun s3 s8 wq => ∃ k : Nat, k ≤ L.length ∧ s8 = .int .i64 k ∧ Below w.heap.size w wq ∧ OwnR w.heap.size 66 2 ClC wq s3 (L.take k)) (fun s3 s8 _ => L.length - (intOf s8).toNat)
  case atStart => exact ⟨0, Nat.zero_le _, rfl, hs, OwnR.nil _ _ _ _ _⟩
  case round =>
    clear hs
    obtain ⟨k, k_le, rfl, hs, Ocs⟩ := hrel
    have lnt : (L.take k).length ≤ k := by rw [List.length_take]; omega
    by_cases q1 : k < L.length
    · have q1d : ((k : Int) < (L.length : Int)) = True := eq_true (by omega)
      obtain ⟨bhl, ohl, khl, hv_, -, -⟩ := (HLI.out.mono ClC.kept hs).openI (by omega)
      obtain ⟨rfl, rfl⟩ := sliceE hv_
      have HLJ := Lib.hid (HLI.out.mono ClC.kept hs)
      obtain ⟨Ee20, Ee21, le2⟩ := rowClI_at HLJ.out (show k < L.length by omega)
      obtain ⟨te2, Hte2⟩ : ∃ z : Int, z = (clAt L k).1 := ⟨_, rfl⟩
      obtain ⟨fe2, Hfe2⟩ : ∃ z : Int, z = (clAt L k).2 := ⟨_, rfl⟩
      rw [← Hte2] at Ee20
      rw [← Hfe2] at Ee21
      replace Hte2 := Lib.hid Hte2.symm
      replace Hfe2 := Lib.hid Hfe2.symm
      go_wp2_with (at_builtin; refine wpList.stop ?_)
      refine ⟨?_⟩
      clear le2 HLJ Ee20 Ee21
      refine wpList.abs ?_
      intro w21 hW
      have hG : Gr [] wr w21 := by rw [hW]; exact (Gr.refl _ _).alloc.alloc
      have hbw : Below w.heap.size wr w21 := hG.below0 hs.size
      have hk : KeepD wr w21 := hG.keep True.intro
      have sz_w21 : w.heap.size ≤ wr.heap.size := hs.size
      have Blc : Bx w21 (wr.heap.size) 57 #[.int .i64 te2, .int .i64 fe2] := by rw [hW]; exact ((Bx.new0 _ _ _).alloc _)
      have Blls : Bx w21 (wr.heap.size + 1) 66 #[.int .i64 te2, .int .i64 fe2] := by rw [hW]; exact (Bx.new0 _ _ _)
      replace hs := hs.trans hbw
      replace Ocs := Ocs.mono ClC.kept (hG.below0 (Nat.le_refl _))
      clear hW hG hk hbw
      have hz_w21 : wr.heap.size + 1 < w21.heap.size := Blls.lt
      obtain ⟨css, ho1, ho2, ho3, hown0⟩ := Ocs
      refine wpList_append_lies _ rfl _ _ _ rfl w.heap.size 66 i0 _ 2 16 Tryz.underlying80 hi hz0 hz1 hz2 rfl (by omega) _ _ css.flatten rfl hown0 ⟨wr.heap.size + 1, 0, none⟩ 1 1 [.int .i64 te2, .int .i64 fe2] rfl rfl Blls.news ?_ (by omega) ?_ ?_ ?_ _ rfl ?_
      · intro u hu; simp only [List.mem_cons, List.mem_nil_iff, or_false] at hu; rcases hu with rfl | rfl <;> rfl
      · unfold maxLen; (try simp only [List.length_append, List.length_cons, List.length_nil]); omega
      · (try simp only [List.length_append, List.length_cons, List.length_nil]); omega
      · exact hs.size
      intro gcs capcs w22 hown1 hgrow hat hlt_
      have hk_ := KeepD.owns hown0 hgrow (by decide)
      have ho := owns_onlyT hown0 hgrow
      replace hs := hs.grown hgrow hs.size (fun k hk => (hown0.lt k hk).1)
      replace Ocs := OwnR.push' ClC.kept ho1 ho2 ho3 (x := (te2, fe2)) rfl rfl (by simp) hown1 hk_
      replace Blc := Blc.only ho (by decide)
      clear hk_ ho ho1 ho2 ho3 hown0 hown1 hgrow hat hlt_ Blls
      go_wp2
      go_roundw
      case rel => exact ⟨k + 1, by omega, by go_num, hs, by rw [take_cl (show k < L.length by omega), show clAt L k = (te2, fe2) from by rw [← Hte2.out, ← Hfe2.out]]; rw [show (L.take k).length = k by rw [List.length_take]; omega] at Ocs; exact Ocs⟩
      all_goals first | (simp [intOf]; done) | (simp [intOf]; omega)
    · have q1d : ((k : Int) < (L.length : Int)) = False := eq_false (by omega)
      rw [List.take_of_length_le (show L.length ≤ k by omega)] at Ocs
      go_wp2
      have hR := Ocs.rows
      go_ret
      exact ⟨_, rfl, hR, hs⟩

end Go.Proofs.YtmnipggjjcmjkaaGreat
