/-
  Reference 07: Peak.
-/
import Derived.Test.YtkfekkhhfpkfaaaGreatRefTrace
import Derived.Test.YtkfekkhhfpkfaaaGreatPkHeld3
set_option linter.unusedSimpArgs false
set_option linter.unusedVariables false
namespace Go.Proofs.YtkfekkhhfpkfaaaGreat
open Go.RowKit Dg
attribute [local go_sem ↓] Go.wp_at_zero Go.wp_at_succ

def nthN (ys : List Nat) (i : Nat) : Nat := ys.getD i 0
theorem nthN_some {ys : List Nat} {i : Nat} (h : i < ys.length) : ys[i]? = some (nthN ys i) := by unfold nthN; rw [List.getD_eq_getElem?_getD, List.getElem?_eq_getElem h]; rfl
theorem atQ_y {ys : List Nat} {i : Nat} (h : i < ys.length) : atQ (yQ ys) i = flQ (cvF (nthN ys i)) := by
  have e := atQ_some (L := yQ ys) (i := i) (by unfold yQ; rw [List.length_map]; exact h)
  unfold yQ at e
  rw [List.getElem?_map, nthN_some h] at e
  exact (Option.some.inj e).symm
theorem rowF_at {w : World} {b o n c : Nat} {ys : List Nat} (h : RowsI 1 F32 w (.slice (some ⟨b, o, none⟩) n c) (ys.map fun x => (x, flQ (cvF x)))) {i : Nat} (hi : i < ys.length) : w.cell? ⟨b, o + i, none⟩ = some (.float .f32 (nthN ys i)) := by
  have hx : (ys.map fun x => (x, flQ (cvF x)))[i]? = some (nthN ys i, flQ (cvF (nthN ys i))) := by rw [List.getElem?_map, nthN_some hi]; rfl
  obtain ⟨b', o', c', cs, hv, hlen, hat, rfl⟩ := h.get hx
  obtain ⟨e1, e2⟩ := sliceE hv
  have e0 := hat 0 _ rfl
  simp only [Nat.add_zero, Nat.mul_one] at e0
  injection e1 with e1
  injection e1 with e3 e4 e5
  rw [e3, e4]
  exact e0
theorem absQ_sz {K : Nat} {x : Rat} (h : SzQ K x) : SzQ K (absQ x) := by
  unfold absQ
  split
  · unfold SzQ at h ⊢; rw [Rat.neg_num, Int.natAbs_neg, Rat.neg_den]; exact h
  · exact h
theorem r7_exactY {ys : List Nat} {i : Nat} (hno : ∀ i, i < ys.length → f32E (nthN ys i) ≠ 255) (hi : i < ys.length) (w : World) : Calls Tryz.prog 72 #[.float .f32 (nthN ys i)] w (RetQ w (atQ (yQ ys) i)) := by
  rw [atQ_y hi]
  exact r7_exact (hno i hi) w
theorem atQ_sz {ys : List Nat} {i : Nat} (hno : ∀ i, i < ys.length → f32E (nthN ys i) ≠ 255) (hi : i < ys.length) : SzQ 40 (atQ (yQ ys) i) := by
  rw [atQ_y hi]
  exact flQ_sz (cv_fin (hno i hi)).2
theorem pkA_one (L : List Rat) (f : Nat) : pkA L f (f + 1 - f) = f := by
  rw [Nat.add_sub_cancel_left, pkA_succ, Nat.add_zero]
  split <;> rfl
theorem pkA_T {L : List Rat} {f k : Nat} (h : f + 1 ≤ k) (ht : absQ (atQ L (pkA L f (k - f))) < absQ (atQ L k)) : pkA L f (k + 1 - f) = k := by
  rw [show k + 1 - f = (k - f) + 1 by omega, pkA_succ, show f + (k - f) = k by omega, if_pos ht]
theorem pkA_F {L : List Rat} {f k : Nat} (h : f + 1 ≤ k) (ht : ¬ absQ (atQ L (pkA L f (k - f))) < absQ (atQ L k)) : pkA L f (k + 1 - f) = pkA L f (k - f) := by
  rw [show k + 1 - f = (k - f) + 1 by omega, pkA_succ, show f + (k - f) = k by omega, if_neg ht]
theorem pk_lt {L : List Rat} {f t : Nat} {lv : Rat} (h : absQ (atQ L (pkA L f (t - f))) < lv) : pkN L f t lv = 0 ∧ pkV L f t lv = 0 ∧ pkE L f t lv = 70 := by
  unfold pkN pkV pkE
  rw [if_pos h, if_pos h, if_pos h]
  exact ⟨rfl, rfl, rfl⟩
theorem pk_ge {L : List Rat} {f t : Nat} {lv : Rat} (h : ¬ absQ (atQ L (pkA L f (t - f))) < lv) : pkN L f t lv = (pkA L f (t - f) : Nat) ∧ pkV L f t lv = absQ (atQ L (pkA L f (t - f))) ∧ pkE L f t lv = 0 := by
  unfold pkN pkV pkE
  rw [if_neg h, if_neg h, if_neg h]
  exact ⟨rfl, rfl, rfl⟩
set_option maxRecDepth 100000 in
set_option maxHeartbeats 16000000 in
theorem r7_Peak_err1 (ao : Option Addr) (cap : Nat) (ys : List Nat) (f t : Int) (lv : Nat) (err : Int) (hne : ¬ err = 0) (w : World) (hT : ∀ w' : World, Below w.heap.size w w' → Calls Tryz.prog 69 #[.slice ao ys.length cap] w' (RetV w' (.int .i64 err))) :
    Calls Tryz.prog 15 #[.slice ao ys.length cap, .agg #[.int .i64 f, .int .i64 t, .float .f32 lv]] w (Ret3 (fun _ v => v = .int .i64 (0)) (fun w v => RV w v (0)) (fun _ v => v = .int .i64 (err)) w) := by
  have hs := Below.refl w.heap.size w
  have HTR := Lib.hid hT
  have HNE := Lib.hid hne
  clear hT hne
  go_enter Tryz.func15, Tryz.ntmps15
  go_wp2_with fail
  refine Calls.abs ?_
  intro w1 hW
  have hG : Gr [] w w1 := by rw [hW]; exact (Gr.refl _ _).alloc.alloc
  have hbw : Below w.heap.size w w1 := hG.below0 hs.size
  have hk : KeepD w w1 := hG.keep True.intro
  have sz_w1 : w.heap.size ≤ w.heap.size := hs.size
  have Blg : Bx w1 (w.heap.size) 52 #[.int .i64 f, .int .i64 t, .float .f32 lv] := by rw [hW]; exact ((Bx.new0 _ _ _).alloc _)
  have Blk : Bx w1 (w.heap.size + 1) 38 #[.bool false, .slice none 0 0, .slice none 0 0] := by rw [hW]; exact (Bx.new0 _ _ _)
  replace hs := hs.trans hbw
  clear hW hG hk hbw
  have hz_w1 : w.heap.size + 1 < w1.heap.size := Blk.lt
  with_reducible refine (HTR.out _ hs).mono ?_
  rintro e w2 ⟨rfl, hb⟩
  replace hs := bStep hs hb
  replace Blg := Blg.mono hb
  replace Blk := Blk.mono hb
  clear hb
  have q1 : ¬ (err = 0) := HNE.out
  have q1b : (err == 0) = false := beq_eq_false_iff_ne.2 (by omega)
  have q1n : (err != 0) = true := bne_iff_ne.2 (by omega)
  have q1H := Lib.hid q1
  clear q1
  go_wp2_with fail
  with_reducible refine (r7_zero _).mono ?_
  rintro e w3 ⟨_, rfl, h2, hb⟩
  obtain ⟨sh2, ah2, nh2, ch2, Ah2, Nh2, Ch2, rfl⟩ := h2.shape
  replace hs := bStep hs hb
  replace Blg := Blg.mono hb
  replace Blk := Blk.mono hb
  clear hb
  have ck_0 : w3.cell? ⟨w.heap.size + 1, 0, none⟩ = some (.bool false) := Blk.at 0 rfl
  have ck_1 : w3.cell? ⟨w.heap.size + 1, 1, none⟩ = some (.slice none 0 0) := Blk.at 1 rfl
  have ck_2 : w3.cell? ⟨w.heap.size + 1, 2, none⟩ = some (.slice none 0 0) := Blk.at 2 rfl
  have fk := Blk.free
  have Lk : w.heap.size + 1 < w3.heap.size := Blk.lt
  go_wp2
  clear ck_0 ck_1 ck_2 fk Lk
  refine bodyPost.abs ?_
  intro w4 hW
  have hG : Gr [w.heap.size + 1] w3 w4 := by rw [hW]; exact (Gr.refl _ _).set.set.set
  have hsz := hs.size
  have lk := Blk.lt
  have hbw : Below w.heap.size w3 w4 := hG.below1 hs.size (by first | omega | assumption)
  have hk : KeepD w3 w4 := hG.keep ⟨⟨_, Blk.ty, by decide⟩, True.intro⟩
  have Bl1k : Bx w4 (w.heap.size + 1) 38 #[.bool sh2, .slice ah2 nh2 ch2, .slice Ah2 Nh2 Ch2] := by rw [hW]; exact Blk.set3
  replace hs := hs.trans hbw
  replace Blg := hG.bx Blg (notMem1 (by omega))
  replace Blk := Bl1k
  clear Bl1k
  replace h2 := h2.keep hk
  clear hW hG hk hbw hsz lk
  have ck_0 : w4.cell? ⟨w.heap.size + 1, 0, none⟩ = some (.bool sh2) := Blk.at 0 rfl
  have ck_1 : w4.cell? ⟨w.heap.size + 1, 1, none⟩ = some (.slice ah2 nh2 ch2) := Blk.at 1 rfl
  have ck_2 : w4.cell? ⟨w.heap.size + 1, 2, none⟩ = some (.slice Ah2 Nh2 Ch2) := Blk.at 2 rfl
  exact bodyPost_ret (v := .tuple #[.int .i64 0, .agg #[.bool sh2, .slice ah2 nh2 ch2, .slice Ah2 Nh2 Ch2], .int .i64 err]) (by simp [results, Tryz.results15, go_sem, ck_0, ck_1, ck_2]) rfl ⟨_, _, _, rfl, rfl, h2, rfl, hs⟩

set_option maxRecDepth 100000 in
set_option maxHeartbeats 16000000 in
theorem r7_Peak_err2 (ao : Option Addr) (cap : Nat) (ys : List Nat) (f t : Int) (lv : Nat) (w : World) (hT : ∀ w' : World, Below w.heap.size w w' → Calls Tryz.prog 69 #[.slice ao ys.length cap] w' (RetV w' (.int .i64 0))) (hg : ∀ w : World, Calls Tryz.prog 70 #[.agg #[.int .i64 f, .int .i64 t, .float .f32 lv], .int .i64 ys.length] w (RetV w (.int .i64 1))) :
    Calls Tryz.prog 15 #[.slice ao ys.length cap, .agg #[.int .i64 f, .int .i64 t, .float .f32 lv]] w (Ret3 (fun _ v => v = .int .i64 (0)) (fun w v => RV w v (0)) (fun _ v => v = .int .i64 (1)) w) := by
  have hs := Below.refl w.heap.size w
  have HTR := Lib.hid hT
  have HG := Lib.hid hg
  clear hT hg
  go_enter Tryz.func15, Tryz.ntmps15
  go_wp2_with fail
  refine Calls.abs ?_
  intro w1 hW
  have hG : Gr [] w w1 := by rw [hW]; exact (Gr.refl _ _).alloc.alloc
  have hbw : Below w.heap.size w w1 := hG.below0 hs.size
  have hk : KeepD w w1 := hG.keep True.intro
  have sz_w1 : w.heap.size ≤ w.heap.size := hs.size
  have Blg : Bx w1 (w.heap.size) 52 #[.int .i64 f, .int .i64 t, .float .f32 lv] := by rw [hW]; exact ((Bx.new0 _ _ _).alloc _)
  have Blk : Bx w1 (w.heap.size + 1) 38 #[.bool false, .slice none 0 0, .slice none 0 0] := by rw [hW]; exact (Bx.new0 _ _ _)
  replace hs := hs.trans hbw
  clear hW hG hk hbw
  have hz_w1 : w.heap.size + 1 < w1.heap.size := Blk.lt
  with_reducible refine (HTR.out _ hs).mono ?_
  rintro e w2 ⟨rfl, hb⟩
  replace hs := bStep hs hb
  replace Blg := Blg.mono hb
  replace Blk := Blk.mono hb
  clear hb
  have cg_0 : w2.cell? ⟨w.heap.size, 0, none⟩ = some (.int .i64 f) := Blg.at 0 rfl
  have cg_1 : w2.cell? ⟨w.heap.size, 1, none⟩ = some (.int .i64 t) := Blg.at 1 rfl
  have cg_2 : w2.cell? ⟨w.heap.size, 2, none⟩ = some (.float .f32 lv) := Blg.at 2 rfl
  have Lg : w.heap.size < w2.heap.size := Blg.lt
  go_wp2_with fail
  clear cg_0 cg_1 cg_2 Lg
  with_reducible refine (HG.out _).mono ?_
  rintro e w3 ⟨rfl, hb⟩
  replace hs := bStep hs hb
  replace Blg := Blg.mono hb
  replace Blk := Blk.mono hb
  clear hb
  go_wp2_with fail
  with_reducible refine (r7_zero _).mono ?_
  rintro e w4 ⟨_, rfl, h1, hb⟩
  obtain ⟨sh1, ah1, nh1, ch1, Ah1, Nh1, Ch1, rfl⟩ := h1.shape
  replace hs := bStep hs hb
  replace Blg := Blg.mono hb
  replace Blk := Blk.mono hb
  clear hb
  have ck_0 : w4.cell? ⟨w.heap.size + 1, 0, none⟩ = some (.bool false) := Blk.at 0 rfl
  have ck_1 : w4.cell? ⟨w.heap.size + 1, 1, none⟩ = some (.slice none 0 0) := Blk.at 1 rfl
  have ck_2 : w4.cell? ⟨w.heap.size + 1, 2, none⟩ = some (.slice none 0 0) := Blk.at 2 rfl
  have fk := Blk.free
  have Lk : w.heap.size + 1 < w4.heap.size := Blk.lt
  go_wp2
  clear ck_0 ck_1 ck_2 fk Lk
  refine bodyPost.abs ?_
  intro w5 hW
  have hG : Gr [w.heap.size + 1] w4 w5 := by rw [hW]; exact (Gr.refl _ _).set.set.set
  have hsz := hs.size
  have lk := Blk.lt
  have hbw : Below w.heap.size w4 w5 := hG.below1 hs.size (by first | omega | assumption)
  have hk : KeepD w4 w5 := hG.keep ⟨⟨_, Blk.ty, by decide⟩, True.intro⟩
  have Bl1k : Bx w5 (w.heap.size + 1) 38 #[.bool sh1, .slice ah1 nh1 ch1, .slice Ah1 Nh1 Ch1] := by rw [hW]; exact Blk.set3
  replace hs := hs.trans hbw
  replace Blg := hG.bx Blg (notMem1 (by omega))
  replace Blk := Bl1k
  clear Bl1k
  replace h1 := h1.keep hk
  clear hW hG hk hbw hsz lk
  have ck_0 : w5.cell? ⟨w.heap.size + 1, 0, none⟩ = some (.bool sh1) := Blk.at 0 rfl
  have ck_1 : w5.cell? ⟨w.heap.size + 1, 1, none⟩ = some (.slice ah1 nh1 ch1) := Blk.at 1 rfl
  have ck_2 : w5.cell? ⟨w.heap.size + 1, 2, none⟩ = some (.slice Ah1 Nh1 Ch1) := Blk.at 2 rfl
  exact bodyPost_ret (v := .tuple #[.int .i64 0, .agg #[.bool sh1, .slice ah1 nh1 ch1, .slice Ah1 Nh1 Ch1], .int .i64 1]) (by simp [results, Tryz.results15, go_sem, ck_0, ck_1, ck_2]) rfl ⟨_, _, _, rfl, rfl, h1, rfl, hs⟩

set_option maxRecDepth 100000 in
set_option maxHeartbeats 16000000 in
theorem r7_Peak_ok (bl ol cap : Nat) (ys : List Nat) (f t : Nat) (lv : Nat) (w : World) (hl : RowsI 1 F32 w (.slice (some ⟨bl, ol, none⟩) ys.length cap) (ys.map fun x => (x, flQ (cvF x)))) (hT : ∀ w' : World, Below w.heap.size w w' → Calls Tryz.prog 69 #[.slice (some ⟨bl, ol, none⟩) ys.length cap] w' (RetV w' (.int .i64 0))) (hg : ∀ w : World, Calls Tryz.prog 70 #[.agg #[.int .i64 (f : Int), .int .i64 (t : Int), .float .f32 lv], .int .i64 ys.length] w (RetV w (.int .i64 0))) (h256 : ys.length ≤ 256) (hft : f < t) (htn : t ≤ ys.length) (hno : ∀ i, i < ys.length → f32E (nthN ys i) ≠ 255) (hlv : f32E lv ≠ 255) :
    Calls Tryz.prog 15 #[.slice (some ⟨bl, ol, none⟩) ys.length cap, .agg #[.int .i64 f, .int .i64 t, .float .f32 lv]] w (Ret3 (fun _ v => v = .int .i64 (pkN (yQ ys) f t (flQ (cvF lv)))) (fun w v => RV w v (pkV (yQ ys) f t (flQ (cvF lv)))) (fun _ v => v = .int .i64 (pkE (yQ ys) f t (flQ (cvF lv)))) w) := by
  have hs := Below.refl w.heap.size w
  have HTR := Lib.hid hT
  have HL := Lib.hid hl
  have HG := Lib.hid hg
  have HNO := Lib.hid hno
  have HLV := Lib.hid hlv
  have HLS := Lib.hid (flQ_sz (cv_fin hlv).2)
  clear hT hg hl hno hlv
  go_enter Tryz.func15, Tryz.ntmps15
  go_wp2_with fail
  refine Calls.abs ?_
  intro w1 hW
  have hG : Gr [] w w1 := by rw [hW]; exact (Gr.refl _ _).alloc.alloc
  have hbw : Below w.heap.size w w1 := hG.below0 hs.size
  have hk : KeepD w w1 := hG.keep True.intro
  have sz_w1 : w.heap.size ≤ w.heap.size := hs.size
  have Blg : Bx w1 (w.heap.size) 52 #[.int .i64 ((f : Int)), .int .i64 ((t : Int)), .float .f32 lv] := by rw [hW]; exact ((Bx.new0 _ _ _).alloc _)
  have Blk : Bx w1 (w.heap.size + 1) 38 #[.bool false, .slice none 0 0, .slice none 0 0] := by rw [hW]; exact (Bx.new0 _ _ _)
  replace hs := hs.trans hbw
  clear hW hG hk hbw
  have hz_w1 : w.heap.size + 1 < w1.heap.size := Blk.lt
  with_reducible refine (HTR.out _ hs).mono ?_
  rintro e w2 ⟨rfl, hb⟩
  replace hs := bStep hs hb
  replace Blg := Blg.mono hb
  replace Blk := Blk.mono hb
  clear hb
  have cg_0 : w2.cell? ⟨w.heap.size, 0, none⟩ = some (.int .i64 ((f : Int))) := Blg.at 0 rfl
  have cg_1 : w2.cell? ⟨w.heap.size, 1, none⟩ = some (.int .i64 ((t : Int))) := Blg.at 1 rfl
  have cg_2 : w2.cell? ⟨w.heap.size, 2, none⟩ = some (.float .f32 lv) := Blg.at 2 rfl
  have Lg : w.heap.size < w2.heap.size := Blg.lt
  go_wp2_with fail
  clear cg_0 cg_1 cg_2 Lg
  with_reducible refine (HG.out _).mono ?_
  rintro e w3 ⟨rfl, hb⟩
  replace hs := bStep hs hb
  replace Blg := Blg.mono hb
  replace Blk := Blk.mono hb
  clear hb
  have BI1a : f < ys.length := by omega
  have BI1b : ((f : Int) : Int) < (ys.length : Int) := by omega
  have Ee2 := rowF_at (HL.out.mono F32.kept hs) (show f < ys.length by omega)
  have cg_0 : w3.cell? ⟨w.heap.size, 0, none⟩ = some (.int .i64 ((f : Int))) := Blg.at 0 rfl
  have cg_1 : w3.cell? ⟨w.heap.size, 1, none⟩ = some (.int .i64 ((t : Int))) := Blg.at 1 rfl
  have cg_2 : w3.cell? ⟨w.heap.size, 2, none⟩ = some (.float .f32 lv) := Blg.at 2 rfl
  have Lg : w.heap.size < w3.heap.size := Blg.lt
  go_wp2_with fail
  clear cg_0 cg_1 cg_2 Lg Ee2
  with_reducible refine (r7_exactY HNO.out (by omega) _).mono ?_
  rintro e w4 ⟨_, rfl, h3, hb⟩
  obtain ⟨sh3, ah3, nh3, ch3, Ah3, Nh3, Ch3, rfl⟩ := h3.shape
  replace hs := bStep hs hb
  replace Blg := Blg.mono hb
  replace Blk := Blk.mono hb
  clear hb
  go_wp2_with fail
  with_reducible refine (r_Abs_calls _ _ _ h3).mono ?_
  rintro e w5 ⟨_, rfl, h4, hb⟩
  obtain ⟨sh4, ah4, nh4, ch4, Ah4, Nh4, Ch4, rfl⟩ := h4.shape
  replace hs := bStep hs hb
  replace Blg := Blg.mono hb
  replace Blk := Blk.mono hb
  replace h3 := h3.mono hb
  clear hb
  have cg_0 : w5.cell? ⟨w.heap.size, 0, none⟩ = some (.int .i64 ((f : Int))) := Blg.at 0 rfl
  have cg_1 : w5.cell? ⟨w.heap.size, 1, none⟩ = some (.int .i64 ((t : Int))) := Blg.at 1 rfl
  have cg_2 : w5.cell? ⟨w.heap.size, 2, none⟩ = some (.float .f32 lv) := Blg.at 2 rfl
  have Lg : w.heap.size < w5.heap.size := Blg.lt
  go_wp2
  clear cg_0 cg_1 cg_2 Lg
  refine Code.abs ?_
  intro w6 hW
  have hG : Gr [] w5 w6 := by rw [hW]; exact (Gr.refl _ _).alloc
  have hbw : Below w.heap.size w5 w6 := hG.below0 hs.size
  have hk : KeepD w5 w6 := hG.keep True.intro
  have sz_w6 : w.heap.size ≤ w5.heap.size := hs.size
  have ng_w6 : w.heap.size < w5.heap.size := Blg.lt
  have nk_w6 : w.heap.size + 1 < w5.heap.size := Blk.lt
  have Blmost : Bx w6 (w5.heap.size) 38 #[.bool sh4, .slice ah4 nh4 ch4, .slice Ah4 Nh4 Ch4] := by rw [hW]; exact (Bx.new0 _ _ _)
  replace hs := hs.trans hbw
  replace Blg := hG.bx Blg notMem0
  replace Blk := hG.bx Blk notMem0
  replace h3 := h3.keep hk
  replace h4 := h4.keep hk
  clear hW hG hk hbw
  have hz_w6 : w5.heap.size < w6.heap.size := Blmost.lt
  go_loopw [9, 11] (fun s9 s11 wq => ∃ k : Nat, (f + 1) ≤ k ∧ k ≤ t ∧ s11 = .int .i64 k ∧ s9 = .int .i64 ((pkA (yQ ys) f (k - f) : Nat)) ∧ Below w.heap.size w wq ∧ Bx wq (w.heap.size) 52 #[.int .i64 ((f : Int)), .int .i64 ((t : Int)), .float .f32 lv] ∧ Bx wq (w.heap.size + 1) 38 #[.bool false, .slice none 0 0, .slice none 0 0] ∧ RV wq (.agg #[.bool sh3, .slice ah3 nh3 ch3, .slice Ah3 Nh3 Ch3]) (atQ (yQ ys) f) ∧ BoxR wq (w5.heap.size) (absQ (atQ (yQ ys) (pkA (yQ ys) f (k - f))))) (fun s9 s11 _ => t - (intOf s11).toNat)
  case atStart => exact ⟨(f + 1), Nat.le_refl _, by omega, (congrArg (Value.int .i64) (by omega)), (by rw [pkA_one]), hs, Blg, Blk, h3, ⟨_, _, _, _, _, _, _, Blmost, (h4.of_eq (by rw [pkA_one]))⟩⟩
  case round =>
    clear Blg Blk Blmost h3 h4 hs
    obtain ⟨k, k_ge, k_le, rfl, rfl, hs, Blg, Blk, h3, ⟨sh5, ah5, nh5, ch5, Ah5, Nh5, Ch5, Blmost, h5⟩⟩ := hrel
    by_cases q6 : k < t
    · have q6d : ((k : Int) < (t : Int)) = True := eq_true (by omega)
      have BI7a : k < ys.length := by omega
      have BI7b : ((k : Int) : Int) < (ys.length : Int) := by omega
      have Ee8 := rowF_at (HL.out.mono F32.kept hs) (show k < ys.length by omega)
      have cg_0 : wr.cell? ⟨w.heap.size, 0, none⟩ = some (.int .i64 ((f : Int))) := Blg.at 0 rfl
      have cg_1 : wr.cell? ⟨w.heap.size, 1, none⟩ = some (.int .i64 ((t : Int))) := Blg.at 1 rfl
      have cg_2 : wr.cell? ⟨w.heap.size, 2, none⟩ = some (.float .f32 lv) := Blg.at 2 rfl
      have Lg : w.heap.size < wr.heap.size := Blg.lt
      go_wp2_with fail
      clear cg_0 cg_1 cg_2 Lg Ee8
      with_reducible refine (r7_exactY HNO.out (by omega) _).mono ?_
      rintro e w27 ⟨_, rfl, h9, hb⟩
      obtain ⟨sh9, ah9, nh9, ch9, Ah9, Nh9, Ch9, rfl⟩ := h9.shape
      replace hs := bStep hs hb
      replace Blg := Blg.mono hb
      replace Blk := Blk.mono hb
      replace Blmost := Blmost.mono hb
      replace h3 := h3.mono hb
      replace h5 := h5.mono hb
      clear hb
      go_wp2_with fail
      with_reducible refine (r_Abs_calls _ _ _ h9).mono ?_
      rintro e w28 ⟨_, rfl, h10, hb⟩
      obtain ⟨sh10, ah10, nh10, ch10, Ah10, Nh10, Ch10, rfl⟩ := h10.shape
      replace hs := bStep hs hb
      replace Blg := Blg.mono hb
      replace Blk := Blk.mono hb
      replace Blmost := Blmost.mono hb
      replace h3 := h3.mono hb
      replace h5 := h5.mono hb
      replace h9 := h9.mono hb
      clear hb
      have cmost_0 : w28.cell? ⟨w5.heap.size, 0, none⟩ = some (.bool sh5) := Blmost.at 0 rfl
      have cmost_1 : w28.cell? ⟨w5.heap.size, 1, none⟩ = some (.slice ah5 nh5 ch5) := Blmost.at 1 rfl
      have cmost_2 : w28.cell? ⟨w5.heap.size, 2, none⟩ = some (.slice Ah5 Nh5 Ch5) := Blmost.at 2 rfl
      have Lmost : w5.heap.size < w28.heap.size := Blmost.lt
      go_wp2_with fail
      clear cmost_0 cmost_1 cmost_2 Lmost
      refine Calls.abs ?_
      intro w29 hW
      have hG : Gr [] w28 w29 := by rw [hW]; exact (Gr.refl _ _).alloc
      have hbw : Below w.heap.size w28 w29 := hG.below0 hs.size
      have hk : KeepD w28 w29 := hG.keep True.intro
      have sz_w29 : w.heap.size ≤ w28.heap.size := hs.size
      have ng_w29 : w.heap.size < w28.heap.size := Blg.lt
      have nk_w29 : w.heap.size + 1 < w28.heap.size := Blk.lt
      have nmost_w29 : w5.heap.size < w28.heap.size := Blmost.lt
      have Blx : Bx w29 (w28.heap.size) 38 #[.bool sh10, .slice ah10 nh10 ch10, .slice Ah10 Nh10 Ch10] := by rw [hW]; exact (Bx.new0 _ _ _)
      replace hs := hs.trans hbw
      replace Blg := hG.bx Blg notMem0
      replace Blk := hG.bx Blk notMem0
      replace Blmost := hG.bx Blmost notMem0
      replace h3 := h3.keep hk
      replace h5 := h5.keep hk
      replace h9 := h9.keep hk
      replace h10 := h10.keep hk
      clear hW hG hk hbw
      have hz_w29 : w28.heap.size < w29.heap.size := Blx.lt
      with_reducible refine (rCmp h10 h5 (SzQ.fit (absQ_sz (atQ_sz HNO.out (show k < ys.length by omega)))) (SzQ.fit (absQ_sz (atQ_sz HNO.out (by have := pkA_le (yQ ys) f (k - f); omega))))).mono ?_
      rintro e w30 ⟨rfl, hb⟩
      replace hs := bStep hs hb
      replace Blg := Blg.mono hb
      replace Blk := Blk.mono hb
      replace Blmost := Blmost.mono hb
      replace Blx := Blx.mono hb
      replace h3 := h3.mono hb
      replace h5 := h5.mono hb
      replace h9 := h9.mono hb
      replace h10 := h10.mono hb
      clear hb
      obtain ⟨sg11, Hsg11⟩ : ∃ s : Int, s = sgQ ((absQ (atQ (yQ ys) k)) - (absQ (atQ (yQ ys) (pkA (yQ ys) f (k - f))))) := ⟨_, rfl⟩
      rw [← Hsg11]
      replace Hsg11 := Lib.hid Hsg11
      by_cases q12 : absQ (atQ (yQ ys) (pkA (yQ ys) f (k - f))) < absQ (atQ (yQ ys) k)
      · have q12_ : 0 < sg11 := by have h := sq_gt (absQ (atQ (yQ ys) k)) (absQ (atQ (yQ ys) (pkA (yQ ys) f (k - f)))); rw [← Hsg11.out] at h; exact h.2 q12
        have q12H := Lib.hid q12
        clear q12
        have q12d : decide (0 < sg11) = true := decide_eq_true q12_
        go_upto_region 14 with fail
        refine U_region (S := fun w' => w'.cell? ⟨w28.heap.size, 0, none⟩ = some (.bool sh10) ∧ w'.cell? ⟨w28.heap.size, 1, none⟩ = some (.slice ah10 nh10 ch10) ∧ w'.cell? ⟨w28.heap.size, 2, none⟩ = some (.slice Ah10 Nh10 Ch10)) (by kernel_rfl) 3 ?_
        refine AnyU.abs ?_
        intro w31 hW
        have hb : Below w30.heap.size w30 w31 := by rw [hW]; exact bDrew _
        replace hs := bStep hs hb
        replace Blg := Blg.mono hb
        replace Blk := Blk.mono hb
        replace Blmost := Blmost.mono hb
        replace Blx := Blx.mono hb
        replace h3 := h3.mono hb
        replace h5 := h5.mono hb
        replace h9 := h9.mono hb
        replace h10 := h10.mono hb
        clear hb hW
        have cx_0 : w31.cell? ⟨w28.heap.size, 0, none⟩ = some (.bool sh10) := Blx.at 0 rfl
        have cx_1 : w31.cell? ⟨w28.heap.size, 1, none⟩ = some (.slice ah10 nh10 ch10) := Blx.at 1 rfl
        have cx_2 : w31.cell? ⟨w28.heap.size, 2, none⟩ = some (.slice Ah10 Nh10 Ch10) := Blx.at 2 rfl
        have hH := (show w31.cell? ⟨w28.heap.size, 0, none⟩ = some (.bool sh10) ∧ w31.cell? ⟨w28.heap.size, 1, none⟩ = some (.slice ah10 nh10 ch10) ∧ w31.cell? ⟨w28.heap.size, 2, none⟩ = some (.slice Ah10 Nh10 Ch10) from ⟨cx_0, cx_1, cx_2⟩)
        refine U_tt 0 ?_ ?_ hH ?_
        rotate_left
        · (intro w hSw; (try dsimp only at hSw); go_simp; try with_reducible rfl)
        try simp only [LY]
        refine U_tt 1 ?_ ?_ hH ?_
        rotate_left
        · (intro w hSw; (try dsimp only at hSw); go_simp; try with_reducible rfl)
        try simp only [LY]
        refine U_tt 2 ?_ ?_ hH ?_
        rotate_left
        · (intro w hSw; (try dsimp only at hSw); go_simp; try with_reducible rfl)
        try simp only [LY]
        clear hH
        have cmost_0 : w31.cell? ⟨w5.heap.size, 0, none⟩ = some (.bool sh5) := Blmost.at 0 rfl
        have cmost_1 : w31.cell? ⟨w5.heap.size, 1, none⟩ = some (.slice ah5 nh5 ch5) := Blmost.at 1 rfl
        have cmost_2 : w31.cell? ⟨w5.heap.size, 2, none⟩ = some (.slice Ah5 Nh5 Ch5) := Blmost.at 2 rfl
        have fmost := Blmost.free
        have Lmost : w5.heap.size < w31.heap.size := Blmost.lt
        refine U_last (by kernel_rfl) rfl (by kernel_rfl) (fun K hK => ?_)
        go_simp
        refine hK.out _ _ ?_
        clear hK K
        intro w32 hW
        have hG : Gr [w5.heap.size] w31 w32 := by rw [hW]; exact (Gr.refl _ _).set.set.set
        have hsz := hs.size
        have lmost := Blmost.lt
        have hbw : Below w.heap.size w31 w32 := hG.below1 hs.size (by first | omega | assumption)
        have hk : KeepD w31 w32 := hG.keep ⟨⟨_, Blmost.ty, by decide⟩, True.intro⟩
        have Bl1most : Bx w32 (w5.heap.size) 38 #[.bool sh10, .slice ah10 nh10 ch10, .slice Ah10 Nh10 Ch10] := by rw [hW]; exact Blmost.set3
        replace hs := hs.trans hbw
        replace Blg := hG.bx Blg (notMem1 (by omega))
        replace Blk := hG.bx Blk (notMem1 (by omega))
        replace Blx := hG.bx Blx (notMem1 (by omega))
        replace Blmost := Bl1most
        clear Bl1most
        replace h3 := h3.keep hk
        replace h5 := h5.keep hk
        replace h9 := h9.keep hk
        replace h10 := h10.keep hk
        clear hW hG hk hbw hsz lmost
        try simp only [LY]
        clear cx_0 cx_1 cx_2
        go_wp2
        go_roundw
        case rel => exact ⟨k + 1, by omega, by omega, by go_num, (congrArg (fun n : Nat => Value.int .i64 (n : Int)) (pkA_T k_ge q12H.out).symm), hs, Blg, Blk, h3, ⟨_, _, _, _, _, _, _, Blmost, (h10.of_eq (by rw [pkA_T k_ge q12H.out]))⟩⟩
        all_goals first | (simp [intOf]; done) | (simp [intOf]; omega)
      · have q12_ : ¬ (0 < sg11) := by have h := sq_gt (absQ (atQ (yQ ys) k)) (absQ (atQ (yQ ys) (pkA (yQ ys) f (k - f)))); rw [← Hsg11.out] at h; exact fun h1 => q12 (h.1 h1)
        have q12H := Lib.hid q12
        clear q12
        have q12d : decide (0 < sg11) = false := decide_eq_false q12_
        go_wp2
        go_roundw
        case rel => exact ⟨k + 1, by omega, by omega, by go_num, (congrArg (fun n : Nat => Value.int .i64 (n : Int)) (pkA_F k_ge q12H.out).symm), hs, Blg, Blk, h3, ⟨_, _, _, _, _, _, _, Blmost, (h5.of_eq (by rw [pkA_F k_ge q12H.out]))⟩⟩
        all_goals first | (simp [intOf]; done) | (simp [intOf]; omega)
    · have q6d : ((k : Int) < (t : Int)) = False := eq_false (by omega)
      obtain rfl : t = k := by omega
      have cg_0 : wr.cell? ⟨w.heap.size, 0, none⟩ = some (.int .i64 ((f : Int))) := Blg.at 0 rfl
      have cg_1 : wr.cell? ⟨w.heap.size, 1, none⟩ = some (.int .i64 ((t : Int))) := Blg.at 1 rfl
      have cg_2 : wr.cell? ⟨w.heap.size, 2, none⟩ = some (.float .f32 lv) := Blg.at 2 rfl
      have Lg : w.heap.size < wr.heap.size := Blg.lt
      go_upto_region 15 with fail
      clear cg_0 cg_1 cg_2 Lg
      obtain ⟨sg8, Hsg8⟩ : ∃ s : Int, s = sgQ ((absQ (atQ (yQ ys) (pkA (yQ ys) f (t - f)))) - (flQ (cvF lv))) := ⟨_, rfl⟩
      replace Hsg8 := Lib.hid Hsg8
      refine U_region (S := fun w' => w'.cell? ⟨w5.heap.size, 0, none⟩ = some (.bool sh5) ∧ w'.cell? ⟨w5.heap.size, 1, none⟩ = some (.slice ah5 nh5 ch5) ∧ w'.cell? ⟨w5.heap.size, 2, none⟩ = some (.slice Ah5 Nh5 Ch5) ∧ w'.cell? ⟨w.heap.size, 0, none⟩ = some (.int .i64 ((f : Int))) ∧ w'.cell? ⟨w.heap.size, 1, none⟩ = some (.int .i64 ((t : Int))) ∧ w'.cell? ⟨w.heap.size, 2, none⟩ = some (.float .f32 lv)) (by kernel_rfl) 6 ?_
      refine AnyU.abs ?_
      intro w27 hW
      have hb : Below wr.heap.size wr w27 := by rw [hW]; exact bDrew _
      replace hs := bStep hs hb
      replace Blg := Blg.mono hb
      replace Blk := Blk.mono hb
      replace Blmost := Blmost.mono hb
      replace h3 := h3.mono hb
      replace h5 := h5.mono hb
      clear hb hW
      have cmost_0 : w27.cell? ⟨w5.heap.size, 0, none⟩ = some (.bool sh5) := Blmost.at 0 rfl
      have cmost_1 : w27.cell? ⟨w5.heap.size, 1, none⟩ = some (.slice ah5 nh5 ch5) := Blmost.at 1 rfl
      have cmost_2 : w27.cell? ⟨w5.heap.size, 2, none⟩ = some (.slice Ah5 Nh5 Ch5) := Blmost.at 2 rfl
      have cg_0 : w27.cell? ⟨w.heap.size, 0, none⟩ = some (.int .i64 ((f : Int))) := Blg.at 0 rfl
      have cg_1 : w27.cell? ⟨w.heap.size, 1, none⟩ = some (.int .i64 ((t : Int))) := Blg.at 1 rfl
      have cg_2 : w27.cell? ⟨w.heap.size, 2, none⟩ = some (.float .f32 lv) := Blg.at 2 rfl
      have hH := (show w27.cell? ⟨w5.heap.size, 0, none⟩ = some (.bool sh5) ∧ w27.cell? ⟨w5.heap.size, 1, none⟩ = some (.slice ah5 nh5 ch5) ∧ w27.cell? ⟨w5.heap.size, 2, none⟩ = some (.slice Ah5 Nh5 Ch5) ∧ w27.cell? ⟨w.heap.size, 0, none⟩ = some (.int .i64 ((f : Int))) ∧ w27.cell? ⟨w.heap.size, 1, none⟩ = some (.int .i64 ((t : Int))) ∧ w27.cell? ⟨w.heap.size, 2, none⟩ = some (.float .f32 lv) from ⟨cmost_0, cmost_1, cmost_2, cg_0, cg_1, cg_2⟩)
      refine U_tk 0 56 ?_ ?_ hH ?_
      rotate_left
      · (intro w hSw; (try dsimp only at hSw); go_simp; try with_reducible rfl)
      simp only [LY]
      refine U_tk 1 57 ?_ ?_ hH ?_
      rotate_left
      · (intro w hSw; (try dsimp only at hSw); go_simp; try with_reducible rfl)
      simp only [LY]
      refine U_tk 2 58 ?_ ?_ hH ?_
      rotate_left
      · (intro w hSw; (try dsimp only at hSw); go_simp; try with_reducible rfl)
      simp only [LY]
      clear hH
      refine U_one (i := 3) (by kernel_rfl) rfl (fun K hK => ?_)
      go_simp
      (with_reducible refine (r7_exact HLV.out _).mono ?_)
      rintro e w28 ⟨_, rfl, h7, hb⟩
      obtain ⟨sh7, ah7, nh7, ch7, Ah7, Nh7, Ch7, rfl⟩ := h7.shape
      replace hs := bStep hs hb
      replace Blg := Blg.mono hb
      replace Blk := Blk.mono hb
      replace Blmost := Blmost.mono hb
      replace h3 := h3.mono hb
      replace h5 := h5.mono hb
      replace cmost_0 := cellK cmost_0 hb
      replace cmost_1 := cellK cmost_1 hb
      replace cmost_2 := cellK cmost_2 hb
      replace cg_0 := cellK cg_0 hb
      replace cg_1 := cellK cg_1 hb
      replace cg_2 := cellK cg_2 hb
      clear hb
      try go_wp2_with fail
      refine hK.out _ _ ⟨cmost_0, cmost_1, cmost_2, cg_0, cg_1, cg_2⟩ (fun hH => ?_)
      clear hK K
      try simp only [LY]
      clear hH
      refine U_one (i := 4) (by kernel_rfl) rfl (fun K hK => ?_)
      go_simp
      (with_reducible refine (rCmp h5 h7 (SzQ.fit (absQ_sz (atQ_sz HNO.out (by have := pkA_le (yQ ys) f (t - f); omega)))) (SzQ.fit HLS.out)).mono ?_)
      rintro e w29 ⟨rfl, hb⟩
      replace hs := bStep hs hb
      replace Blg := Blg.mono hb
      replace Blk := Blk.mono hb
      replace Blmost := Blmost.mono hb
      replace h3 := h3.mono hb
      replace h5 := h5.mono hb
      replace h7 := h7.mono hb
      replace cmost_0 := cellK cmost_0 hb
      replace cmost_1 := cellK cmost_1 hb
      replace cmost_2 := cellK cmost_2 hb
      replace cg_0 := cellK cg_0 hb
      replace cg_1 := cellK cg_1 hb
      replace cg_2 := cellK cg_2 hb
      clear hb
      rw [← Hsg8.out]
      try go_wp2_with fail
      refine hK.out _ _ ⟨cmost_0, cmost_1, cmost_2, cg_0, cg_1, cg_2⟩ (fun hH => ?_)
      clear hK K
      try simp only [LY]
      refine U_tk 5 61 ?_ ?_ hH ?_
      rotate_left
      · (intro w hSw; (try dsimp only at hSw); go_simp; try with_reducible rfl)
      simp only [LY]
      clear hH
      refine U_endN (by kernel_rfl) ?_
      clear cmost_0 cmost_1 cmost_2 cg_0 cg_1 cg_2
      by_cases q9 : absQ (atQ (yQ ys) (pkA (yQ ys) f (t - f))) < flQ (cvF lv)
      · have q9_ : sg8 < 0 := by have h := sq_lt (absQ (atQ (yQ ys) (pkA (yQ ys) f (t - f)))) (flQ (cvF lv)); rw [← Hsg8.out] at h; exact h.2 q9
        have q9H := Lib.hid q9
        clear q9
        have q9d : decide (sg8 < 0) = true := decide_eq_true q9_
        go_wp2_with fail
        with_reducible refine (r7_zero _).mono ?_
        rintro e w30 ⟨_, rfl, h10, hb⟩
        obtain ⟨sh10, ah10, nh10, ch10, Ah10, Nh10, Ch10, rfl⟩ := h10.shape
        replace hs := bStep hs hb
        replace Blg := Blg.mono hb
        replace Blk := Blk.mono hb
        replace Blmost := Blmost.mono hb
        replace h3 := h3.mono hb
        replace h5 := h5.mono hb
        replace h7 := h7.mono hb
        clear hb
        have PK := Lib.hid (pk_lt q9H.out)
        have ck_0 : w30.cell? ⟨w.heap.size + 1, 0, none⟩ = some (.bool false) := Blk.at 0 rfl
        have ck_1 : w30.cell? ⟨w.heap.size + 1, 1, none⟩ = some (.slice none 0 0) := Blk.at 1 rfl
        have ck_2 : w30.cell? ⟨w.heap.size + 1, 2, none⟩ = some (.slice none 0 0) := Blk.at 2 rfl
        have fk := Blk.free
        have Lk : w.heap.size + 1 < w30.heap.size := Blk.lt
        go_wp2
        clear ck_0 ck_1 ck_2 fk Lk
        refine bodyPost.abs ?_
        intro w31 hW
        have hG : Gr [w.heap.size + 1] w30 w31 := by rw [hW]; exact (Gr.refl _ _).set.set.set
        have hsz := hs.size
        have lk := Blk.lt
        have hbw : Below w.heap.size w30 w31 := hG.below1 hs.size (by first | omega | assumption)
        have hk : KeepD w30 w31 := hG.keep ⟨⟨_, Blk.ty, by decide⟩, True.intro⟩
        have Bl1k : Bx w31 (w.heap.size + 1) 38 #[.bool sh10, .slice ah10 nh10 ch10, .slice Ah10 Nh10 Ch10] := by rw [hW]; exact Blk.set3
        replace hs := hs.trans hbw
        replace Blg := hG.bx Blg (notMem1 (by omega))
        replace Blmost := hG.bx Blmost (notMem1 (by omega))
        replace Blk := Bl1k
        clear Bl1k
        replace h3 := h3.keep hk
        replace h5 := h5.keep hk
        replace h7 := h7.keep hk
        replace h10 := h10.keep hk
        clear hW hG hk hbw hsz lk
        have ck_0 : w31.cell? ⟨w.heap.size + 1, 0, none⟩ = some (.bool sh10) := Blk.at 0 rfl
        have ck_1 : w31.cell? ⟨w.heap.size + 1, 1, none⟩ = some (.slice ah10 nh10 ch10) := Blk.at 1 rfl
        have ck_2 : w31.cell? ⟨w.heap.size + 1, 2, none⟩ = some (.slice Ah10 Nh10 Ch10) := Blk.at 2 rfl
        exact bodyPost_ret (v := .tuple #[.int .i64 0, .agg #[.bool sh10, .slice ah10 nh10 ch10, .slice Ah10 Nh10 Ch10], .int .i64 70]) (by simp [results, Tryz.results15, go_sem, ck_0, ck_1, ck_2]) rfl ⟨_, _, _, rfl, congrArg _ PK.out.1.symm, h10.of_eq PK.out.2.1.symm, congrArg _ PK.out.2.2.symm, hs⟩
      · have q9_ : ¬ (sg8 < 0) := by have h := sq_lt (absQ (atQ (yQ ys) (pkA (yQ ys) f (t - f)))) (flQ (cvF lv)); rw [← Hsg8.out] at h; exact fun h1 => q9 (h.1 h1)
        have q9H := Lib.hid q9
        clear q9
        have q9d : decide (sg8 < 0) = false := decide_eq_false q9_
        go_upto_region 17 with fail
        refine U_region (S := fun w' => w'.cell? ⟨w5.heap.size, 0, none⟩ = some (.bool sh5) ∧ w'.cell? ⟨w5.heap.size, 1, none⟩ = some (.slice ah5 nh5 ch5) ∧ w'.cell? ⟨w5.heap.size, 2, none⟩ = some (.slice Ah5 Nh5 Ch5)) (by kernel_rfl) 4 ?_
        refine AnyU.abs ?_
        intro w30 hW
        have hb : Below w29.heap.size w29 w30 := by rw [hW]; exact bDrew _
        replace hs := bStep hs hb
        replace Blg := Blg.mono hb
        replace Blk := Blk.mono hb
        replace Blmost := Blmost.mono hb
        replace h3 := h3.mono hb
        replace h5 := h5.mono hb
        replace h7 := h7.mono hb
        clear hb hW
        have cmost_0 : w30.cell? ⟨w5.heap.size, 0, none⟩ = some (.bool sh5) := Blmost.at 0 rfl
        have cmost_1 : w30.cell? ⟨w5.heap.size, 1, none⟩ = some (.slice ah5 nh5 ch5) := Blmost.at 1 rfl
        have cmost_2 : w30.cell? ⟨w5.heap.size, 2, none⟩ = some (.slice Ah5 Nh5 Ch5) := Blmost.at 2 rfl
        have hH := (show w30.cell? ⟨w5.heap.size, 0, none⟩ = some (.bool sh5) ∧ w30.cell? ⟨w5.heap.size, 1, none⟩ = some (.slice ah5 nh5 ch5) ∧ w30.cell? ⟨w5.heap.size, 2, none⟩ = some (.slice Ah5 Nh5 Ch5) from ⟨cmost_0, cmost_1, cmost_2⟩)
        refine U_tt 0 ?_ ?_ hH ?_
        rotate_left
        · (intro w hSw; (try dsimp only at hSw); go_simp; try with_reducible rfl)
        try simp only [LY]
        refine U_tt 1 ?_ ?_ hH ?_
        rotate_left
        · (intro w hSw; (try dsimp only at hSw); go_simp; try with_reducible rfl)
        try simp only [LY]
        refine U_tt 2 ?_ ?_ hH ?_
        rotate_left
        · (intro w hSw; (try dsimp only at hSw); go_simp; try with_reducible rfl)
        try simp only [LY]
        clear hH
        have ck_0 : w30.cell? ⟨w.heap.size + 1, 0, none⟩ = some (.bool false) := Blk.at 0 rfl
        have ck_1 : w30.cell? ⟨w.heap.size + 1, 1, none⟩ = some (.slice none 0 0) := Blk.at 1 rfl
        have ck_2 : w30.cell? ⟨w.heap.size + 1, 2, none⟩ = some (.slice none 0 0) := Blk.at 2 rfl
        have fk := Blk.free
        have Lk : w.heap.size + 1 < w30.heap.size := Blk.lt
        refine U_one (i := 3) (by kernel_rfl) rfl (fun K hK => ?_)
        go_simp
        generalize hW_ : (((w30.setCell ⟨w.heap.size + 1, 0, none⟩ (.bool sh5)).setCell ⟨w.heap.size + 1, 1, none⟩ (.slice ah5 nh5 ch5)).setCell ⟨w.heap.size + 1, 2, none⟩ (.slice Ah5 Nh5 Ch5)) = w31
        have hW := hW_.symm
        clear hW_
        have hG : Gr [w.heap.size + 1] w30 w31 := by rw [hW]; exact (Gr.refl _ _).set.set.set
        have hsz := hs.size
        have lk := Blk.lt
        have hbw : Below w.heap.size w30 w31 := hG.below1 hs.size (by first | omega | assumption)
        have hk : KeepD w30 w31 := hG.keep ⟨⟨_, Blk.ty, by decide⟩, True.intro⟩
        have Bl1k : Bx w31 (w.heap.size + 1) 38 #[.bool sh5, .slice ah5 nh5 ch5, .slice Ah5 Nh5 Ch5] := by rw [hW]; exact Blk.set3
        replace hs := hs.trans hbw
        replace Blg := hG.bx Blg (notMem1 (by omega))
        replace Blmost := hG.bx Blmost (notMem1 (by omega))
        replace Blk := Bl1k
        clear Bl1k
        replace h3 := h3.keep hk
        replace h5 := h5.keep hk
        replace h7 := h7.keep hk
        replace cmost_0 := hG.cell cmost_0 (notMem1 (by dsimp only; omega))
        replace cmost_1 := hG.cell cmost_1 (notMem1 (by dsimp only; omega))
        replace cmost_2 := hG.cell cmost_2 (notMem1 (by dsimp only; omega))
        clear hW hG hk hbw hsz lk
        refine hK.out _ _ ⟨cmost_0, cmost_1, cmost_2⟩ (fun hH => ?_)
        clear hK K
        try simp only [LY]
        clear hH
        refine U_last (by kernel_rfl) rfl (by kernel_rfl) (fun K hK => ?_)
        go_simp
        refine hK.out _ _ ?_
        clear hK K
        intro wl hW
        rw [hW]
        clear hW wl
        try simp only [LY]
        clear cmost_0 cmost_1 cmost_2
        have PK := Lib.hid (pk_ge q9H.out)
        go_wp2
        have ck_0 : w31.cell? ⟨w.heap.size + 1, 0, none⟩ = some (.bool sh5) := Blk.at 0 rfl
        have ck_1 : w31.cell? ⟨w.heap.size + 1, 1, none⟩ = some (.slice ah5 nh5 ch5) := Blk.at 1 rfl
        have ck_2 : w31.cell? ⟨w.heap.size + 1, 2, none⟩ = some (.slice Ah5 Nh5 Ch5) := Blk.at 2 rfl
        exact bodyPost_ret (v := .tuple #[.int .i64 ((pkA (yQ ys) f (t - f) : Nat)), .agg #[.bool sh5, .slice ah5 nh5 ch5, .slice Ah5 Nh5 Ch5], .int .i64 0]) (by simp [results, Tryz.results15, go_sem, ck_0, ck_1, ck_2]) rfl ⟨_, _, _, rfl, congrArg _ PK.out.1.symm, h5.of_eq PK.out.2.1.symm, congrArg _ PK.out.2.2.symm, hs⟩

end Go.Proofs.YtkfekkhhfpkfaaaGreat
