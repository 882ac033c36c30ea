/-
  The reference's words for a step that runs into an obstacle.
-/
import Derived.Test.YtbnomdlojmgigaaGreatPlNQ
set_option linter.unusedSimpArgs false
set_option linter.unusedVariables false
set_option maxRecDepth 100000
set_option maxHeartbeats 16000000
namespace Go.Proofs.YtbnomdlojmgigaaGreat
open Go.RowKit Dg
attribute [local go_sem ↓] Go.wp_at_zero Go.wp_at_succ
theorem tmq_sz {a d lo hi : Int} (ha : Wn 16777216 a) (hd : Wn 16777216 d) (hl : Wn 16777216 lo) (hh : Wn 16777216 hi) : SzQ 4 (tmL a d lo hi) ∧ SzQ 4 (tmH a d lo hi) := by
 by_cases h : d = 0
 ·rw [show tmL a d lo hi = ((-1 : Int) : Rat) from if_pos h, show tmH a d lo hi = ((2 : Int) : Rat) from if_pos h]
  exact ⟨(szQ_int (by decide)).mono (by decide), (szQ_int (by decide)).mono (by decide)⟩
 have := tms_sz ha hd hl hh
 rwa [show twL a d lo hi = tmL a d lo hi from if_neg h, show twH a d lo hi = tmH a d lo hi from if_neg h] at this
theorem tm_0 {a d lo hi : Int} (h : d = 0) : tmL a d lo hi = ((-1 : Int) : Rat) ∧ tmH a d lo hi = ((2 : Int) : Rat) := ⟨if_pos h, if_pos h⟩
theorem tm_0t {a d lo hi : Int} (h : d = 0) (h1 : lo < a) (h2 : a < hi) : tmB a d lo hi = true := by unfold tmB; simp [h, h1, h2]
theorem tm_0f {a d lo hi : Int} (h : d = 0) (h1 : ¬ (lo < a ∧ a < hi)) : tmB a d lo hi = false := by unfold tmB; simp [h]; omega
theorem tm_1 {a d lo hi : Int} (h : ¬ d = 0) : tmB a d lo hi = true := by unfold tmB; simp [h]
theorem tm_n {a d lo hi : Int} (h : ¬ d = 0) (k : d < 0) : tmL a d lo hi = ((hi - a : Int) : Rat) / ((d : Int) : Rat) ∧ tmH a d lo hi = ((lo - a : Int) : Rat) / ((d : Int) : Rat) := ⟨(if_neg h).trans (if_pos k), (if_neg h).trans (if_pos k)⟩
theorem tm_p {a d lo hi : Int} (h : ¬ d = 0) (k : ¬ d < 0) : tmL a d lo hi = ((lo - a : Int) : Rat) / ((d : Int) : Rat) ∧ tmH a d lo hi = ((hi - a : Int) : Rat) / ((d : Int) : Rat) := ⟨(if_neg h).trans (if_neg k), (if_neg h).trans (if_neg k)⟩
theorem hr_no1 {a b p q : Pt} {w h : Int} (hn : tmB a.1 (b.1 - a.1) (p.1 - w) (q.1 + w) = false) : hitB a b w h (p, q) = false := by unfold hitB; rw [hn]; rfl
theorem hr_no2 {a b p q : Pt} {w h : Int} (hn : tmB a.2 (b.2 - a.2) (p.2 - h) (q.2 + h) = false) : hitB a b w h (p, q) = false := by unfold hitB; rw [hn]; simp
theorem hr_fin {a b p q : Pt} {w h : Int} (h1 : tmB a.1 (b.1 - a.1) (p.1 - w) (q.1 + w) = true) (h2 : tmB a.2 (b.2 - a.2) (p.2 - h) (q.2 + h) = true) {F T : Rat}
  (hF : mxR (tmL a.1 (b.1 - a.1) (p.1 - w) (q.1 + w)) (tmL a.2 (b.2 - a.2) (p.2 - h) (q.2 + h)) = F) (hT : mnR (tmH a.1 (b.1 - a.1) (p.1 - w) (q.1 + w)) (tmH a.2 (b.2 - a.2) (p.2 - h) (q.2 + h)) = T) :
  hitB a b w h (p, q) = true ↔ (F < T ∧ F < 1 ∧ 0 < T) := by
 rw [hit_iff]
 show _ ∧ _ ∧ (mxR _ _ < mnR _ _ ∧ mxR _ _ < 1 ∧ 0 < mnR _ _) ↔ _
 rw [hF, hT]
 exact ⟨fun h => h.2.2, fun h => ⟨h1, h2, h⟩⟩
theorem r2_whole (n : Int) (w : World) (h : Wn 9223372036854775807 n) :
  Calls Tryz.prog 94 #[.int .i64 n] w (RetQ w (n : Rat)) := by
 have hs := Below.refl w.heap.size w
 go_enter Tryz.func94, Tryz.ntmps94
 go_wp2_with fail
 refine Calls.abs ?_
 intro w1 hW
 have hG : Gr [] w w1 := by rw [hW]; exact (Gr.refl _ _).alloc
 have Dy := hs.size
 have Blk : Bx w1 (w.heap.size) 53 #[.bool false, .slice none 0 0, .slice none 0 0] := by rw [hW]; exact (Bx.new0 _ _ _)
 replace hs := hs.trans (hG.below0 hs.size)
 clear hW hG
 have Du := Blk.lt
 with_reducible refine (r_Int_calls n _ (h.lo64 (by decide)) (h.hi (by decide))).mono ?_
 rintro e w2 ⟨_, rfl, h1, hb⟩
 obtain ⟨Dx, Ds, Dw, Dt, Dm, Dr, Dn, rfl⟩ := h1.shape
 revert Blk; refine mS hs hb ?_; clear hs hb; intro hs Blk
 refine Blk.k3fl fun Bk Bl Bm fk Lk => ?_
 go_wp2
 clear Bk Bl Bm fk Lk
 refine bodyPost.abs ?_
 intro w3 hW
 have hG : Gr [w.heap.size] w2 w3 := by rw [hW]; exact (Gr.refl _ _).set.set.set
 have Ca := hs.size
 have lk := Blk.lt
 have hk := hG.keep ⟨⟨_, Blk.ty, by decide⟩, True.intro⟩
 have By : Bx w3 (w.heap.size) 53 #[.bool Dx, .slice Ds Dw Dt, .slice Dm Dr Dn] := by rw [hW]; exact Blk.set3
 replace hs := hs.trans (hG.d1 hs.size)
 replace Blk := By
 clear By
 replace h1 := h1.keep hk
 clear hW hG hk Ca lk
 refine Blk.k3 fun Bk Bl Bm => ?_
 exact bodyPost_ret (v := .agg #[.bool Dx, .slice Ds Dw Dt, .slice Dm Dr Dn]) (by simp [results, Tryz.results94, go_sem, Bk, Bl, Bm]) rfl ⟨_, rfl, h1, hs⟩
theorem r2_quotient (vx : Value) (x : Rat) (vy : Value) (y : Rat) (w : World) (hx : RV w vx x) (sx : Mid x) (hy : RV w vy y) (sy : Mid y) (hy0 : y ≠ 0) :
  Calls Tryz.prog 96 #[vx, vy] w (RetQ w (x / y)) := by
 obtain ⟨shx, ahx, nhx, chx, Ahx, Nhx, Chx, rfl⟩ := hx.shape
 obtain ⟨shy, ahy, nhy, chy, Ahy, Nhy, Chy, rfl⟩ := hy.shape
 have hs := Below.refl w.heap.size w
 go_enter Tryz.func96, Tryz.ntmps96
 go_wp2_with fail
 refine Calls.abs ?_
 intro w1 hW
 have hG : Gr [] w w1 := by rw [hW]; exact (Gr.refl _ _).alloc.alloc.alloc
 have hk := hG.keep True.intro
 have Dy := hs.size
 have B4 : Bx w1 (w.heap.size) 53 #[.bool shx, .slice ahx nhx chx, .slice Ahx Nhx Chx] := by rw [hW]; exact (((Bx.new0 _ _ _).alloc _).alloc _)
 have B3 : Bx w1 (w.heap.size + 1) 53 #[.bool shy, .slice ahy nhy chy, .slice Ahy Nhy Chy] := by rw [hW]; exact ((Bx.new0 _ _ _).alloc _)
 have Blk : Bx w1 (w.heap.size + 1 + 1) 53 #[.bool false, .slice none 0 0, .slice none 0 0] := by rw [hW]; exact (Bx.new0 _ _ _)
 replace hs := hs.trans (hG.below0 hs.size)
 revert hy; revert hx; refine ke hk ?_; intro hx hy
 clear hW hG hk
 have Du := Blk.lt
 with_reducible refine (rDiv hx hy (SzQ.fit sx) (SzQ.fit sy) hy0).mono ?_
 rintro e w2 ⟨_, rfl, h1, hb⟩
 obtain ⟨Dx, Ds, Dw, Dt, Dm, Dr, Dn, rfl⟩ := h1.shape
 revert hy; revert hx; revert Blk; revert B3; revert B4; refine mS hs hb ?_; clear hs hb; intro hs B4 B3 Blk hx hy
 go_upto_region 2 with fail
 refine Code.abs ?_
 intro w3 hW
 have hG : Gr [] w2 w3 := by rw [hW]; exact (Gr.refl _ _).alloc
 have Ji := hs.size
 have Jf := B4.lt
 have Jg := B3.lt
 have nk_w3 := Blk.lt
 have E7 : Bx w3 (w2.heap.size) 53 #[.bool Dx, .slice Ds Dw Dt, .slice Dm Dr Dn] := by rw [hW]; exact (Bx.new0 _ _ _)
 replace hs := hs.trans (hG.below0 hs.size)
 revert h1; revert hy; revert hx; revert Blk; revert B3; revert B4; refine g0 hG ?_; intro B4 B3 Blk hx hy h1
 clear hW hG
 have Jd := E7.lt
 refine E7.k3l fun Jo Jp Jq Lq => ?_
 refine Blk.k3fl fun Bk Bl Bm fk Lk => ?_
 go_wp2
 clear Jo Jp Jq Bk Bl Bm fk Lq Lk
 refine bodyPost.abs ?_
 intro w4 hW
 have hG : Gr [w.heap.size + 1 + 1] w3 w4 := by rw [hW]; exact (Gr.refl _ _).set.set.set
 have Ca := hs.size
 have lk := Blk.lt
 have hk := hG.keep ⟨⟨_, Blk.ty, by decide⟩, True.intro⟩
 have By : Bx w4 (w.heap.size + 1 + 1) 53 #[.bool Dx, .slice Ds Dw Dt, .slice Dm Dr Dn] := by rw [hW]; exact Blk.set3
 replace hs := hs.trans (hG.d1 hs.size)
 replace B4 := hG.b1 B4
 replace B3 := hG.b1 B3
 replace E7 := hG.b1 E7
 replace Blk := By
 clear By
 revert h1; revert hy; revert hx; refine ke hk ?_; intro hx hy h1
 clear hW hG hk Ca lk
 refine Blk.k3 fun Bk Bl Bm => ?_
 exact bodyPost_ret (v := .agg #[.bool Dx, .slice Ds Dw Dt, .slice Dm Dr Dn]) (by simp [results, Tryz.results96, go_sem, Bk, Bl, Bm]) rfl ⟨_, rfl, h1, hs⟩
theorem r2_time (a d lo hi : Int) (w : World) (ha : Wn 16777216 a) (hd : Wn 16777216 d) (hlo : Wn 16777216 lo) (hhi : Wn 16777216 hi) {rb : Bool} {L H : Rat} (hb : rb = tmB a d lo hi) (hL : L = tmL a d lo hi) (hH : H = tmH a d lo hi) :
  Calls Tryz.prog 75 #[.int .i64 a, .int .i64 d, .int .i64 lo, .int .i64 hi] w (Ret3 (fun _ v => v = .bool rb) (fun w v => RV w v L) (fun w v => RV w v H) w) := by
 have hs := Below.refl w.heap.size w
 have HB := Lib.hid hb
 have Ek := Lib.hid hL
 have Ej := Lib.hid hH
 clear hb hL hH
 go_enter Tryz.func75, Tryz.ntmps75
 by_cases q1 : d = 0
 ·have q1b : (d == 0) = true := beq_iff_eq.2 (by omega)
  have q1n : (d != 0) = false := bne_eq_false_iff_eq.2 (by omega)
  have Ci := Lib.hid q1
  clear q1
  by_cases q2 : lo < a
  ·have q2d : (lo < a) = True := eq_true (by omega)
   go_wp2_with fail
   refine Calls.abs ?_
   intro w1 hW
   have hG : Gr [] w w1 := by rw [hW]; exact (Gr.refl _ _).alloc.alloc
   have Dy := hs.size
   have Blk : Bx w1 (w.heap.size) 53 #[.bool false, .slice none 0 0, .slice none 0 0] := by rw [hW]; exact ((Bx.new0 _ _ _).alloc _)
   have B0 : Bx w1 (w.heap.size + 1) 53 #[.bool false, .slice none 0 0, .slice none 0 0] := by rw [hW]; exact (Bx.new0 _ _ _)
   replace hs := hs.trans (hG.below0 hs.size)
   clear hW hG
   have Du := B0.lt
   with_reducible refine (r_Int_calls (-1) _ (by decide) (by decide)).mono ?_
   rintro e w2 ⟨_, rfl, h3, hb⟩
   obtain ⟨Dj, De, Di, Df, Db, Dd, Dc, rfl⟩ := h3.shape
   revert B0; revert Blk; refine mS hs hb ?_; clear hs hb; intro hs Blk B0
   go_wp2_with fail
   with_reducible refine (r_Int_calls (2) _ (by decide) (by decide)).mono ?_
   rintro e w3 ⟨_, rfl, h4, hb⟩
   obtain ⟨D2, Cx, D1, D0, Cu, Cw, Cv, rfl⟩ := h4.shape
   revert h3; revert B0; revert Blk; refine mS hs hb ?_; clear hs hb; intro hs Blk B0 h3
   by_cases q5 : a < hi
   ·have q5d : (a < hi) = True := eq_true (by omega)
    try simp only [q5d]
    refine Blk.k3fl fun Bk Bl Bm fk Lk => ?_
    refine B0.k3fl fun Bs Bt Bu Eb Ea => ?_
    go_wp2
    clear Bk Bl Bm Bs Bt Bu fk Eb Lk Ea
    refine bodyPost.abs ?_
    intro w4 hW
    have hG : Gr [w.heap.size, w.heap.size + 1] w3 w4 := by rw [hW]; exact (Gr.refl _ _).set.set.set.set.set.set
    have Ca := hs.size
    have lk := Blk.lt
    have Dv := B0.lt
    have B6 := hG.below2 hs.size (by first | omega | assumption) (by first | omega | assumption)
    have hk := hG.keep ⟨⟨_, Blk.ty, by decide⟩, ⟨_, B0.ty, by decide⟩, True.intro⟩
    have By : Bx w4 (w.heap.size) 53 #[.bool Dj, .slice De Di Df, .slice Db Dd Dc] := by rw [hW]; exact (Bx.far (Bx.far (Bx.far (Bx.set (Bx.set (Bx.set Blk 0 _ rfl) 1 _ rfl) 2 _ rfl) (by dsimp only; omega) _) (by dsimp only; omega) _) (by dsimp only; omega) _)
    have C1 : Bx w4 (w.heap.size + 1) 53 #[.bool D2, .slice Cx D1 D0, .slice Cu Cw Cv] := by rw [hW]; exact (Bx.set (Bx.set (Bx.set (Bx.far (Bx.far (Bx.far B0 (by dsimp only; omega) _) (by dsimp only; omega) _) (by dsimp only; omega) _) 0 _ rfl) 1 _ rfl) 2 _ rfl)
    replace hs := hs.trans B6
    replace Blk := By
    clear By
    replace B0 := C1
    clear C1
    revert h4; revert h3; refine ke hk ?_; intro h3 h4
    clear hW hG hk B6 Ca lk Dv
    refine Blk.k3 fun Bk Bl Bm => ?_
    refine B0.k3 fun Bs Bt Bu => ?_
    exact bodyPost_ret (v := .tuple #[.bool true, .agg #[.bool Dj, .slice De Di Df, .slice Db Dd Dc], .agg #[.bool D2, .slice Cx D1 D0, .slice Cu Cw Cv]]) (by simp [results, Tryz.results75, go_sem, Bk, Bl, Bm, Bs, Bt, Bu]) rfl ⟨_, _, _, rfl, (by rw [HB.out, (tm_0t (a := a) (d := d) (lo := lo) (hi := hi) Ci.out (by omega) (by omega))] <;> rfl), h3.of_eq ((tm_0 Ci.out).1.symm.trans Ek.out.symm), h4.of_eq ((tm_0 Ci.out).2.symm.trans Ej.out.symm), hs⟩
   have q5d : (a < hi) = False := eq_false (by omega)
   try simp only [q5d]
   refine Blk.k3fl fun Bk Bl Bm fk Lk => ?_
   refine B0.k3fl fun Bs Bt Bu Eb Ea => ?_
   go_wp2
   clear Bk Bl Bm Bs Bt Bu fk Eb Lk Ea
   refine bodyPost.abs ?_
   intro w4 hW
   have hG : Gr [w.heap.size, w.heap.size + 1] w3 w4 := by rw [hW]; exact (Gr.refl _ _).set.set.set.set.set.set
   have Ca := hs.size
   have lk := Blk.lt
   have Dv := B0.lt
   have B6 := hG.below2 hs.size (by first | omega | assumption) (by first | omega | assumption)
   have hk := hG.keep ⟨⟨_, Blk.ty, by decide⟩, ⟨_, B0.ty, by decide⟩, True.intro⟩
   have By : Bx w4 (w.heap.size) 53 #[.bool Dj, .slice De Di Df, .slice Db Dd Dc] := by rw [hW]; exact (Bx.far (Bx.far (Bx.far (Bx.set (Bx.set (Bx.set Blk 0 _ rfl) 1 _ rfl) 2 _ rfl) (by dsimp only; omega) _) (by dsimp only; omega) _) (by dsimp only; omega) _)
   have C1 : Bx w4 (w.heap.size + 1) 53 #[.bool D2, .slice Cx D1 D0, .slice Cu Cw Cv] := by rw [hW]; exact (Bx.set (Bx.set (Bx.set (Bx.far (Bx.far (Bx.far B0 (by dsimp only; omega) _) (by dsimp only; omega) _) (by dsimp only; omega) _) 0 _ rfl) 1 _ rfl) 2 _ rfl)
   replace hs := hs.trans B6
   replace Blk := By
   clear By
   replace B0 := C1
   clear C1
   revert h4; revert h3; refine ke hk ?_; intro h3 h4
   clear hW hG hk B6 Ca lk Dv
   refine Blk.k3 fun Bk Bl Bm => ?_
   refine B0.k3 fun Bs Bt Bu => ?_
   exact bodyPost_ret (v := .tuple #[.bool false, .agg #[.bool Dj, .slice De Di Df, .slice Db Dd Dc], .agg #[.bool D2, .slice Cx D1 D0, .slice Cu Cw Cv]]) (by simp [results, Tryz.results75, go_sem, Bk, Bl, Bm, Bs, Bt, Bu]) rfl ⟨_, _, _, rfl, (by rw [HB.out, (tm_0f (a := a) (d := d) (lo := lo) (hi := hi) Ci.out (by omega))] <;> rfl), h3.of_eq ((tm_0 Ci.out).1.symm.trans Ek.out.symm), h4.of_eq ((tm_0 Ci.out).2.symm.trans Ej.out.symm), hs⟩
  have q2d : (lo < a) = False := eq_false (by omega)
  go_wp2_with fail
  refine Calls.abs ?_
  intro w1 hW
  have hG : Gr [] w w1 := by rw [hW]; exact (Gr.refl _ _).alloc.alloc
  have Dy := hs.size
  have Blk : Bx w1 (w.heap.size) 53 #[.bool false, .slice none 0 0, .slice none 0 0] := by rw [hW]; exact ((Bx.new0 _ _ _).alloc _)
  have B0 : Bx w1 (w.heap.size + 1) 53 #[.bool false, .slice none 0 0, .slice none 0 0] := by rw [hW]; exact (Bx.new0 _ _ _)
  replace hs := hs.trans (hG.below0 hs.size)
  clear hW hG
  have Du := B0.lt
  with_reducible refine (r_Int_calls (-1) _ (by decide) (by decide)).mono ?_
  rintro e w2 ⟨_, rfl, h3, hb⟩
  obtain ⟨Dj, De, Di, Df, Db, Dd, Dc, rfl⟩ := h3.shape
  revert B0; revert Blk; refine mS hs hb ?_; clear hs hb; intro hs Blk B0
  go_wp2_with fail
  with_reducible refine (r_Int_calls (2) _ (by decide) (by decide)).mono ?_
  rintro e w3 ⟨_, rfl, h4, hb⟩
  obtain ⟨D2, Cx, D1, D0, Cu, Cw, Cv, rfl⟩ := h4.shape
  revert h3; revert B0; revert Blk; refine mS hs hb ?_; clear hs hb; intro hs Blk B0 h3
  refine Blk.k3fl fun Bk Bl Bm fk Lk => ?_
  refine B0.k3fl fun Bs Bt Bu Eb Ea => ?_
  go_wp2
  clear Bk Bl Bm Bs Bt Bu fk Eb Lk Ea
  refine bodyPost.abs ?_
  intro w4 hW
  have hG : Gr [w.heap.size, w.heap.size + 1] w3 w4 := by rw [hW]; exact (Gr.refl _ _).set.set.set.set.set.set
  have Ca := hs.size
  have lk := Blk.lt
  have Dv := B0.lt
  have B6 := hG.below2 hs.size (by first | omega | assumption) (by first | omega | assumption)
  have hk := hG.keep ⟨⟨_, Blk.ty, by decide⟩, ⟨_, B0.ty, by decide⟩, True.intro⟩
  have By : Bx w4 (w.heap.size) 53 #[.bool Dj, .slice De Di Df, .slice Db Dd Dc] := by rw [hW]; exact (Bx.far (Bx.far (Bx.far (Bx.set (Bx.set (Bx.set Blk 0 _ rfl) 1 _ rfl) 2 _ rfl) (by dsimp only; omega) _) (by dsimp only; omega) _) (by dsimp only; omega) _)
  have C1 : Bx w4 (w.heap.size + 1) 53 #[.bool D2, .slice Cx D1 D0, .slice Cu Cw Cv] := by rw [hW]; exact (Bx.set (Bx.set (Bx.set (Bx.far (Bx.far (Bx.far B0 (by dsimp only; omega) _) (by dsimp only; omega) _) (by dsimp only; omega) _) 0 _ rfl) 1 _ rfl) 2 _ rfl)
  replace hs := hs.trans B6
  replace Blk := By
  clear By
  replace B0 := C1
  clear C1
  revert h4; revert h3; refine ke hk ?_; intro h3 h4
  clear hW hG hk B6 Ca lk Dv
  refine Blk.k3 fun Bk Bl Bm => ?_
  refine B0.k3 fun Bs Bt Bu => ?_
  exact bodyPost_ret (v := .tuple #[.bool false, .agg #[.bool Dj, .slice De Di Df, .slice Db Dd Dc], .agg #[.bool D2, .slice Cx D1 D0, .slice Cu Cw Cv]]) (by simp [results, Tryz.results75, go_sem, Bk, Bl, Bm, Bs, Bt, Bu]) rfl ⟨_, _, _, rfl, (by rw [HB.out, (tm_0f (a := a) (d := d) (lo := lo) (hi := hi) Ci.out (by omega))] <;> rfl), h3.of_eq ((tm_0 Ci.out).1.symm.trans Ek.out.symm), h4.of_eq ((tm_0 Ci.out).2.symm.trans Ej.out.symm), hs⟩
 have q1b : (d == 0) = false := beq_eq_false_iff_ne.2 (by omega)
 have q1n : (d != 0) = true := bne_iff_ne.2 (by omega)
 have Ci := Lib.hid q1
 clear q1
 have AX2 : IntKind.i64.wrap (lo - a) = lo - a := Wn.wsub hlo ha (by decide)
 go_wp2_with fail
 refine Calls.abs ?_
 intro w1 hW
 have hG : Gr [] w w1 := by rw [hW]; exact (Gr.refl _ _).alloc.alloc
 have Dy := hs.size
 have Blk : Bx w1 (w.heap.size) 53 #[.bool false, .slice none 0 0, .slice none 0 0] := by rw [hW]; exact ((Bx.new0 _ _ _).alloc _)
 have B0 : Bx w1 (w.heap.size + 1) 53 #[.bool false, .slice none 0 0, .slice none 0 0] := by rw [hW]; exact (Bx.new0 _ _ _)
 replace hs := hs.trans (hG.below0 hs.size)
 clear hW hG
 have Du := B0.lt
 with_reducible refine (r2_whole (lo - a) _ ((Wn.sub hlo ha).mono (by decide))).mono ?_
 rintro e w2 ⟨_, rfl, h3, hb⟩
 obtain ⟨Dj, De, Di, Df, Db, Dd, Dc, rfl⟩ := h3.shape
 revert B0; revert Blk; refine mS hs hb ?_; clear hs hb; intro hs Blk B0
 go_wp2_with fail
 with_reducible refine (r2_whole d _ (hd.mono (by decide))).mono ?_
 rintro e w3 ⟨_, rfl, h4, hb⟩
 obtain ⟨D2, Cx, D1, D0, Cu, Cw, Cv, rfl⟩ := h4.shape
 revert h3; revert B0; revert Blk; refine mS hs hb ?_; clear hs hb; intro hs Blk B0 h3
 go_wp2_with fail
 with_reducible refine (r2_quotient _ _ _ _ _ h3 (SzQ.mid (szN ((Wn.sub hlo ha).mono (by decide)))) h4 (SzQ.mid (szN (hd.mono (by decide)))) (fun e => absurd (Rat.intCast_eq_zero_iff.1 e) Ci.out)).mono ?_
 rintro e w4 ⟨_, rfl, h5, hb⟩
 obtain ⟨C8, C5, C7, C6, C2, C4, C3, rfl⟩ := h5.shape
 revert h4; revert h3; revert B0; revert Blk; refine mS hs hb ?_; clear hs hb; intro hs Blk B0 h3 h4
 have AX6 : IntKind.i64.wrap (hi - a) = hi - a := Wn.wsub hhi ha (by decide)
 go_wp2_with fail
 with_reducible refine (r2_whole (hi - a) _ ((Wn.sub hhi ha).mono (by decide))).mono ?_
 rintro e w5 ⟨_, rfl, h7, hb⟩
 obtain ⟨sh7, ah7, nh7, ch7, Ah7, Nh7, Ch7, rfl⟩ := h7.shape
 revert h5; revert h4; revert h3; revert B0; revert Blk; refine mS hs hb ?_; clear hs hb; intro hs Blk B0 h3 h4 h5
 go_wp2_with fail
 with_reducible refine (r2_whole d _ (hd.mono (by decide))).mono ?_
 rintro e w6 ⟨_, rfl, h8, hb⟩
 obtain ⟨sh8, ah8, nh8, ch8, Ah8, Nh8, Ch8, rfl⟩ := h8.shape
 revert h7; revert h5; revert h4; revert h3; revert B0; revert Blk; refine mS hs hb ?_; clear hs hb; intro hs Blk B0 h3 h4 h5 h7
 go_wp2_with fail
 with_reducible refine (r2_quotient _ _ _ _ _ h7 (SzQ.mid (szN ((Wn.sub hhi ha).mono (by decide)))) h8 (SzQ.mid (szN (hd.mono (by decide)))) (fun e => absurd (Rat.intCast_eq_zero_iff.1 e) Ci.out)).mono ?_
 rintro e w7 ⟨_, rfl, h9, hb⟩
 obtain ⟨Bw, Bq, Bv, Br, Bn, Bp, Bo, rfl⟩ := h9.shape
 revert h8; revert h7; revert h5; revert h4; revert h3; revert B0; revert Blk; refine mS hs hb ?_; clear hs hb; intro hs Blk B0 h3 h4 h5 h7 h8
 by_cases q10 : d < 0
 ·have q10d : (d < 0) = True := eq_true (by omega)
  go_upto_region 6 with fail
  refine Code.abs ?_
  intro w8 hW
  have hG : Gr [] w7 w8 := by rw [hW]; exact (Gr.refl _ _).alloc.alloc
  have Jj := hs.size
  have Jh := Blk.lt
  have Jc := B0.lt
  have B4 : Bx w8 (w7.heap.size) 53 #[.bool Bw, .slice Bq Bv Br, .slice Bn Bp Bo] := by rw [hW]; exact ((Bx.new0 _ _ _).alloc _)
  have B3 : Bx w8 (w7.heap.size + 1) 53 #[.bool C8, .slice C5 C7 C6, .slice C2 C4 C3] := by rw [hW]; exact (Bx.new0 _ _ _)
  replace hs := hs.trans (hG.below0 hs.size)
  revert h9; revert h8; revert h7; revert h5; revert h4; revert h3; revert B0; revert Blk; refine g0 hG ?_; intro Blk B0 h3 h4 h5 h7 h8 h9
  clear hW hG
  have Je := B3.lt
  refine U_region (S := fun w' => w'.cell? ⟨w7.heap.size, 0, none⟩ = some (.bool Bw) ∧ w'.cell? ⟨w7.heap.size, 1, none⟩ = some (.slice Bq Bv Br) ∧ w'.cell? ⟨w7.heap.size, 2, none⟩ = some (.slice Bn Bp Bo) ∧ w'.cell? ⟨w7.heap.size + 1, 0, none⟩ = some (.bool C8) ∧ w'.cell? ⟨w7.heap.size + 1, 1, none⟩ = some (.slice C5 C7 C6) ∧ w'.cell? ⟨w7.heap.size + 1, 2, none⟩ = some (.slice C2 C4 C3)) (by kernel_rfl) 4 ?_
  refine AnyU.abs ?_
  intro w9 hW
  have hb : Below w8.heap.size w8 w9 := by rw [hW]; exact bDrew _
  replace hs := bStep hs hb
  revert h9; revert h8; revert h7; revert h5; revert h4; revert h3; revert B3; revert B4; revert B0; revert Blk; refine mo hb ?_; intro Blk B0 B4 B3 h3 h4 h5 h7 h8 h9
  clear hb hW
  refine B4.k3 fun Cn Co Cy => ?_
  refine B3.k3 fun Cp Cq Cz => ?_
  have hH := (show w9.cell? ⟨w7.heap.size, 0, none⟩ = some (.bool Bw) ∧ w9.cell? ⟨w7.heap.size, 1, none⟩ = some (.slice Bq Bv Br) ∧ w9.cell? ⟨w7.heap.size, 2, none⟩ = some (.slice Bn Bp Bo) ∧ w9.cell? ⟨w7.heap.size + 1, 0, none⟩ = some (.bool C8) ∧ w9.cell? ⟨w7.heap.size + 1, 1, none⟩ = some (.slice C5 C7 C6) ∧ w9.cell? ⟨w7.heap.size + 1, 2, none⟩ = some (.slice C2 C4 C3) from ⟨Cn, Co, Cy, Cp, Cq, Cz⟩)
  refine U_tt 0 ?_ ?_ hH ?_
  rotate_left
  ·(intro w B5; (try dsimp only at B5); go_simp; try with_reducible rfl)
  try simp only [LY]
  refine U_tt 1 ?_ ?_ hH ?_
  rotate_left
  ·(intro w B5; (try dsimp only at B5); go_simp; try with_reducible rfl)
  try simp only [LY]
  refine U_tt 2 ?_ ?_ hH ?_
  rotate_left
  ·(intro w B5; (try dsimp only at B5); go_simp; try with_reducible rfl)
  try simp only [LY]
  clear hH
  refine Blk.k3fl fun Bk Bl Bm fk Lk => ?_
  refine U_on 3 fun K hK => ?_
  go_simp
  generalize hW_ : (((w9.setCell ⟨w.heap.size, 0, none⟩ (.bool Bw)).setCell ⟨w.heap.size, 1, none⟩ (.slice Bq Bv Br)).setCell ⟨w.heap.size, 2, none⟩ (.slice Bn Bp Bo)) = C0
  have hW := hW_.symm
  clear hW_
  have hG : Gr [w.heap.size] w9 C0 := by rw [hW]; exact (Gr.refl _ _).set.set.set
  have Ca := hs.size
  have lk := Blk.lt
  have hk := hG.keep ⟨⟨_, Blk.ty, by decide⟩, True.intro⟩
  have By : Bx C0 (w.heap.size) 53 #[.bool Bw, .slice Bq Bv Br, .slice Bn Bp Bo] := by rw [hW]; exact Blk.set3
  replace hs := hs.trans (hG.d1 hs.size)
  replace B0 := hG.b1 B0
  replace B4 := hG.b1 B4
  replace B3 := hG.b1 B3
  replace Blk := By
  clear By
  revert h9; revert h8; revert h7; revert h5; revert h4; revert h3; refine ke hk ?_; intro h3 h4 h5 h7 h8 h9
  replace Cn := hG.c1 Cn
  replace Co := hG.c1 Co
  replace Cy := hG.c1 Cy
  replace Cp := hG.c1 Cp
  replace Cq := hG.c1 Cq
  replace Cz := hG.c1 Cz
  clear hW hG hk Ca lk
  refine hK.out _ _ ⟨Cn, Co, Cy, Cp, Cq, Cz⟩ (fun hH => ?_)
  clear hK K
  try simp only [LY]
  clear hH
  refine B0.k3fl fun Bs Bt Bu Eb Ea => ?_
  refine U_last (by kernel_rfl) rfl (by kernel_rfl) (fun K hK => ?_)
  go_simp
  refine hK.out _ _ ?_
  clear hK K
  intro C9 hW
  have hG : Gr [w.heap.size + 1] C0 C9 := by rw [hW]; exact (Gr.refl _ _).set.set.set
  have Ca := hs.size
  have Dv := B0.lt
  have hk := hG.keep ⟨⟨_, B0.ty, by decide⟩, True.intro⟩
  have C1 : Bx C9 (w.heap.size + 1) 53 #[.bool C8, .slice C5 C7 C6, .slice C2 C4 C3] := by rw [hW]; exact B0.set3
  replace hs := hs.trans (hG.d1 hs.size)
  replace Blk := hG.b1 Blk
  replace B4 := hG.b1 B4
  replace B3 := hG.b1 B3
  replace B0 := C1
  clear C1
  revert h9; revert h8; revert h7; revert h5; revert h4; revert h3; refine ke hk ?_; intro h3 h4 h5 h7 h8 h9
  clear hW hG hk Ca Dv
  try simp only [LY]
  clear Cn Co Cy Cp Cq Cz
  go_wp2
  refine Blk.k3 fun Bk Bl Bm => ?_
  refine B0.k3 fun Bs Bt Bu => ?_
  exact bodyPost_ret (v := .tuple #[.bool true, .agg #[.bool Bw, .slice Bq Bv Br, .slice Bn Bp Bo], .agg #[.bool C8, .slice C5 C7 C6, .slice C2 C4 C3]]) (by simp [results, Tryz.results75, go_sem, Bk, Bl, Bm, Bs, Bt, Bu]) rfl ⟨_, _, _, rfl, (by rw [HB.out, tm_1 Ci.out] <;> rfl), h9.of_eq ((tm_n Ci.out (by omega)).1.symm.trans Ek.out.symm), h5.of_eq ((tm_n Ci.out (by omega)).2.symm.trans Ej.out.symm), hs⟩
 have q10d : (d < 0) = False := eq_false (by omega)
 go_upto_region 6 with fail
 refine Code.abs ?_
 intro w8 hW
 have hG : Gr [] w7 w8 := by rw [hW]; exact (Gr.refl _ _).alloc.alloc
 have Jj := hs.size
 have Jh := Blk.lt
 have Jc := B0.lt
 have B4 : Bx w8 (w7.heap.size) 53 #[.bool C8, .slice C5 C7 C6, .slice C2 C4 C3] := by rw [hW]; exact ((Bx.new0 _ _ _).alloc _)
 have B3 : Bx w8 (w7.heap.size + 1) 53 #[.bool Bw, .slice Bq Bv Br, .slice Bn Bp Bo] := by rw [hW]; exact (Bx.new0 _ _ _)
 replace hs := hs.trans (hG.below0 hs.size)
 revert h9; revert h8; revert h7; revert h5; revert h4; revert h3; revert B0; revert Blk; refine g0 hG ?_; intro Blk B0 h3 h4 h5 h7 h8 h9
 clear hW hG
 have Je := B3.lt
 refine U_region (S := fun w' => w'.cell? ⟨w7.heap.size, 0, none⟩ = some (.bool C8) ∧ w'.cell? ⟨w7.heap.size, 1, none⟩ = some (.slice C5 C7 C6) ∧ w'.cell? ⟨w7.heap.size, 2, none⟩ = some (.slice C2 C4 C3) ∧ w'.cell? ⟨w7.heap.size + 1, 0, none⟩ = some (.bool Bw) ∧ w'.cell? ⟨w7.heap.size + 1, 1, none⟩ = some (.slice Bq Bv Br) ∧ w'.cell? ⟨w7.heap.size + 1, 2, none⟩ = some (.slice Bn Bp Bo)) (by kernel_rfl) 4 ?_
 refine AnyU.abs ?_
 intro w9 hW
 have hb : Below w8.heap.size w8 w9 := by rw [hW]; exact bDrew _
 replace hs := bStep hs hb
 revert h9; revert h8; revert h7; revert h5; revert h4; revert h3; revert B3; revert B4; revert B0; revert Blk; refine mo hb ?_; intro Blk B0 B4 B3 h3 h4 h5 h7 h8 h9
 clear hb hW
 refine B4.k3 fun Cn Co Cy => ?_
 refine B3.k3 fun Cp Cq Cz => ?_
 have hH := (show w9.cell? ⟨w7.heap.size, 0, none⟩ = some (.bool C8) ∧ w9.cell? ⟨w7.heap.size, 1, none⟩ = some (.slice C5 C7 C6) ∧ w9.cell? ⟨w7.heap.size, 2, none⟩ = some (.slice C2 C4 C3) ∧ w9.cell? ⟨w7.heap.size + 1, 0, none⟩ = some (.bool Bw) ∧ w9.cell? ⟨w7.heap.size + 1, 1, none⟩ = some (.slice Bq Bv Br) ∧ w9.cell? ⟨w7.heap.size + 1, 2, none⟩ = some (.slice Bn Bp Bo) from ⟨Cn, Co, Cy, Cp, Cq, Cz⟩)
 refine U_tt 0 ?_ ?_ hH ?_
 rotate_left
 ·(intro w B5; (try dsimp only at B5); go_simp; try with_reducible rfl)
 try simp only [LY]
 refine U_tt 1 ?_ ?_ hH ?_
 rotate_left
 ·(intro w B5; (try dsimp only at B5); go_simp; try with_reducible rfl)
 try simp only [LY]
 refine U_tt 2 ?_ ?_ hH ?_
 rotate_left
 ·(intro w B5; (try dsimp only at B5); go_simp; try with_reducible rfl)
 try simp only [LY]
 clear hH
 refine Blk.k3fl fun Bk Bl Bm fk Lk => ?_
 refine U_on 3 fun K hK => ?_
 go_simp
 generalize hW_ : (((w9.setCell ⟨w.heap.size, 0, none⟩ (.bool C8)).setCell ⟨w.heap.size, 1, none⟩ (.slice C5 C7 C6)).setCell ⟨w.heap.size, 2, none⟩ (.slice C2 C4 C3)) = C0
 have hW := hW_.symm
 clear hW_
 have hG : Gr [w.heap.size] w9 C0 := by rw [hW]; exact (Gr.refl _ _).set.set.set
 have Ca := hs.size
 have lk := Blk.lt
 have hk := hG.keep ⟨⟨_, Blk.ty, by decide⟩, True.intro⟩
 have By : Bx C0 (w.heap.size) 53 #[.bool C8, .slice C5 C7 C6, .slice C2 C4 C3] := by rw [hW]; exact Blk.set3
 replace hs := hs.trans (hG.d1 hs.size)
 replace B0 := hG.b1 B0
 replace B4 := hG.b1 B4
 replace B3 := hG.b1 B3
 replace Blk := By
 clear By
 revert h9; revert h8; revert h7; revert h5; revert h4; revert h3; refine ke hk ?_; intro h3 h4 h5 h7 h8 h9
 replace Cn := hG.c1 Cn
 replace Co := hG.c1 Co
 replace Cy := hG.c1 Cy
 replace Cp := hG.c1 Cp
 replace Cq := hG.c1 Cq
 replace Cz := hG.c1 Cz
 clear hW hG hk Ca lk
 refine hK.out _ _ ⟨Cn, Co, Cy, Cp, Cq, Cz⟩ (fun hH => ?_)
 clear hK K
 try simp only [LY]
 clear hH
 refine B0.k3fl fun Bs Bt Bu Eb Ea => ?_
 refine U_last (by kernel_rfl) rfl (by kernel_rfl) (fun K hK => ?_)
 go_simp
 refine hK.out _ _ ?_
 clear hK K
 intro C9 hW
 have hG : Gr [w.heap.size + 1] C0 C9 := by rw [hW]; exact (Gr.refl _ _).set.set.set
 have Ca := hs.size
 have Dv := B0.lt
 have hk := hG.keep ⟨⟨_, B0.ty, by decide⟩, True.intro⟩
 have C1 : Bx C9 (w.heap.size + 1) 53 #[.bool Bw, .slice Bq Bv Br, .slice Bn Bp Bo] := by rw [hW]; exact B0.set3
 replace hs := hs.trans (hG.d1 hs.size)
 replace Blk := hG.b1 Blk
 replace B4 := hG.b1 B4
 replace B3 := hG.b1 B3
 replace B0 := C1
 clear C1
 revert h9; revert h8; revert h7; revert h5; revert h4; revert h3; refine ke hk ?_; intro h3 h4 h5 h7 h8 h9
 clear hW hG hk Ca Dv
 try simp only [LY]
 clear Cn Co Cy Cp Cq Cz
 go_wp2
 refine Blk.k3 fun Bk Bl Bm => ?_
 refine B0.k3 fun Bs Bt Bu => ?_
 exact bodyPost_ret (v := .tuple #[.bool true, .agg #[.bool C8, .slice C5 C7 C6, .slice C2 C4 C3], .agg #[.bool Bw, .slice Bq Bv Br, .slice Bn Bp Bo]]) (by simp [results, Tryz.results75, go_sem, Bk, Bl, Bm, Bs, Bt, Bu]) rfl ⟨_, _, _, rfl, (by rw [HB.out, tm_1 Ci.out] <;> rfl), h5.of_eq ((tm_p Ci.out (by omega)).1.symm.trans Ek.out.symm), h9.of_eq ((tm_p Ci.out (by omega)).2.symm.trans Ej.out.symm), hs⟩
theorem r2_runs (a b p q : Pt) (u v : Int) (w : World) (ha : WP 1048576 a) (hb : WP 1048576 b) (hp : WP 1048576 p) (hq : WP 1048576 q) (hu : Wn 1048576 u) (hv : Wn 1048576 v) :
  Calls Tryz.prog 38 #[.agg #[.int .i64 a.1, .int .i64 a.2], .agg #[.int .i64 b.1, .int .i64 b.2], .int .i64 u, .int .i64 v, .agg #[.int .i64 p.1, .int .i64 p.2, .int .i64 q.1, .int .i64 q.2]] w (RetV w (.bool (hitB a b u v (p, q)))) := by
 have hs := Below.refl w.heap.size w
 go_enter Tryz.func38, Tryz.ntmps38
 have AX1 : IntKind.i64.wrap (b.1 - a.1) = b.1 - a.1 := Wn.wsub hb.1 ha.1 (by decide)
 have AX2 : IntKind.i64.wrap (p.1 - u) = p.1 - u := Wn.wsub hp.1 hu (by decide)
 have AX3 : IntKind.i64.wrap (q.1 + u) = q.1 + u := Wn.wadd hq.1 hu (by decide)
 go_wp2_with fail
 refine Calls.abs ?_
 intro w1 hW
 have hG : Gr [] w w1 := by rw [hW]; exact (Gr.refl _ _).alloc.alloc.alloc
 have Dy := hs.size
 have B4 : Bx w1 (w.heap.size) 31 #[.int .i64 a.1, .int .i64 a.2] := by rw [hW]; exact (((Bx.new0 _ _ _).alloc _).alloc _)
 have B3 : Bx w1 (w.heap.size + 1) 31 #[.int .i64 b.1, .int .i64 b.2] := by rw [hW]; exact ((Bx.new0 _ _ _).alloc _)
 have B9 : Bx w1 (w.heap.size + 1 + 1) 41 #[.int .i64 p.1, .int .i64 p.2, .int .i64 q.1, .int .i64 q.2] := by rw [hW]; exact (Bx.new0 _ _ _)
 replace hs := hs.trans (hG.below0 hs.size)
 clear hW hG
 have Du := B9.lt
 obtain ⟨L1, E5⟩ : ∃ z : Rat, z = tmL a.1 (b.1 - a.1) (p.1 - u) (q.1 + u) := ⟨_, rfl⟩
 have Ec := Lib.hid (show SzQ 4 L1 from by rw [E5]; exact (tmq_sz (ha.1.mono (by decide)) ((Wn.sub hb.1 ha.1).mono (by decide)) ((Wn.sub hp.1 hu).mono (by decide)) ((Wn.add hq.1 hu).mono (by decide))).1)
 replace E5 := Lib.hid E5
 obtain ⟨H1, E3⟩ : ∃ z : Rat, z = tmH a.1 (b.1 - a.1) (p.1 - u) (q.1 + u) := ⟨_, rfl⟩
 have J1 := Lib.hid (show SzQ 4 H1 from by rw [E3]; exact (tmq_sz (ha.1.mono (by decide)) ((Wn.sub hb.1 ha.1).mono (by decide)) ((Wn.sub hp.1 hu).mono (by decide)) ((Wn.add hq.1 hu).mono (by decide))).2)
 replace E3 := Lib.hid E3
 obtain ⟨B1, E1⟩ : ∃ z : Bool, z = tmB a.1 (b.1 - a.1) (p.1 - u) (q.1 + u) := ⟨_, rfl⟩
 obtain ⟨rb1, E8⟩ : ∃ z : Bool, z = B1 := ⟨_, rfl⟩
 replace E1 := Lib.hid E1
 replace E8 := Lib.hid E8
 with_reducible refine (r2_time a.1 (b.1 - a.1) (p.1 - u) (q.1 + u) _ (ha.1.mono (by decide)) ((Wn.sub hb.1 ha.1).mono (by decide)) ((Wn.sub hp.1 hu).mono (by decide)) ((Wn.add hq.1 hu).mono (by decide)) (E8.out.trans E1.out) E5.out E3.out).mono ?_
 rintro e w2 ⟨_, _, _, rfl, rfl, h4, h5, hb⟩
 obtain ⟨D2, Cx, D1, D0, Cu, Cw, Cv, rfl⟩ := h4.shape
 obtain ⟨C8, C5, C7, C6, C2, C4, C3, rfl⟩ := h5.shape
 revert B9; revert B3; revert B4; refine mS hs hb ?_; clear hs hb; intro hs B4 B3 B9
 have AX6 : IntKind.i64.wrap (b.2 - a.2) = b.2 - a.2 := Wn.wsub hb.2 ha.2 (by decide)
 have AX7 : IntKind.i64.wrap (p.2 - v) = p.2 - v := Wn.wsub hp.2 hv (by decide)
 have AX8 : IntKind.i64.wrap (q.2 + v) = q.2 + v := Wn.wadd hq.2 hv (by decide)
 refine B4.k2l fun Cn Co La => ?_
 refine B3.k2l fun Cp Cq Lb => ?_
 refine B9.k4l fun Jk Jl Jm Jn Lo => ?_
 have Lb_0 : w.heap.size < w2.heap.size := by omega
 have Lo_0 : w.heap.size + 1 < w2.heap.size := by omega
 have Lo_1 : w.heap.size < w2.heap.size := by omega
 go_wp2_with fail
 clear Cn Co Cp Cq Jk Jl Jm Jn La Lb Lo Lb_0 Lo_0 Lo_1
 refine Calls.abs ?_
 intro w3 hW
 have hG : Gr [] w2 w3 := by rw [hW]; exact (Gr.refl _ _).alloc.alloc
 have Ji := hs.size
 have Jf := B4.lt
 have Jg := B3.lt
 have no_w3 := B9.lt
 have B8 : Bx w3 (w2.heap.size) 53 #[.bool D2, .slice Cx D1 D0, .slice Cu Cw Cv] := by rw [hW]; exact ((Bx.new0 _ _ _).alloc _)
 have B7 : Bx w3 (w2.heap.size + 1) 53 #[.bool C8, .slice C5 C7 C6, .slice C2 C4 C3] := by rw [hW]; exact (Bx.new0 _ _ _)
 replace hs := hs.trans (hG.below0 hs.size)
 revert h5; revert h4; revert B9; revert B3; revert B4; refine g0 hG ?_; intro B4 B3 B9 h4 h5
 clear hW hG
 have Jd := B7.lt
 obtain ⟨L2, E6⟩ : ∃ z : Rat, z = tmL a.2 (b.2 - a.2) (p.2 - v) (q.2 + v) := ⟨_, rfl⟩
 have Ed := Lib.hid (show SzQ 4 L2 from by rw [E6]; exact (tmq_sz (ha.2.mono (by decide)) ((Wn.sub hb.2 ha.2).mono (by decide)) ((Wn.sub hp.2 hv).mono (by decide)) ((Wn.add hq.2 hv).mono (by decide))).1)
 replace E6 := Lib.hid E6
 obtain ⟨H2, E4⟩ : ∃ z : Rat, z = tmH a.2 (b.2 - a.2) (p.2 - v) (q.2 + v) := ⟨_, rfl⟩
 have J2 := Lib.hid (show SzQ 4 H2 from by rw [E4]; exact (tmq_sz (ha.2.mono (by decide)) ((Wn.sub hb.2 ha.2).mono (by decide)) ((Wn.sub hp.2 hv).mono (by decide)) ((Wn.add hq.2 hv).mono (by decide))).2)
 replace E4 := Lib.hid E4
 obtain ⟨B2, E2⟩ : ∃ z : Bool, z = tmB a.2 (b.2 - a.2) (p.2 - v) (q.2 + v) := ⟨_, rfl⟩
 obtain ⟨rb2, E9⟩ : ∃ z : Bool, z = B2 := ⟨_, rfl⟩
 replace E2 := Lib.hid E2
 replace E9 := Lib.hid E9
 with_reducible refine (r2_time a.2 (b.2 - a.2) (p.2 - v) (q.2 + v) _ (ha.2.mono (by decide)) ((Wn.sub hb.2 ha.2).mono (by decide)) ((Wn.sub hp.2 hv).mono (by decide)) ((Wn.add hq.2 hv).mono (by decide)) (E9.out.trans E2.out) E6.out E4.out).mono ?_
 rintro e w4 ⟨_, _, _, rfl, rfl, h9, Bh, hb⟩
 obtain ⟨Bw, Bq, Bv, Br, Bn, Bp, Bo, rfl⟩ := h9.shape
 obtain ⟨Ch, Ce, Cg, Cf, Cb, Cd, Cc, rfl⟩ := Bh.shape
 revert h5; revert h4; revert B7; revert B8; revert B9; revert B3; revert B4; refine mS hs hb ?_; clear hs hb; intro hs B4 B3 B9 B8 B7 h4 h5
 by_cases q11 : B1 = true
 ·obtain rfl : rb1 = true := by rw [E8.out]; exact q11
  have Dz := Lib.hid q11
  clear q11
  by_cases q12 : B2 = true
  ·obtain rfl : rb2 = true := by rw [E9.out]; exact q12
   have E0 := Lib.hid q12
   clear q12
   refine B8.k3l fun Bd Be Bf Lx => ?_
   go_wp2_with fail
   clear Bd Be Bf Lx
   refine Calls.abs ?_
   intro w5 hW
   have hG : Gr [] w4 w5 := by rw [hW]; exact (Gr.refl _ _).alloc.alloc
   have J9 := hs.size
   have J4 := B4.lt
   have J5 := B3.lt
   have J6 := B9.lt
   have J8 := B8.lt
   have J7 := B7.lt
   have Bi : Bx w5 (w4.heap.size) 53 #[.bool Bw, .slice Bq Bv Br, .slice Bn Bp Bo] := by rw [hW]; exact ((Bx.new0 _ _ _).alloc _)
   have Bg : Bx w5 (w4.heap.size + 1) 53 #[.bool Ch, .slice Ce Cg Cf, .slice Cb Cd Cc] := by rw [hW]; exact (Bx.new0 _ _ _)
   replace hs := hs.trans (hG.below0 hs.size)
   revert Bh; revert h9; revert h5; revert h4; revert B7; revert B8; revert B9; revert B3; revert B4; refine g0 hG ?_; intro B4 B3 B9 B8 B7 h4 h5 h9 Bh
   clear hW hG
   have J3 := Bg.lt
   with_reducible refine (rCmp h9 h4 (SzQ.fit Ed.out) (SzQ.fit Ec.out)).mono ?_
   rintro e w6 ⟨rfl, hb⟩
   revert Bh; revert h9; revert h5; revert h4; revert Bg; revert Bi; revert B7; revert B8; revert B9; revert B3; revert B4; refine mS hs hb ?_; clear hs hb; intro hs B4 B3 B9 B8 B7 Bi Bg h4 h5 h9 Bh
   obtain ⟨Ee, Do⟩ : ∃ s : Int, s = sgQ (L2 - L1) := ⟨_, rfl⟩
   rw [← Do]
   replace Do := Lib.hid Do
   go_upto_if 70 with (fail)
   go_cut [71] (fun kf71 wz => Below w.heap.size w wz ∧ Bx wz (w.heap.size) 31 #[.int .i64 a.1, .int .i64 a.2] ∧ Bx wz (w.heap.size + 1) 31 #[.int .i64 b.1, .int .i64 b.2] ∧ Bx wz (w.heap.size + 1 + 1) 41 #[.int .i64 p.1, .int .i64 p.2, .int .i64 q.1, .int .i64 q.2] ∧ Bx wz (w2.heap.size + 1) 53 #[.bool C8, .slice C5 C7 C6, .slice C2 C4 C3] ∧ Bx wz (w4.heap.size) 53 #[.bool Bw, .slice Bq Bv Br, .slice Bn Bp Bo] ∧ Bx wz (w4.heap.size + 1) 53 #[.bool Ch, .slice Ce Cg Cf, .slice Cb Cd Cc] ∧ RV wz (.agg #[.bool C8, .slice C5 C7 C6, .slice C2 C4 C3]) (H1) ∧ RV wz (.agg #[.bool Bw, .slice Bq Bv Br, .slice Bn Bp Bo]) (L2) ∧ RV wz (.agg #[.bool Ch, .slice Ce Cg Cf, .slice Cb Cd Cc]) (H2) ∧ BoxR wz (w2.heap.size) (mxR L1 L2))
   case first =>
    by_cases q14 : L1 < L2
    ·have Ep : 0 < Ee := by have h := sq_gt L2 L1; rw [← Do.out] at h; exact h.2 q14
     have Eo := Lib.hid q14
     clear q14
     have Eq : decide (0 < Ee) = true := decide_eq_true Ep
     try simp only [Eq]
     refine Bi.k3l fun Jr Js Jt Ly => ?_
     refine B8.k3fl fun Bd Be Bf fx Lx => ?_
     go_wp2_with fail
     go_meet
     refine meetP (P := fun wz => Below w.heap.size w wz ∧ Bx wz (w.heap.size) 31 #[.int .i64 a.1, .int .i64 a.2] ∧ Bx wz (w.heap.size + 1) 31 #[.int .i64 b.1, .int .i64 b.2] ∧ Bx wz (w.heap.size + 1 + 1) 41 #[.int .i64 p.1, .int .i64 p.2, .int .i64 q.1, .int .i64 q.2] ∧ Bx wz (w2.heap.size + 1) 53 #[.bool C8, .slice C5 C7 C6, .slice C2 C4 C3] ∧ Bx wz (w4.heap.size) 53 #[.bool Bw, .slice Bq Bv Br, .slice Bn Bp Bo] ∧ Bx wz (w4.heap.size + 1) 53 #[.bool Ch, .slice Ce Cg Cf, .slice Cb Cd Cc] ∧ RV wz (.agg #[.bool C8, .slice C5 C7 C6, .slice C2 C4 C3]) (H1) ∧ RV wz (.agg #[.bool Bw, .slice Bq Bv Br, .slice Bn Bp Bo]) (L2) ∧ RV wz (.agg #[.bool Ch, .slice Ce Cg Cf, .slice Cb Cd Cc]) (H2) ∧ BoxR wz (w2.heap.size) (mxR L1 L2)) ?_
     clear Jr Js Jt Bd Be Bf fx Ly Lx
     intro w7 hW
     have hG : Gr [w2.heap.size] w6 w7 := by rw [hW]; exact (Gr.refl _ _).set.set.set
     have Ca := hs.size
     have lx := B8.lt
     have hk := hG.keep ⟨⟨_, B8.ty, by decide⟩, True.intro⟩
     have Jb : Bx w7 (w2.heap.size) 53 #[.bool Bw, .slice Bq Bv Br, .slice Bn Bp Bo] := by rw [hW]; exact B8.set3
     replace hs := hs.trans (hG.d1 hs.size)
     replace B4 := hG.b1 B4
     replace B3 := hG.b1 B3
     replace B9 := hG.b1 B9
     replace B7 := hG.b1 B7
     replace Bi := hG.b1 Bi
     replace Bg := hG.b1 Bg
     replace B8 := Jb
     clear Jb
     revert Bh; revert h9; revert h5; revert h4; refine ke hk ?_; intro h4 h5 h9 Bh
     clear hW hG hk Ca lx
     exact ⟨hs, B4, B3, B9, B7, Bi, Bg, h5, h9, Bh, ⟨_, _, _, _, _, _, _, B8, (h9.of_eq (show _ = mxR _ _ from (if_pos Eo.out).symm))⟩⟩
    have Ep : ¬ (0 < Ee) := by have h := sq_gt L2 L1; rw [← Do.out] at h; exact fun h1 => q14 (h.1 h1)
    have Eo := Lib.hid q14
    clear q14
    have Eq : decide (0 < Ee) = false := decide_eq_false Ep
    try simp only [Eq]
    go_wp2_with fail
    go_meet
    exact ⟨hs, B4, B3, B9, B7, Bi, Bg, h5, h9, Bh, ⟨_, _, _, _, _, _, _, B8, (h4.of_eq (show _ = mxR _ _ from (if_neg Eo.out).symm))⟩⟩
   case rest =>
    clear hs B4 B3 B9 B7 Bi Bg h5 h9 Bh
    obtain ⟨hs, B4, B3, B9, B7, Bi, Bg, h5, h9, Bh, ⟨Ct, Cm, Cs, Cr, Cj, Cl, Ck, B8, Bj⟩⟩ := hcut
    refine Bg.k3l fun El Em En Lv => ?_
    refine B7.k3l fun Ba Bb Bc Lu => ?_
    go_wp2_with fail
    clear El Em En Ba Bb Bc Lv Lu
    with_reducible refine (rCmp Bh h5 (SzQ.fit J2.out) (SzQ.fit J1.out)).mono ?_
    rintro e w7 ⟨rfl, hb⟩
    revert Bj; revert Bh; revert h9; revert h5; revert B8; revert Bg; revert Bi; revert B7; revert B9; revert B3; revert B4; refine mS hs hb ?_; clear hs hb; intro hs B4 B3 B9 B7 Bi Bg B8 h5 h9 Bh Bj
    obtain ⟨Ef, Dp⟩ : ∃ s : Int, s = sgQ (H2 - H1) := ⟨_, rfl⟩
    rw [← Dp]
    replace Dp := Lib.hid Dp
    go_upto_if 75 with (fail)
    go_cut [76] (fun kf76 wz => Below w.heap.size w wz ∧ Bx wz (w.heap.size) 31 #[.int .i64 a.1, .int .i64 a.2] ∧ Bx wz (w.heap.size + 1) 31 #[.int .i64 b.1, .int .i64 b.2] ∧ Bx wz (w.heap.size + 1 + 1) 41 #[.int .i64 p.1, .int .i64 p.2, .int .i64 q.1, .int .i64 q.2] ∧ Bx wz (w4.heap.size) 53 #[.bool Bw, .slice Bq Bv Br, .slice Bn Bp Bo] ∧ Bx wz (w4.heap.size + 1) 53 #[.bool Ch, .slice Ce Cg Cf, .slice Cb Cd Cc] ∧ Bx wz (w2.heap.size) 53 #[.bool Ct, .slice Cm Cs Cr, .slice Cj Cl Ck] ∧ RV wz (.agg #[.bool Bw, .slice Bq Bv Br, .slice Bn Bp Bo]) (L2) ∧ RV wz (.agg #[.bool Ch, .slice Ce Cg Cf, .slice Cb Cd Cc]) (H2) ∧ RV wz (.agg #[.bool Ct, .slice Cm Cs Cr, .slice Cj Cl Ck]) (mxR L1 L2) ∧ BoxR wz (w2.heap.size + 1) (mnR H1 H2))
    case first =>
     by_cases q16 : H2 < H1
     ·have Es : Ef < 0 := by have h := sq_lt H2 H1; rw [← Dp.out] at h; exact h.2 q16
      have Er := Lib.hid q16
      clear q16
      have Et : decide (Ef < 0) = true := decide_eq_true Es
      try simp only [Et]
      refine Bg.k3l fun El Em En Lv => ?_
      refine B7.k3fl fun Ba Bb Bc fu Lu => ?_
      go_wp2_with fail
      go_meet
      refine meetP (P := fun wz => Below w.heap.size w wz ∧ Bx wz (w.heap.size) 31 #[.int .i64 a.1, .int .i64 a.2] ∧ Bx wz (w.heap.size + 1) 31 #[.int .i64 b.1, .int .i64 b.2] ∧ Bx wz (w.heap.size + 1 + 1) 41 #[.int .i64 p.1, .int .i64 p.2, .int .i64 q.1, .int .i64 q.2] ∧ Bx wz (w4.heap.size) 53 #[.bool Bw, .slice Bq Bv Br, .slice Bn Bp Bo] ∧ Bx wz (w4.heap.size + 1) 53 #[.bool Ch, .slice Ce Cg Cf, .slice Cb Cd Cc] ∧ Bx wz (w2.heap.size) 53 #[.bool Ct, .slice Cm Cs Cr, .slice Cj Cl Ck] ∧ RV wz (.agg #[.bool Bw, .slice Bq Bv Br, .slice Bn Bp Bo]) (L2) ∧ RV wz (.agg #[.bool Ch, .slice Ce Cg Cf, .slice Cb Cd Cc]) (H2) ∧ RV wz (.agg #[.bool Ct, .slice Cm Cs Cr, .slice Cj Cl Ck]) (mxR L1 L2) ∧ BoxR wz (w2.heap.size + 1) (mnR H1 H2)) ?_
      clear El Em En Ba Bb Bc fu Lv Lu
      intro w8 hW
      have hG : Gr [w2.heap.size + 1] w7 w8 := by rw [hW]; exact (Gr.refl _ _).set.set.set
      have Ca := hs.size
      have lu := B7.lt
      have hk := hG.keep ⟨⟨_, B7.ty, by decide⟩, True.intro⟩
      have Ja : Bx w8 (w2.heap.size + 1) 53 #[.bool Ch, .slice Ce Cg Cf, .slice Cb Cd Cc] := by rw [hW]; exact B7.set3
      replace hs := hs.trans (hG.d1 hs.size)
      replace B4 := hG.b1 B4
      replace B3 := hG.b1 B3
      replace B9 := hG.b1 B9
      replace Bi := hG.b1 Bi
      replace Bg := hG.b1 Bg
      replace B8 := hG.b1 B8
      replace B7 := Ja
      clear Ja
      revert Bj; revert Bh; revert h9; revert h5; refine ke hk ?_; intro h5 h9 Bh Bj
      clear hW hG hk Ca lu
      exact ⟨hs, B4, B3, B9, Bi, Bg, B8, h9, Bh, Bj, ⟨_, _, _, _, _, _, _, B7, (Bh.of_eq (show _ = mnR _ _ from (if_pos Er.out).symm))⟩⟩
     have Es : ¬ (Ef < 0) := by have h := sq_lt H2 H1; rw [← Dp.out] at h; exact fun h1 => q16 (h.1 h1)
     have Er := Lib.hid q16
     clear q16
     have Et : decide (Ef < 0) = false := decide_eq_false Es
     try simp only [Et]
     go_wp2_with fail
     go_meet
     exact ⟨hs, B4, B3, B9, Bi, Bg, B8, h9, Bh, Bj, ⟨_, _, _, _, _, _, _, B7, (h5.of_eq (show _ = mnR _ _ from (if_neg Er.out).symm))⟩⟩
    case rest =>
     clear hs B4 B3 B9 Bi Bg B8 h9 Bh Bj
     obtain ⟨hs, B4, B3, B9, Bi, Bg, B8, h9, Bh, Bj, ⟨Da, D7, D9, D8, D3, D6, D4, B7, Bz⟩⟩ := hcut
     go_upto_region 9 with fail
     obtain ⟨Eg, D5⟩ : ∃ s : Int, s = sgQ ((mxR L1 L2) - (mnR H1 H2)) := ⟨_, rfl⟩
     replace D5 := Lib.hid D5
     by_cases q18 : mxR L1 L2 < mnR H1 H2
     ·have Ev : Eg < 0 := by have h := sq_lt (mxR L1 L2) (mnR H1 H2); rw [← D5.out] at h; exact h.2 q18
      have Eu := Lib.hid q18
      clear q18
      have q18d : decide (Eg < 0) = true := decide_eq_true Ev
      obtain ⟨Eh, Dk⟩ : ∃ s : Int, s = sgQ ((mxR L1 L2) - (((1 : Int) : Rat))) := ⟨_, rfl⟩
      replace Dk := Lib.hid Dk
      by_cases q21 : mxR L1 L2 < ((1 : Int) : Rat)
      ·have Ex : Eh < 0 := by have h := sq_lt (mxR L1 L2) (((1 : Int) : Rat)); rw [← Dk.out] at h; exact h.2 q21
       have Ew := Lib.hid q21
       clear q21
       have q21d : decide (Eh < 0) = true := decide_eq_true Ex
       obtain ⟨Ei, Dq⟩ : ∃ s : Int, s = sgQ (mnR H1 H2) := ⟨_, rfl⟩
       replace Dq := Lib.hid Dq
       refine U_region (S := fun w' => w'.cell? ⟨w2.heap.size, 0, none⟩ = some (.bool Ct) ∧ w'.cell? ⟨w2.heap.size, 1, none⟩ = some (.slice Cm Cs Cr) ∧ w'.cell? ⟨w2.heap.size, 2, none⟩ = some (.slice Cj Cl Ck) ∧ w'.cell? ⟨w2.heap.size + 1, 0, none⟩ = some (.bool Da) ∧ w'.cell? ⟨w2.heap.size + 1, 1, none⟩ = some (.slice D7 D9 D8) ∧ w'.cell? ⟨w2.heap.size + 1, 2, none⟩ = some (.slice D3 D6 D4)) (by kernel_rfl) 16 ?_
       refine AnyU.abs ?_
       intro w8 hW
       have hb : Below wc.heap.size wc w8 := by rw [hW]; exact bDrew _
       replace hs := bStep hs hb
       revert Bz; revert Bj; revert Bh; revert h9; revert B7; revert B8; revert Bg; revert Bi; revert B9; revert B3; revert B4; refine mo hb ?_; intro B4 B3 B9 Bi Bg B8 B7 h9 Bh Bj Bz
       clear hb hW
       refine B8.k3 fun Bd Be Bf => ?_
       refine B7.k3 fun Ba Bb Bc => ?_
       have hH := (show w8.cell? ⟨w2.heap.size, 0, none⟩ = some (.bool Ct) ∧ w8.cell? ⟨w2.heap.size, 1, none⟩ = some (.slice Cm Cs Cr) ∧ w8.cell? ⟨w2.heap.size, 2, none⟩ = some (.slice Cj Cl Ck) ∧ w8.cell? ⟨w2.heap.size + 1, 0, none⟩ = some (.bool Da) ∧ w8.cell? ⟨w2.heap.size + 1, 1, none⟩ = some (.slice D7 D9 D8) ∧ w8.cell? ⟨w2.heap.size + 1, 2, none⟩ = some (.slice D3 D6 D4) from ⟨Bd, Be, Bf, Ba, Bb, Bc⟩)
       refine U_tq 0 77 hH ?_
       simp only [LY]
       refine U_tq 1 78 hH ?_
       simp only [LY]
       clear hH
       refine U_on 2 fun K hK => ?_
       go_simp
       (with_reducible refine (rCmp Bj Bz (SzQ.fit (mx_sz Ec.out Ed.out)) (SzQ.fit (mn_sz J1.out J2.out))).mono ?_)
       rintro e w9 ⟨rfl, hb⟩
       replace hs := bStep hs hb
       revert Bz; revert Bj; revert Bh; revert h9; revert B7; revert B8; revert Bg; revert Bi; revert B9; revert B3; revert B4; refine mo hb ?_; intro B4 B3 B9 Bi Bg B8 B7 h9 Bh Bj Bz
       replace Bd := cellK Bd hb
       replace Be := cellK Be hb
       replace Bf := cellK Bf hb
       replace Ba := cellK Ba hb
       replace Bb := cellK Bb hb
       replace Bc := cellK Bc hb
       clear hb
       rw [← D5.out]
       try go_wp2_with fail
       refine hK.out _ _ ⟨Bd, Be, Bf, Ba, Bb, Bc⟩ (fun hH => ?_)
       clear hK K
       try simp only [LY]
       refine U_tq 3 80 hH ?_
       simp only [LY]
       refine U_tq 4 81 hH ?_
       simp only [LY]
       refine U_tq 5 82 hH ?_
       simp only [LY]
       clear hH
       refine U_on 6 fun K hK => ?_
       go_simp
       (with_reducible refine (r_Int_calls (1) _ (by decide) (by decide)).mono ?_)
       rintro e C0 ⟨_, rfl, Dh, hb⟩
       obtain ⟨sh19, ah19, nh19, ch19, Ah19, Nh19, Ch19, rfl⟩ := Dh.shape
       replace hs := bStep hs hb
       revert Bz; revert Bj; revert Bh; revert h9; revert B7; revert B8; revert Bg; revert Bi; revert B9; revert B3; revert B4; refine mo hb ?_; intro B4 B3 B9 Bi Bg B8 B7 h9 Bh Bj Bz
       replace Bd := cellK Bd hb
       replace Be := cellK Be hb
       replace Bf := cellK Bf hb
       replace Ba := cellK Ba hb
       replace Bb := cellK Bb hb
       replace Bc := cellK Bc hb
       clear hb
       try go_wp2_with fail
       refine hK.out _ _ ⟨Bd, Be, Bf, Ba, Bb, Bc⟩ (fun hH => ?_)
       clear hK K
       try simp only [LY]
       clear hH
       refine U_on 7 fun K hK => ?_
       go_simp
       (with_reducible refine (rCmp Bj Dh (SzQ.fit (mx_sz Ec.out Ed.out)) (SzQ.fit (szN (n := 1) (Wn.lit (by decide) (by decide))))).mono ?_)
       rintro e C9 ⟨rfl, hb⟩
       replace hs := bStep hs hb
       revert Dh; revert Bz; revert Bj; revert Bh; revert h9; revert B7; revert B8; revert Bg; revert Bi; revert B9; revert B3; revert B4; refine mo hb ?_; intro B4 B3 B9 Bi Bg B8 B7 h9 Bh Bj Bz Dh
       replace Bd := cellK Bd hb
       replace Be := cellK Be hb
       replace Bf := cellK Bf hb
       replace Ba := cellK Ba hb
       replace Bb := cellK Bb hb
       replace Bc := cellK Bc hb
       clear hb
       rw [← Dk.out]
       try go_wp2_with fail
       refine hK.out _ _ ⟨Bd, Be, Bf, Ba, Bb, Bc⟩ (fun hH => ?_)
       clear hK K
       try simp only [LY]
       refine U_tq 8 85 hH ?_
       simp only [LY]
       refine U_tq 9 86 hH ?_
       simp only [LY]
       refine U_tq 10 87 hH ?_
       simp only [LY]
       refine U_tq 11 88 hH ?_
       simp only [LY]
       clear hH
       refine U_on 12 fun K hK => ?_
       go_simp
       (with_reducible refine (rSign Bz).mono ?_)
       rintro e w12 ⟨rfl, hb⟩
       replace hs := bStep hs hb
       revert Dh; revert Bz; revert Bj; revert Bh; revert h9; revert B7; revert B8; revert Bg; revert Bi; revert B9; revert B3; revert B4; refine mo hb ?_; intro B4 B3 B9 Bi Bg B8 B7 h9 Bh Bj Bz Dh
       replace Bd := cellK Bd hb
       replace Be := cellK Be hb
       replace Bf := cellK Bf hb
       replace Ba := cellK Ba hb
       replace Bb := cellK Bb hb
       replace Bc := cellK Bc hb
       clear hb
       rw [← Dq.out]
       try go_wp2_with fail
       refine hK.out _ _ ⟨Bd, Be, Bf, Ba, Bb, Bc⟩ (fun hH => ?_)
       clear hK K
       try simp only [LY]
       refine U_tq 13 90 hH ?_
       simp only [LY]
       refine U_tq 14 91 hH ?_
       simp only [LY]
       refine U_tq 15 10 hH ?_
       simp only [LY]
       clear hH
       refine U_endN (by kernel_rfl) ?_
       clear Bd Be Bf Ba Bb Bc
       by_cases q23 : 0 < mnR H1 H2
       ·have Ez : 0 < Ei := by have h := s1_pos (mnR H1 H2); rw [← Dq.out] at h; exact h.2 q23
        have Ey := Lib.hid q23
        clear q23
        have J0 : decide (0 < Ei) = true := decide_eq_true Ez
        try simp only [J0]
        have Dl := Lib.hid (hr_fin (a := a) (b := b) (p := p) (q := q) (w := u) (h := v) (E1.out.symm.trans Dz.out) (E2.out.symm.trans E0.out) (F := mxR L1 L2) (T := mnR H1 H2) (by rw [E5.out, E6.out]) (by rw [E3.out, E4.out]))
        go_wp2
        go_ret
        exact ⟨by rw [show hitB a b u v (p, q) = true from Dl.out.2 ⟨Eu.out, Ew.out, Ey.out⟩]; rfl, hs⟩
       have Ez : ¬ (0 < Ei) := by have h := s1_pos (mnR H1 H2); rw [← Dq.out] at h; exact fun h1 => q23 (h.1 h1)
       have Ey := Lib.hid q23
       clear q23
       have J0 : decide (0 < Ei) = false := decide_eq_false Ez
       try simp only [J0]
       have Dl := Lib.hid (hr_fin (a := a) (b := b) (p := p) (q := q) (w := u) (h := v) (E1.out.symm.trans Dz.out) (E2.out.symm.trans E0.out) (F := mxR L1 L2) (T := mnR H1 H2) (by rw [E5.out, E6.out]) (by rw [E3.out, E4.out]))
       go_wp2
       go_ret
       exact ⟨by rw [show hitB a b u v (p, q) = false from Bool.eq_false_iff.2 (fun h => Ey.out (Dl.out.1 h).2.2)]; rfl, hs⟩
      have Ex : ¬ (Eh < 0) := by have h := sq_lt (mxR L1 L2) (((1 : Int) : Rat)); rw [← Dk.out] at h; exact fun h1 => q21 (h.1 h1)
      have Ew := Lib.hid q21
      clear q21
      have q21d : decide (Eh < 0) = false := decide_eq_false Ex
      refine U_region (S := fun w' => w'.cell? ⟨w2.heap.size, 0, none⟩ = some (.bool Ct) ∧ w'.cell? ⟨w2.heap.size, 1, none⟩ = some (.slice Cm Cs Cr) ∧ w'.cell? ⟨w2.heap.size, 2, none⟩ = some (.slice Cj Cl Ck) ∧ w'.cell? ⟨w2.heap.size + 1, 0, none⟩ = some (.bool Da) ∧ w'.cell? ⟨w2.heap.size + 1, 1, none⟩ = some (.slice D7 D9 D8) ∧ w'.cell? ⟨w2.heap.size + 1, 2, none⟩ = some (.slice D3 D6 D4)) (by kernel_rfl) 16 ?_
      refine AnyU.abs ?_
      intro w8 hW
      have hb : Below wc.heap.size wc w8 := by rw [hW]; exact bDrew _
      replace hs := bStep hs hb
      revert Bz; revert Bj; revert Bh; revert h9; revert B7; revert B8; revert Bg; revert Bi; revert B9; revert B3; revert B4; refine mo hb ?_; intro B4 B3 B9 Bi Bg B8 B7 h9 Bh Bj Bz
      clear hb hW
      refine B8.k3 fun Bd Be Bf => ?_
      refine B7.k3 fun Ba Bb Bc => ?_
      have hH := (show w8.cell? ⟨w2.heap.size, 0, none⟩ = some (.bool Ct) ∧ w8.cell? ⟨w2.heap.size, 1, none⟩ = some (.slice Cm Cs Cr) ∧ w8.cell? ⟨w2.heap.size, 2, none⟩ = some (.slice Cj Cl Ck) ∧ w8.cell? ⟨w2.heap.size + 1, 0, none⟩ = some (.bool Da) ∧ w8.cell? ⟨w2.heap.size + 1, 1, none⟩ = some (.slice D7 D9 D8) ∧ w8.cell? ⟨w2.heap.size + 1, 2, none⟩ = some (.slice D3 D6 D4) from ⟨Bd, Be, Bf, Ba, Bb, Bc⟩)
      refine U_tq 0 77 hH ?_
      simp only [LY]
      refine U_tq 1 78 hH ?_
      simp only [LY]
      clear hH
      refine U_on 2 fun K hK => ?_
      go_simp
      (with_reducible refine (rCmp Bj Bz (SzQ.fit (mx_sz Ec.out Ed.out)) (SzQ.fit (mn_sz J1.out J2.out))).mono ?_)
      rintro e w9 ⟨rfl, hb⟩
      replace hs := bStep hs hb
      revert Bz; revert Bj; revert Bh; revert h9; revert B7; revert B8; revert Bg; revert Bi; revert B9; revert B3; revert B4; refine mo hb ?_; intro B4 B3 B9 Bi Bg B8 B7 h9 Bh Bj Bz
      replace Bd := cellK Bd hb
      replace Be := cellK Be hb
      replace Bf := cellK Bf hb
      replace Ba := cellK Ba hb
      replace Bb := cellK Bb hb
      replace Bc := cellK Bc hb
      clear hb
      rw [← D5.out]
      try go_wp2_with fail
      refine hK.out _ _ ⟨Bd, Be, Bf, Ba, Bb, Bc⟩ (fun hH => ?_)
      clear hK K
      try simp only [LY]
      refine U_tq 3 80 hH ?_
      simp only [LY]
      refine U_tq 4 81 hH ?_
      simp only [LY]
      refine U_tq 5 82 hH ?_
      simp only [LY]
      clear hH
      refine U_on 6 fun K hK => ?_
      go_simp
      (with_reducible refine (r_Int_calls (1) _ (by decide) (by decide)).mono ?_)
      rintro e C0 ⟨_, rfl, Dh, hb⟩
      obtain ⟨sh19, ah19, nh19, ch19, Ah19, Nh19, Ch19, rfl⟩ := Dh.shape
      replace hs := bStep hs hb
      revert Bz; revert Bj; revert Bh; revert h9; revert B7; revert B8; revert Bg; revert Bi; revert B9; revert B3; revert B4; refine mo hb ?_; intro B4 B3 B9 Bi Bg B8 B7 h9 Bh Bj Bz
      replace Bd := cellK Bd hb
      replace Be := cellK Be hb
      replace Bf := cellK Bf hb
      replace Ba := cellK Ba hb
      replace Bb := cellK Bb hb
      replace Bc := cellK Bc hb
      clear hb
      try go_wp2_with fail
      refine hK.out _ _ ⟨Bd, Be, Bf, Ba, Bb, Bc⟩ (fun hH => ?_)
      clear hK K
      try simp only [LY]
      clear hH
      refine U_on 7 fun K hK => ?_
      go_simp
      (with_reducible refine (rCmp Bj Dh (SzQ.fit (mx_sz Ec.out Ed.out)) (SzQ.fit (szN (n := 1) (Wn.lit (by decide) (by decide))))).mono ?_)
      rintro e C9 ⟨rfl, hb⟩
      replace hs := bStep hs hb
      revert Dh; revert Bz; revert Bj; revert Bh; revert h9; revert B7; revert B8; revert Bg; revert Bi; revert B9; revert B3; revert B4; refine mo hb ?_; intro B4 B3 B9 Bi Bg B8 B7 h9 Bh Bj Bz Dh
      replace Bd := cellK Bd hb
      replace Be := cellK Be hb
      replace Bf := cellK Bf hb
      replace Ba := cellK Ba hb
      replace Bb := cellK Bb hb
      replace Bc := cellK Bc hb
      clear hb
      rw [← Dk.out]
      try go_wp2_with fail
      refine hK.out _ _ ⟨Bd, Be, Bf, Ba, Bb, Bc⟩ (fun hH => ?_)
      clear hK K
      try simp only [LY]
      refine U_tq 8 85 hH ?_
      simp only [LY]
      refine U_tq 9 86 hH ?_
      simp only [LY]
      refine U_tq 10 87 hH ?_
      simp only [LY]
      refine U_tu 11 88 hH ?_
      simp only [LY]
      clear hH
      refine U_on 12 fun K hK => ?_
      go_simp
      refine hK.out _ _ ⟨Bd, Be, Bf, Ba, Bb, Bc⟩ (fun hH => ?_)
      clear hK K
      try simp only [LY]
      refine U_tu 13 90 hH ?_
      simp only [LY]
      refine U_tq 14 91 hH ?_
      simp only [LY]
      refine U_tq 15 10 hH ?_
      simp only [LY]
      clear hH
      refine U_endN (by kernel_rfl) ?_
      clear Bd Be Bf Ba Bb Bc
      have Dl := Lib.hid (hr_fin (a := a) (b := b) (p := p) (q := q) (w := u) (h := v) (E1.out.symm.trans Dz.out) (E2.out.symm.trans E0.out) (F := mxR L1 L2) (T := mnR H1 H2) (by rw [E5.out, E6.out]) (by rw [E3.out, E4.out]))
      go_wp2
      go_ret
      exact ⟨by rw [show hitB a b u v (p, q) = false from Bool.eq_false_iff.2 (fun h => Ew.out (Dl.out.1 h).2.1)]; rfl, hs⟩
     have Ev : ¬ (Eg < 0) := by have h := sq_lt (mxR L1 L2) (mnR H1 H2); rw [← D5.out] at h; exact fun h1 => q18 (h.1 h1)
     have Eu := Lib.hid q18
     clear q18
     have q18d : decide (Eg < 0) = false := decide_eq_false Ev
     refine U_region (S := fun w' => w'.cell? ⟨w2.heap.size, 0, none⟩ = some (.bool Ct) ∧ w'.cell? ⟨w2.heap.size, 1, none⟩ = some (.slice Cm Cs Cr) ∧ w'.cell? ⟨w2.heap.size, 2, none⟩ = some (.slice Cj Cl Ck) ∧ w'.cell? ⟨w2.heap.size + 1, 0, none⟩ = some (.bool Da) ∧ w'.cell? ⟨w2.heap.size + 1, 1, none⟩ = some (.slice D7 D9 D8) ∧ w'.cell? ⟨w2.heap.size + 1, 2, none⟩ = some (.slice D3 D6 D4)) (by kernel_rfl) 16 ?_
     refine AnyU.abs ?_
     intro w8 hW
     have hb : Below wc.heap.size wc w8 := by rw [hW]; exact bDrew _
     replace hs := bStep hs hb
     revert Bz; revert Bj; revert Bh; revert h9; revert B7; revert B8; revert Bg; revert Bi; revert B9; revert B3; revert B4; refine mo hb ?_; intro B4 B3 B9 Bi Bg B8 B7 h9 Bh Bj Bz
     clear hb hW
     refine B8.k3 fun Bd Be Bf => ?_
     refine B7.k3 fun Ba Bb Bc => ?_
     have hH := (show w8.cell? ⟨w2.heap.size, 0, none⟩ = some (.bool Ct) ∧ w8.cell? ⟨w2.heap.size, 1, none⟩ = some (.slice Cm Cs Cr) ∧ w8.cell? ⟨w2.heap.size, 2, none⟩ = some (.slice Cj Cl Ck) ∧ w8.cell? ⟨w2.heap.size + 1, 0, none⟩ = some (.bool Da) ∧ w8.cell? ⟨w2.heap.size + 1, 1, none⟩ = some (.slice D7 D9 D8) ∧ w8.cell? ⟨w2.heap.size + 1, 2, none⟩ = some (.slice D3 D6 D4) from ⟨Bd, Be, Bf, Ba, Bb, Bc⟩)
     refine U_tq 0 77 hH ?_
     simp only [LY]
     refine U_tq 1 78 hH ?_
     simp only [LY]
     clear hH
     refine U_on 2 fun K hK => ?_
     go_simp
     (with_reducible refine (rCmp Bj Bz (SzQ.fit (mx_sz Ec.out Ed.out)) (SzQ.fit (mn_sz J1.out J2.out))).mono ?_)
     rintro e w9 ⟨rfl, hb⟩
     replace hs := bStep hs hb
     revert Bz; revert Bj; revert Bh; revert h9; revert B7; revert B8; revert Bg; revert Bi; revert B9; revert B3; revert B4; refine mo hb ?_; intro B4 B3 B9 Bi Bg B8 B7 h9 Bh Bj Bz
     replace Bd := cellK Bd hb
     replace Be := cellK Be hb
     replace Bf := cellK Bf hb
     replace Ba := cellK Ba hb
     replace Bb := cellK Bb hb
     replace Bc := cellK Bc hb
     clear hb
     rw [← D5.out]
     try go_wp2_with fail
     refine hK.out _ _ ⟨Bd, Be, Bf, Ba, Bb, Bc⟩ (fun hH => ?_)
     clear hK K
     try simp only [LY]
     refine U_tq 3 80 hH ?_
     simp only [LY]
     refine U_tq 4 81 hH ?_
     simp only [LY]
     refine U_tu 5 82 hH ?_
     simp only [LY]
     clear hH
     refine U_on 6 fun K hK => ?_
     go_simp
     refine hK.out _ _ ⟨Bd, Be, Bf, Ba, Bb, Bc⟩ (fun hH => ?_)
     clear hK K
     try simp only [LY]
     clear hH
     refine U_on 7 fun K hK => ?_
     go_simp
     refine hK.out _ _ ⟨Bd, Be, Bf, Ba, Bb, Bc⟩ (fun hH => ?_)
     clear hK K
     try simp only [LY]
     refine U_tu 8 85 hH ?_
     simp only [LY]
     refine U_tq 9 86 hH ?_
     simp only [LY]
     refine U_tq 10 87 hH ?_
     simp only [LY]
     refine U_tu 11 88 hH ?_
     simp only [LY]
     clear hH
     refine U_on 12 fun K hK => ?_
     go_simp
     refine hK.out _ _ ⟨Bd, Be, Bf, Ba, Bb, Bc⟩ (fun hH => ?_)
     clear hK K
     try simp only [LY]
     refine U_tu 13 90 hH ?_
     simp only [LY]
     refine U_tq 14 91 hH ?_
     simp only [LY]
     refine U_tq 15 10 hH ?_
     simp only [LY]
     clear hH
     refine U_endN (by kernel_rfl) ?_
     clear Bd Be Bf Ba Bb Bc
     have Dl := Lib.hid (hr_fin (a := a) (b := b) (p := p) (q := q) (w := u) (h := v) (E1.out.symm.trans Dz.out) (E2.out.symm.trans E0.out) (F := mxR L1 L2) (T := mnR H1 H2) (by rw [E5.out, E6.out]) (by rw [E3.out, E4.out]))
     go_wp2
     go_ret
     exact ⟨by rw [show hitB a b u v (p, q) = false from Bool.eq_false_iff.2 (fun h => Eu.out (Dl.out.1 h).1)]; rfl, hs⟩
  obtain rfl : rb2 = false := by rw [E9.out]; simpa using q12
  have E0 := Lib.hid q12
  clear q12
  go_wp2
  refine bodyPost.abs ?_
  intro w5 hW
  have hG : Gr [] w4 w5 := by rw [hW]; exact (Gr.refl _ _).alloc.alloc
  have J9 := hs.size
  have J4 := B4.lt
  have J5 := B3.lt
  have J6 := B9.lt
  have J8 := B8.lt
  have J7 := B7.lt
  have Bi : Bx w5 (w4.heap.size) 53 #[.bool Bw, .slice Bq Bv Br, .slice Bn Bp Bo] := by rw [hW]; exact ((Bx.new0 _ _ _).alloc _)
  have Bg : Bx w5 (w4.heap.size + 1) 53 #[.bool Ch, .slice Ce Cg Cf, .slice Cb Cd Cc] := by rw [hW]; exact (Bx.new0 _ _ _)
  replace hs := hs.trans (hG.below0 hs.size)
  revert Bh; revert h9; revert h5; revert h4; revert B7; revert B8; revert B9; revert B3; revert B4; refine g0 hG ?_; intro B4 B3 B9 B8 B7 h4 h5 h9 Bh
  clear hW hG
  have J3 := Bg.lt
  go_ret
  exact ⟨by rw [show hitB a b u v (p, q) = false from hr_no2 (E2.out.symm.trans (Bool.eq_false_iff.2 E0.out))]; rfl, hs⟩
 obtain rfl : rb1 = false := by rw [E8.out]; simpa using q11
 have Dz := Lib.hid q11
 clear q11
 go_wp2
 refine bodyPost.abs ?_
 intro w5 hW
 have hG : Gr [] w4 w5 := by rw [hW]; exact (Gr.refl _ _).alloc.alloc
 have J9 := hs.size
 have J4 := B4.lt
 have J5 := B3.lt
 have J6 := B9.lt
 have J8 := B8.lt
 have J7 := B7.lt
 have Bi : Bx w5 (w4.heap.size) 53 #[.bool Bw, .slice Bq Bv Br, .slice Bn Bp Bo] := by rw [hW]; exact ((Bx.new0 _ _ _).alloc _)
 have Bg : Bx w5 (w4.heap.size + 1) 53 #[.bool Ch, .slice Ce Cg Cf, .slice Cb Cd Cc] := by rw [hW]; exact (Bx.new0 _ _ _)
 replace hs := hs.trans (hG.below0 hs.size)
 revert Bh; revert h9; revert h5; revert h4; revert B7; revert B8; revert B9; revert B3; revert B4; refine g0 hG ?_; intro B4 B3 B9 B8 B7 h4 h5 h9 Bh
 clear hW hG
 have J3 := Bg.lt
 go_ret
 exact ⟨by rw [show hitB a b u v (p, q) = false from hr_no1 (E1.out.symm.trans (Bool.eq_false_iff.2 Dz.out))]; rfl, hs⟩
end Go.Proofs.YtbnomdlojmgigaaGreat
