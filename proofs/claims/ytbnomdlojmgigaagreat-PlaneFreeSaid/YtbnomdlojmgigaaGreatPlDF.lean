/-
  plane: fractions of coordinates; an edge's ends, its height at a place.
-/
import Derived.Test.YtbnomdlojmgigaaGreatPlAF
import Derived.Test.YtbnomdlojmgigaaGreatPkB15F
set_option linter.unusedSimpArgs false
set_option linter.unusedVariables false
set_option maxRecDepth 100000
set_option maxHeartbeats 4000000
namespace Go.Proofs.YtbnomdlojmgigaaGreat
open Go.RowKit Dg
attribute [local go_sem ↓] Go.wp_at_zero Go.wp_at_succ
theorem szN {n : Int} (h : Wn 4294967295 n) : SzQ 1 (n : Rat) := szQ_int (by have := h.1; have := h.2; omega)
theorem szN2 {n : Int} (h : Wn 9223372036854775807 n) : SzQ 2 (n : Rat) := by
 have h1 := h.1; have h2 := h.2
 refine ⟨?_, ?_⟩
 ·rw [Rat.num_intCast]; show n.natAbs < 4294967296 ^ 2; omega
 rw [Rat.den_intCast]; decide
theorem szD {n d : Int} (h : Wn 9223372036854775807 n) (k : Wn 9223372036854775807 d) (hd : d ≠ 0) : SzQ 4 ((n : Rat) / (d : Rat)) := SzQ.div (szN2 h) (szN2 k) (fun e => hd (Rat.intCast_eq_zero_iff.1 e))
theorem pl_num (n : Int) (w : World) (h : Wn 9223372036854775807 n) :
  Calls Tryz.prog 72 #[.int .i64 n] w (RetP w (n : Rat)) := by
 have hs := Below.refl w.heap.size w
 go_enter Tryz.func72, Tryz.ntmps72
 go_wp2_with fail
 refine Calls.abs ?_
 intro w1 hW
 have hG : Gr [] w w1 := by rw [hW]; exact (Gr.refl _ _).alloc
 have Bg := hs.size
 have Blk : Bx w1 (w.heap.size) 35 #[.bool false, .slice none 0 0, .slice none 0 0] := by rw [hW]; exact (Bx.new0 _ _ _)
 replace hs := hs.trans (hG.below0 hs.size)
 clear hW hG
 have Bf := Blk.lt
 with_reducible refine (p_Int_calls n _ (h.lo64 (by decide)) (h.hi (by decide))).mono ?_
 rintro e w2 ⟨_, rfl, h1, hb⟩
 obtain ⟨Bb, B8, Ba, B9, B5, B7, B6, rfl⟩ := h1.shape
 revert Blk; refine mS hs hb ?_; clear hs hb; intro hs Blk
 refine Blk.k3fl fun B2 B3 B4 fk Lk => ?_
 go_wp2
 clear B2 B3 B4 fk Lk
 refine bodyPost.abs ?_
 intro w3 hW
 have hG : Gr [w.heap.size] w2 w3 := by rw [hW]; exact (Gr.refl _ _).set.set.set
 have hsz := hs.size
 have lk := Blk.lt
 have hk := hG.keep ⟨⟨_, Blk.ty, by decide⟩, True.intro⟩
 have Bc : Bx w3 (w.heap.size) 35 #[.bool Bb, .slice B8 Ba B9, .slice B5 B7 B6] := by rw [hW]; exact Blk.set3
 replace hs := hs.trans (hG.d1 hs.size)
 replace Blk := Bc
 clear Bc
 replace h1 := h1.keep hk
 clear hW hG hk hsz lk
 refine Blk.k3 fun B2 B3 B4 => ?_
 exact bodyPost_ret (v := .agg #[.bool Bb, .slice B8 Ba B9, .slice B5 B7 B6]) (by simp [results, Tryz.results72, go_sem, B2, B3, B4]) rfl ⟨_, rfl, h1, hs⟩
theorem pl_over (n d : Int) (w : World) (h : Wn 9223372036854775807 n) (k : Wn 9223372036854775807 d) (hd : d ≠ 0) :
  Calls Tryz.prog 112 #[.int .i64 n, .int .i64 d] w (RetP w ((n : Rat) / (d : Rat))) := by
 have hs := Below.refl w.heap.size w
 go_enter Tryz.func112, Tryz.ntmps112
 go_wp2_with fail
 refine Calls.abs ?_
 intro w1 hW
 have hG : Gr [] w w1 := by rw [hW]; exact (Gr.refl _ _).alloc
 have Bg := hs.size
 have Blk : Bx w1 (w.heap.size) 35 #[.bool false, .slice none 0 0, .slice none 0 0] := by rw [hW]; exact (Bx.new0 _ _ _)
 replace hs := hs.trans (hG.below0 hs.size)
 clear hW hG
 have Bf := Blk.lt
 with_reducible refine (p_New_calls n d _ (h.lo64 (by decide)) (h.hi (by decide)) (k.lo64 (by decide)) (k.hi (by decide)) hd).mono ?_
 rintro e w2 ⟨_, rfl, h1, hb⟩
 obtain ⟨Bb, B8, Ba, B9, B5, B7, B6, rfl⟩ := h1.shape
 revert Blk; refine mS hs hb ?_; clear hs hb; intro hs Blk
 go_upto_region 2 with fail
 refine Code.abs ?_
 intro w3 hW
 have hG : Gr [] w2 w3 := by rw [hW]; exact (Gr.refl _ _).alloc
 have sz_w3 := hs.size
 have nk_w3 := Blk.lt
 have Be : Bx w3 (w2.heap.size) 35 #[.bool Bb, .slice B8 Ba B9, .slice B5 B7 B6] := by rw [hW]; exact (Bx.new0 _ _ _)
 replace hs := hs.trans (hG.below0 hs.size)
 revert h1; revert Blk; refine g0 hG ?_; intro Blk h1
 clear hW hG
 have hz_w3 := Be.lt
 refine Be.k3l fun Bl Bm Bn Lx => ?_
 refine Blk.k3fl fun B2 B3 B4 fk Lk => ?_
 go_wp2
 clear Bl Bm Bn B2 B3 B4 fk Lx Lk
 refine bodyPost.abs ?_
 intro w4 hW
 have hG : Gr [w.heap.size] w3 w4 := by rw [hW]; exact (Gr.refl _ _).set.set.set
 have hsz := hs.size
 have lk := Blk.lt
 have hk := hG.keep ⟨⟨_, Blk.ty, by decide⟩, True.intro⟩
 have Bc : Bx w4 (w.heap.size) 35 #[.bool Bb, .slice B8 Ba B9, .slice B5 B7 B6] := by rw [hW]; exact Blk.set3
 replace hs := hs.trans (hG.d1 hs.size)
 replace Be := hG.b1 Be
 replace Blk := Bc
 clear Bc
 replace h1 := h1.keep hk
 clear hW hG hk hsz lk
 refine Blk.k3 fun B2 B3 B4 => ?_
 exact bodyPost_ret (v := .agg #[.bool Bb, .slice B8 Ba B9, .slice B5 B7 B6]) (by simp [results, Tryz.results112, go_sem, B2, B3, B4]) rfl ⟨_, rfl, h1, hs⟩
theorem ed_ends (a b : Pt) (w : World)  :
  Calls Tryz.prog 156 #[.agg #[.int .i64 a.1, .int .i64 a.2, .int .i64 b.1, .int .i64 b.2]] w (RetV w (.tuple #[.int .i64 (min a.1 b.1), .int .i64 (max a.1 b.1)])) := by
 have hs := Below.refl w.heap.size w
 go_enter Tryz.func156, Tryz.ntmps156
 go_upto_region 1 with fail
 refine Code.abs ?_
 intro w1 hW
 have hG : Gr [] w w1 := by rw [hW]; exact (Gr.refl _ _).alloc
 have Bg := hs.size
 have Bd : Bx w1 (w.heap.size) 89 #[.int .i64 a.1, .int .i64 a.2, .int .i64 b.1, .int .i64 b.2] := by rw [hW]; exact (Bx.new0 _ _ _)
 replace hs := hs.trans (hG.below0 hs.size)
 clear hW hG
 have Bf := Bd.lt
 refine U_region (S := fun w' => w'.cell? ⟨w.heap.size, 0, none⟩ = some (.int .i64 a.1) ∧ w'.cell? ⟨w.heap.size, 1, none⟩ = some (.int .i64 a.2) ∧ w'.cell? ⟨w.heap.size, 2, none⟩ = some (.int .i64 b.1) ∧ w'.cell? ⟨w.heap.size, 3, none⟩ = some (.int .i64 b.2)) (by kernel_rfl) 16 ?_
 refine AnyU.abs ?_
 intro w2 hW
 have hb : Below w1.heap.size w1 w2 := by rw [hW]; exact bDrew _
 replace hs := bStep hs hb
 replace Bd := Bd.mono hb
 clear hb hW
 refine Bd.k4 fun Bh Bi Bj Bk => ?_
 have hH := (show w2.cell? ⟨w.heap.size, 0, none⟩ = some (.int .i64 a.1) ∧ w2.cell? ⟨w.heap.size, 1, none⟩ = some (.int .i64 a.2) ∧ w2.cell? ⟨w.heap.size, 2, none⟩ = some (.int .i64 b.1) ∧ w2.cell? ⟨w.heap.size, 3, none⟩ = some (.int .i64 b.2) from ⟨Bh, Bi, Bj, Bk⟩)
 refine U_tq 0 4 hH ?_
 simp only [LY]
 refine U_tq 1 5 hH ?_
 simp only [LY]
 refine U_tq 2 6 hH ?_
 simp only [LY]
 refine U_tq 3 7 hH ?_
 simp only [LY]
 refine U_tq 4 8 hH ?_
 simp only [LY]
 refine U_tq 5 9 hH ?_
 simp only [LY]
 refine U_tq 6 10 hH ?_
 simp only [LY]
 refine U_tq 7 11 hH ?_
 simp only [LY]
 refine U_tq 8 12 hH ?_
 simp only [LY]
 refine U_tq 9 13 hH ?_
 simp only [LY]
 refine U_tq 10 14 hH ?_
 simp only [LY]
 refine U_tq 11 15 hH ?_
 simp only [LY]
 refine U_tq 12 16 hH ?_
 simp only [LY]
 refine U_tq 13 17 hH ?_
 simp only [LY]
 refine U_tq 14 2 hH ?_
 simp only [LY]
 refine U_tq 15 3 hH ?_
 simp only [LY]
 clear hH
 refine U_endN (by kernel_rfl) ?_
 clear Bh Bi Bj Bk
 go_wp2
 go_ret2
 exact ⟨rfl, hs⟩
end Go.Proofs.YtbnomdlojmgigaaGreat
