/-
  Reference 08: Mean, Outlier.
-/
import Derived.Test.YtlmemilmhdhgbaaGreatQnt3O
import Derived.Test.YtlmemilmhdhgbaaGreatPkQntBO
set_option linter.unusedSimpArgs false
set_option linter.unusedVariables false
set_option maxRecDepth 100000
set_option maxHeartbeats 8000000
namespace Go.Proofs.YtlmemilmhdhgbaaGreat
open Go.RowKit Dg
attribute [local go_sem ↓] Go.wp_at_zero Go.wp_at_succ
theorem rq_square (vx : Value) (x : Rat) (w : World) (hx : RV w vx x) (sx : Mid x) :
  Calls Tryz.prog 46 #[vx] w (RetQ w (x * x)) := by
 obtain ⟨shx, ahx, nhx, chx, Ahx, Nhx, Chx, rfl⟩ := hx.shape
 have hs := Below.refl w.heap.size w
 go_enter Tryz.func46, Tryz.ntmps46
 go_wp2_with fail
 refine Calls.abs ?_
 intro w1 hW
 have hG : Gr [] w w1 := by rw [hW]; exact (Gr.refl _ _).alloc.alloc
 have Bk : Below w.heap.size w w1 := hG.below0 hs.size
 have hk : KeepD w w1 := hG.keep True.intro
 have Eg : w.heap.size ≤ w.heap.size := hs.size
 have Jb : Bx w1 (w.heap.size) 41 #[.bool shx, .slice ahx nhx chx, .slice Ahx Nhx Chx] := by rw [hW]; exact ((Bx.new0 _ _ _).alloc _)
 have Blk : Bx w1 (w.heap.size + 1) 41 #[.bool false, .slice none 0 0, .slice none 0 0] := by rw [hW]; exact (Bx.new0 _ _ _)
 replace hs := hs.trans Bk
 replace hx := hx.keep hk
 clear hW hG hk Bk
 have Ec : w.heap.size + 1 < w1.heap.size := Blk.lt
 with_reducible refine (rMul hx hx (SzQ.fit sx) (SzQ.fit sx)).mono ?_
 rintro e w2 ⟨_, rfl, h1, hb⟩
 obtain ⟨Cz, Cv, Cy, Cw, Cs, Cu, Ct, rfl⟩ := h1.shape
 replace hs := bStep hs hb
 replace Jb := Jb.mono hb
 replace Blk := Blk.mono hb
 replace hx := hx.mono hb
 clear hb
 have Db : w2.cell? ⟨w.heap.size + 1, 0, none⟩ = some (.bool false) := Blk.at 0 rfl
 have Dc : w2.cell? ⟨w.heap.size + 1, 1, none⟩ = some (.slice none 0 0) := Blk.at 1 rfl
 have Dd : w2.cell? ⟨w.heap.size + 1, 2, none⟩ = some (.slice none 0 0) := Blk.at 2 rfl
 have fk := Blk.free
 have Lk : w.heap.size + 1 < w2.heap.size := Blk.lt
 go_wp2
 clear Db Dc Dd fk Lk
 refine bodyPost.abs ?_
 intro w3 hW
 have hG : Gr [w.heap.size + 1] w2 w3 := by rw [hW]; exact (Gr.refl _ _).set.set.set
 have Cx := hs.size
 have lk := Blk.lt
 have Bk : Below w.heap.size w2 w3 := hG.below1 hs.size (by first | omega | assumption)
 have hk : KeepD w2 w3 := hG.keep ⟨⟨_, Blk.ty, by decide⟩, True.intro⟩
 have Dr : Bx w3 (w.heap.size + 1) 41 #[.bool Cz, .slice Cv Cy Cw, .slice Cs Cu Ct] := by rw [hW]; exact Blk.set3
 replace hs := hs.trans Bk
 replace Jb := hG.bx Jb (notMem1 (by omega))
 replace Blk := Dr
 clear Dr
 replace hx := hx.keep hk
 replace h1 := h1.keep hk
 clear hW hG hk Bk Cx lk
 have Db : w3.cell? ⟨w.heap.size + 1, 0, none⟩ = some (.bool Cz) := Blk.at 0 rfl
 have Dc : w3.cell? ⟨w.heap.size + 1, 1, none⟩ = some (.slice Cv Cy Cw) := Blk.at 1 rfl
 have Dd : w3.cell? ⟨w.heap.size + 1, 2, none⟩ = some (.slice Cs Cu Ct) := Blk.at 2 rfl
 exact bodyPost_ret (v := .agg #[.bool Cz, .slice Cv Cy Cw, .slice Cs Cu Ct]) (by simp [results, Tryz.results46, go_sem, Db, Dc, Dd]) rfl ⟨_, rfl, h1, hs⟩
theorem sum_sq {L S : List Rat} {m : Rat} {k : Nat} (hS : sqK L m L.length = S) (hk : k < L.length) : sumQ S k + (nthQ L k - m) * (nthQ L k - m) = sumQ S (k + 1) := by
 rw [← sqK_at hk, hS]; rfl
theorem mx_yes {L S : List Rat} {m : Rat} {k a : Nat} (hS : sqK L m L.length = S) (hk : k < L.length) (ha : mxF S k = a) (h2 : a ≤ k) (h : (nthQ L a - m) * (nthQ L a - m) < (nthQ L k - m) * (nthQ L k - m)) : mxF S (k + 1) = k := by
 rw [← sqK_at hk, ← sqK_at (show a < L.length by omega), hS] at h
 exact mxF_yes (by rw [ha]; exact h)
theorem mx_no {L S : List Rat} {m : Rat} {k a : Nat} (hS : sqK L m L.length = S) (hk : k < L.length) (ha : mxF S k = a) (h2 : a ≤ k) (h : ¬ (nthQ L a - m) * (nthQ L a - m) < (nthQ L k - m) * (nthQ L k - m)) : mxF S (k + 1) = a := by
 rw [← sqK_at hk, ← sqK_at (show a < L.length by omega), hS] at h
 rw [mxF_no (by rw [ha]; exact h), ha]
theorem r8_Mean_bad {v : Value} {L : List Rat} (w : World) (hl : Rows 3 41 RC w v L) (g1 : ¬ (1 ≤ L.length ∧ L.length ≤ 64)) : Calls Tryz.prog 14 #[v] w (Ret3 (fun w v => RV w v 0) (fun w v => RV w v 0) (fun _ v => v = .int .i64 4) w) := by
 obtain ⟨aL, kL, rfl, Je, Jf, -⟩ := hl.toI.slice
 have HL := Lib.hid hl
 clear hl
 have hs := Below.refl w.heap.size w
 go_enter Tryz.func14, Tryz.ntmps14
 go_wp2_with fail
 refine Calls.abs ?_
 intro w1 hW
 have hG : Gr [] w w1 := by rw [hW]; exact (Gr.refl _ _).alloc.alloc
 have Bk : Below w.heap.size w w1 := hG.below0 hs.size
 have hk : KeepD w w1 := hG.keep True.intro
 have Eg : w.heap.size ≤ w.heap.size := hs.size
 have Blk : Bx w1 (w.heap.size) 41 #[.bool false, .slice none 0 0, .slice none 0 0] := by rw [hW]; exact ((Bx.new0 _ _ _).alloc _)
 have B4 : Bx w1 (w.heap.size + 1) 41 #[.bool false, .slice none 0 0, .slice none 0 0] := by rw [hW]; exact (Bx.new0 _ _ _)
 replace hs := hs.trans Bk
 clear hW hG hk Bk
 have Ec : w.heap.size + 1 < w1.heap.size := B4.lt
 with_reducible refine (r8_cvL_all (e := 4) _ (HL.out.mono RC.kept hs) (if_pos (by omega))).mono ?_
 rintro e w2 ⟨rfl, hb⟩
 replace hs := bStep hs hb
 replace Blk := Blk.mono hb
 replace B4 := B4.mono hb
 clear hb
 go_wp2_with fail
 with_reducible refine (r_zero _).mono ?_
 rintro e w3 ⟨_, rfl, h1, hb⟩
 obtain ⟨Cz, Cv, Cy, Cw, Cs, Cu, Ct, rfl⟩ := h1.shape
 replace hs := bStep hs hb
 replace Blk := Blk.mono hb
 replace B4 := B4.mono hb
 clear hb
 go_wp2_with fail
 with_reducible refine (r_zero _).mono ?_
 rintro e w4 ⟨_, rfl, h2, hb⟩
 obtain ⟨Cc, C9, Cb, Ca, C6, C8, C7, rfl⟩ := h2.shape
 replace hs := bStep hs hb
 replace Blk := Blk.mono hb
 replace B4 := B4.mono hb
 replace h1 := h1.mono hb
 clear hb
 have Db : w4.cell? ⟨w.heap.size, 0, none⟩ = some (.bool false) := Blk.at 0 rfl
 have Dc : w4.cell? ⟨w.heap.size, 1, none⟩ = some (.slice none 0 0) := Blk.at 1 rfl
 have Dd : w4.cell? ⟨w.heap.size, 2, none⟩ = some (.slice none 0 0) := Blk.at 2 rfl
 have fk := Blk.free
 have Lk : w.heap.size < w4.heap.size := Blk.lt
 have Du : w4.cell? ⟨w.heap.size + 1, 0, none⟩ = some (.bool false) := B4.at 0 rfl
 have Dv : w4.cell? ⟨w.heap.size + 1, 1, none⟩ = some (.slice none 0 0) := B4.at 1 rfl
 have Dw : w4.cell? ⟨w.heap.size + 1, 2, none⟩ = some (.slice none 0 0) := B4.at 2 rfl
 have fk1 := B4.free
 have Lk1 : w.heap.size + 1 < w4.heap.size := B4.lt
 go_wp2
 clear Db Dc Dd Du Dv Dw fk fk1 Lk Lk1
 refine bodyPost.abs ?_
 intro w5 hW
 have hG : Gr [w.heap.size, w.heap.size + 1] w4 w5 := by rw [hW]; exact (Gr.refl _ _).set.set.set.set.set.set
 have Cx := hs.size
 have lk := Blk.lt
 have lk1 := B4.lt
 have Bk : Below w.heap.size w4 w5 := hG.below2 hs.size (by first | omega | assumption) (by first | omega | assumption)
 have hk : KeepD w4 w5 := hG.keep ⟨⟨_, Blk.ty, by decide⟩, ⟨_, B4.ty, by decide⟩, True.intro⟩
 have Dr : Bx w5 (w.heap.size) 41 #[.bool Cz, .slice Cv Cy Cw, .slice Cs Cu Ct] := by rw [hW]; exact (Bx.far (Bx.far (Bx.far (Bx.set (Bx.set (Bx.set Blk 0 _ rfl) 1 _ rfl) 2 _ rfl) (by dsimp only; omega) _) (by dsimp only; omega) _) (by dsimp only; omega) _)
 have E3 : Bx w5 (w.heap.size + 1) 41 #[.bool Cc, .slice C9 Cb Ca, .slice C6 C8 C7] := by rw [hW]; exact (Bx.set (Bx.set (Bx.set (Bx.far (Bx.far (Bx.far B4 (by dsimp only; omega) _) (by dsimp only; omega) _) (by dsimp only; omega) _) 0 _ rfl) 1 _ rfl) 2 _ rfl)
 replace hs := hs.trans Bk
 replace Blk := Dr
 clear Dr
 replace B4 := E3
 clear E3
 replace h1 := h1.keep hk
 replace h2 := h2.keep hk
 clear hW hG hk Bk Cx lk lk1
 have Db : w5.cell? ⟨w.heap.size, 0, none⟩ = some (.bool Cz) := Blk.at 0 rfl
 have Dc : w5.cell? ⟨w.heap.size, 1, none⟩ = some (.slice Cv Cy Cw) := Blk.at 1 rfl
 have Dd : w5.cell? ⟨w.heap.size, 2, none⟩ = some (.slice Cs Cu Ct) := Blk.at 2 rfl
 have Du : w5.cell? ⟨w.heap.size + 1, 0, none⟩ = some (.bool Cc) := B4.at 0 rfl
 have Dv : w5.cell? ⟨w.heap.size + 1, 1, none⟩ = some (.slice C9 Cb Ca) := B4.at 1 rfl
 have Dw : w5.cell? ⟨w.heap.size + 1, 2, none⟩ = some (.slice C6 C8 C7) := B4.at 2 rfl
 exact bodyPost_ret (v := .tuple #[.agg #[.bool Cz, .slice Cv Cy Cw, .slice Cs Cu Ct], .agg #[.bool Cc, .slice C9 Cb Ca, .slice C6 C8 C7], .int .i64 4]) (by simp [results, Tryz.results14, go_sem, Db, Dc, Dd, Du, Dv, Dw]) rfl ⟨_, _, _, rfl, h1, h2, rfl, hs⟩
theorem r8_Mean_ok {v : Value} {L : List Rat} (w : World) (hl : Rows 3 41 RC w v L) (g1 : 1 ≤ L.length) (g20 : L.length ≤ 20) (hz : ∀ i, i < L.length → SzQ 1 (nthQ L i)) {m va : Rat} (hm : meanQ L = m) (Ds : varQ L = va) : Calls Tryz.prog 14 #[v] w (Ret3 (fun w v => RV w v m) (fun w v => RV w v va) (fun _ v => v = .int .i64 0) w) := by
 obtain ⟨lb, lo, kL, rfl, Je, Jf, -⟩ := hl.open_ (by omega)
 have HL := Lib.hid hl
 clear hl
 have sm : SzQ (20 * 1 + 101) m := hm ▸ mean_sz hz g1 g20
 obtain ⟨S, hS⟩ : ∃ S, sqK L m L.length = S := ⟨_, rfl⟩
 have lS : S.length = L.length := by rw [← hS, sqK_len L m (Nat.le_refl _)]
 have sS : ∀ i, i < S.length → SzQ 300 (nthQ S i) := fun i hi => hS ▸ (sqK_sz hz sm (by omega)).mono (by omega)
 have Dx : sumQ S L.length / ((L.length : Int) : Rat) = va := by subst Ds hm; rw [← lS]; subst hS; rfl
 have Jl : SzQ 7000 va := by
  have := mean_sz sS (by omega) (by omega)
  rw [show meanQ S = va from by rw [← Dx, ← lS]; rfl] at this
  exact this.mono (by omega)
 obtain ⟨n, hn⟩ : ∃ n : Rat, ((L.length : Int) : Rat) = n := ⟨_, rfl⟩
 have sn : SzQ 1 n := hn ▸ szQ_int (by omega)
 have ne : n ≠ 0 := hn ▸ len_ne g1
 have hm2 : sumQ L L.length / ((L.length : Int) : Rat) = m := hm
 obtain ⟨su, Jh⟩ : ∃ su, sumQ L L.length = su := ⟨_, rfl⟩
 have ss : SzQ (20 * 1 + 100) su := Jh ▸ sumQ_sz hz g20 L.length (Nat.le_refl _)
 obtain ⟨sv, Ji⟩ : ∃ su, sumQ S L.length = su := ⟨_, rfl⟩
 have Jg := sumQ_sz sS (by omega)
 rw [lS] at Jg
 have st : SzQ (20 * 300 + 100) sv := Ji ▸ Jg L.length (Nat.le_refl _)
 rw [Jh, hn] at hm2
 rw [Ji, hn] at Dx
 have HSS := Lib.hid (sumQ_sz hz g20)
 have HST := Lib.hid Jg
 have HZ := Lib.hid hz
 have HM := Lib.hid hm2
 have HV := Lib.hid Dx
 have HS := Lib.hid hS
 have HSU := Lib.hid Jh
 have HSV := Lib.hid Ji
 have HN := Lib.hid hn
 have Eo := Lib.hid ne
 clear hz hm Ds lS hS sS Dx hm2 hn Jh Ji Jg ne
 have hs := Below.refl w.heap.size w
 go_enter Tryz.func14, Tryz.ntmps14
 go_wp2_with fail
 refine Calls.abs ?_
 intro w1 hW
 have hG : Gr [] w w1 := by rw [hW]; exact (Gr.refl _ _).alloc.alloc
 have Bk : Below w.heap.size w w1 := hG.below0 hs.size
 have hk : KeepD w w1 := hG.keep True.intro
 have Eg : w.heap.size ≤ w.heap.size := hs.size
 have Blk : Bx w1 (w.heap.size) 41 #[.bool false, .slice none 0 0, .slice none 0 0] := by rw [hW]; exact ((Bx.new0 _ _ _).alloc _)
 have B4 : Bx w1 (w.heap.size + 1) 41 #[.bool false, .slice none 0 0, .slice none 0 0] := by rw [hW]; exact (Bx.new0 _ _ _)
 replace hs := hs.trans Bk
 clear hW hG hk Bk
 have Ec : w.heap.size + 1 < w1.heap.size := B4.lt
 with_reducible refine (r8_cvL_all (e := 0) _ (HL.out.mono RC.kept hs) (if_neg (by omega))).mono ?_
 rintro e w2 ⟨rfl, hb⟩
 replace hs := bStep hs hb
 replace Blk := Blk.mono hb
 replace B4 := B4.mono hb
 clear hb
 go_wp2_with fail
 with_reducible refine (r_zero _).mono ?_
 rintro e w3 ⟨_, rfl, h1, hb⟩
 obtain ⟨Cz, Cv, Cy, Cw, Cs, Cu, Ct, rfl⟩ := h1.shape
 replace hs := bStep hs hb
 replace Blk := Blk.mono hb
 replace B4 := B4.mono hb
 clear hb
 go_wp2
 refine Code.abs ?_
 intro w4 hW
 have hG : Gr [] w3 w4 := by rw [hW]; exact (Gr.refl _ _).alloc
 have Bk : Below w.heap.size w3 w4 := hG.below0 hs.size
 have hk : KeepD w3 w4 := hG.keep True.intro
 have sz_w4 : w.heap.size ≤ w3.heap.size := hs.size
 have nk_w4 : w.heap.size < w3.heap.size := Blk.lt
 have nk1_w4 : w.heap.size + 1 < w3.heap.size := B4.lt
 have B3 : Bx w4 (w3.heap.size) 41 #[.bool Cz, .slice Cv Cy Cw, .slice Cs Cu Ct] := by rw [hW]; exact (Bx.new0 _ _ _)
 replace hs := hs.trans Bk
 replace Blk := hG.bx Blk notMem0
 replace B4 := hG.bx B4 notMem0
 replace h1 := h1.keep hk
 clear hW hG hk Bk
 have hz_w4 : w3.heap.size < w4.heap.size := B3.lt
 go_loopw [7] (fun s7 wq => ∃ k : Nat, k ≤ L.length ∧ s7 = .int .i64 k ∧ Below w.heap.size w wq ∧ Bx wq (w.heap.size) 41 #[.bool false, .slice none 0 0, .slice none 0 0] ∧ Bx wq (w.heap.size + 1) 41 #[.bool false, .slice none 0 0, .slice none 0 0] ∧ BoxR wq (w3.heap.size) (sumQ L k)) (fun s7 _ => L.length - (intOf s7).toNat)
 case atStart => exact ⟨0, Nat.zero_le _, rfl, hs, Blk, B4, ⟨_, _, _, _, _, _, _, B3, h1⟩⟩
 case round =>
  clear Blk B4 B3 h1 hs
  obtain ⟨k, K6, rfl, hs, Blk, B4, ⟨Cc, C9, Cb, Ca, C6, C8, C7, B3, h2⟩⟩ := hrel
  by_cases q3 : k < L.length
  ·have q3d : ((k : Int) < (L.length : Int)) = True := eq_true (by omega)
   go_upto_region 8 with fail
   have BI4a : k < L.length := by omega
   have BI4b : ((k : Int) : Int) < (L.length : Int) := by omega
   obtain ⟨ge5, ae5, ne5, ce5, Ae5, Ne5, De5, Dz, E0, E1, El, le5⟩ := rowR_at (HL.out.mono RC.kept hs) (show k < L.length by omega)
   refine U_region (S := fun w' => w'.cell? ⟨w3.heap.size, 0, none⟩ = some (.bool Cc) ∧ w'.cell? ⟨w3.heap.size, 1, none⟩ = some (.slice C9 Cb Ca) ∧ w'.cell? ⟨w3.heap.size, 2, none⟩ = some (.slice C6 C8 C7) ∧ w'.cell? ⟨lb, lo + k * 3, none⟩ = some (.bool ge5) ∧ w'.cell? ⟨lb, lo + k * 3 + 1, none⟩ = some (.slice ae5 ne5 ce5) ∧ w'.cell? ⟨lb, lo + k * 3 + 2, none⟩ = some (.slice Ae5 Ne5 De5)) (by kernel_rfl) 6 ?_
   refine AnyU.abs ?_
   intro Bc hW
   have hb : Below wr.heap.size wr Bc := by rw [hW]; exact bDrew _
   replace hs := bStep hs hb
   replace Blk := Blk.mono hb
   replace B4 := B4.mono hb
   replace B3 := B3.mono hb
   replace h2 := h2.mono hb
   replace El := El.mono hb
   replace Dz := cellK Dz hb
   replace E0 := cellK E0 hb
   replace E1 := cellK E1 hb
   clear hb hW
   have Bh : Bc.cell? ⟨w3.heap.size, 0, none⟩ = some (.bool Cc) := B3.at 0 rfl
   have Bi : Bc.cell? ⟨w3.heap.size, 1, none⟩ = some (.slice C9 Cb Ca) := B3.at 1 rfl
   have Bj : Bc.cell? ⟨w3.heap.size, 2, none⟩ = some (.slice C6 C8 C7) := B3.at 2 rfl
   have hH := (show Bc.cell? ⟨w3.heap.size, 0, none⟩ = some (.bool Cc) ∧ Bc.cell? ⟨w3.heap.size, 1, none⟩ = some (.slice C9 Cb Ca) ∧ Bc.cell? ⟨w3.heap.size, 2, none⟩ = some (.slice C6 C8 C7) ∧ Bc.cell? ⟨lb, lo + k * 3, none⟩ = some (.bool ge5) ∧ Bc.cell? ⟨lb, lo + k * 3 + 1, none⟩ = some (.slice ae5 ne5 ce5) ∧ Bc.cell? ⟨lb, lo + k * 3 + 2, none⟩ = some (.slice Ae5 Ne5 De5) from ⟨Bh, Bi, Bj, Dz, E0, E1⟩)
   refine U_tt 0 ?_ ?_ hH ?_
   rotate_left
   ·(intro w Bd; (try dsimp only at Bd); go_simp; try with_reducible rfl)
   try simp only [LY]
   refine U_tt 1 ?_ ?_ hH ?_
   rotate_left
   ·(intro w Bd; (try dsimp only at Bd); go_simp; try with_reducible rfl)
   try simp only [LY]
   refine U_tt 2 ?_ ?_ hH ?_
   rotate_left
   ·(intro w Bd; (try dsimp only at Bd); go_simp; try with_reducible rfl)
   try simp only [LY]
   refine U_tt 3 ?_ ?_ hH ?_
   rotate_left
   ·(intro w Bd; (try dsimp only at Bd); go_simp; try with_reducible rfl)
   try simp only [LY]
   refine U_tt 4 ?_ ?_ hH ?_
   rotate_left
   ·(intro w Bd; (try dsimp only at Bd); go_simp; try with_reducible rfl)
   try simp only [LY]
   clear hH
   refine U_one (i := 5) (by kernel_rfl) rfl (fun K hK => ?_)
   go_simp
   (with_reducible refine (rAdd h2 El (SzQ.fit (HSS.out k (by omega))) (SzQ.fit (HZ.out k (by omega)))).mono ?_)
   rintro e Bu ⟨_, rfl, h6, hb⟩
   obtain ⟨sh6, ah6, nh6, ch6, Ah6, Nh6, Ch6, rfl⟩ := h6.shape
   replace hs := bStep hs hb
   replace Blk := Blk.mono hb
   replace B4 := B4.mono hb
   replace B3 := B3.mono hb
   replace h2 := h2.mono hb
   replace El := El.mono hb
   replace Bh := cellK Bh hb
   replace Bi := cellK Bi hb
   replace Bj := cellK Bj hb
   replace Dz := cellK Dz hb
   replace E0 := cellK E0 hb
   replace E1 := cellK E1 hb
   clear hb
   try go_wp2_with fail
   refine hK.out _ _ ⟨Bh, Bi, Bj, Dz, E0, E1⟩ (fun hH => ?_)
   clear hK K
   try simp only [LY]
   clear hH
   have Bh : Bu.cell? ⟨w3.heap.size, 0, none⟩ = some (.bool Cc) := B3.at 0 rfl
   have Bi : Bu.cell? ⟨w3.heap.size, 1, none⟩ = some (.slice C9 Cb Ca) := B3.at 1 rfl
   have Bj : Bu.cell? ⟨w3.heap.size, 2, none⟩ = some (.slice C6 C8 C7) := B3.at 2 rfl
   have fsum := B3.free
   have Lsum : w3.heap.size < Bu.heap.size := B3.lt
   refine U_last (by kernel_rfl) rfl (by kernel_rfl) (fun K hK => ?_)
   go_simp
   refine hK.out _ _ ?_
   clear hK K
   intro C5 hW
   have hG : Gr [w3.heap.size] Bu C5 := by rw [hW]; exact (Gr.refl _ _).set.set.set
   have Cx := hs.size
   have lsum := B3.lt
   have Bk : Below w.heap.size Bu C5 := hG.below1 hs.size (by first | omega | assumption)
   have hk : KeepD Bu C5 := hG.keep ⟨⟨_, B3.ty, by decide⟩, True.intro⟩
   have Ev : Bx C5 (w3.heap.size) 41 #[.bool sh6, .slice ah6 nh6 ch6, .slice Ah6 Nh6 Ch6] := by rw [hW]; exact B3.set3
   replace hs := hs.trans Bk
   replace Blk := hG.bx Blk (notMem1 (by omega))
   replace B4 := hG.bx B4 (notMem1 (by omega))
   replace B3 := Ev
   clear Ev
   replace h2 := h2.keep hk
   replace El := El.keep hk
   replace h6 := h6.keep hk
   clear hW hG hk Bk Cx lsum
   try simp only [LY]
   clear Bh Bi Bj Dz E0 E1
   go_wp2
   go_roundw
   case rel => exact ⟨k + 1, by omega, by go_num, hs, Blk, B4, ⟨_, _, _, _, _, _, _, B3, (h6.of_eq (by rfl))⟩⟩
   all_goals first | (simp [intOf]; done) | (simp [intOf]; omega)
  ·have q3d : ((k : Int) < (L.length : Int)) = False := eq_false (by omega)
   obtain rfl : k = L.length := by omega
   replace h2 := h2.of_eq HSU.out
   go_upto_region 9 with fail
   go_cut [8, 9] (fun kv0 kx0 wz => ∃ Bn Cq Cn Cp Co Ck Cm Cl, kv0 = .pointer (some ⟨Bn, 0, none⟩) ∧ kx0 = .int .i64 0 ∧ w.heap.size ≤ Bn ∧ Bn ≠ w.heap.size ∧ Bn ≠ (w.heap.size + 1) ∧ Bn ≠ w3.heap.size ∧ Bx wz Bn 41 #[.bool Cq, .slice Cn Cp Co, .slice Ck Cm Cl] ∧ Below w.heap.size w wz ∧ Bx wz (w.heap.size) 41 #[.bool false, .slice none 0 0, .slice none 0 0] ∧ Bx wz (w.heap.size + 1) 41 #[.bool false, .slice none 0 0, .slice none 0 0] ∧ Bx wz (w3.heap.size) 41 #[.bool Cc, .slice C9 Cb Ca, .slice C6 C8 C7] ∧ RV wz (.agg #[.bool Cc, .slice C9 Cb Ca, .slice C6 C8 C7]) (su) ∧ RV wz (.agg #[.bool Cq, .slice Cn Cp Co, .slice Ck Cm Cl]) (su / n))
   case first =>
    refine U_region (S := fun w' => w'.cell? ⟨w3.heap.size, 0, none⟩ = some (.bool Cc) ∧ w'.cell? ⟨w3.heap.size, 1, none⟩ = some (.slice C9 Cb Ca) ∧ w'.cell? ⟨w3.heap.size, 2, none⟩ = some (.slice C6 C8 C7)) (by kernel_rfl) 10 ?_
    refine AnyU.abs ?_
    intro Bc hW
    have hb : Below wr.heap.size wr Bc := by rw [hW]; exact bDrew _
    replace hs := bStep hs hb
    replace Blk := Blk.mono hb
    replace B4 := B4.mono hb
    replace B3 := B3.mono hb
    replace h2 := h2.mono hb
    clear hb hW
    have Bh : Bc.cell? ⟨w3.heap.size, 0, none⟩ = some (.bool Cc) := B3.at 0 rfl
    have Bi : Bc.cell? ⟨w3.heap.size, 1, none⟩ = some (.slice C9 Cb Ca) := B3.at 1 rfl
    have Bj : Bc.cell? ⟨w3.heap.size, 2, none⟩ = some (.slice C6 C8 C7) := B3.at 2 rfl
    have hH := (show Bc.cell? ⟨w3.heap.size, 0, none⟩ = some (.bool Cc) ∧ Bc.cell? ⟨w3.heap.size, 1, none⟩ = some (.slice C9 Cb Ca) ∧ Bc.cell? ⟨w3.heap.size, 2, none⟩ = some (.slice C6 C8 C7) from ⟨Bh, Bi, Bj⟩)
    refine U_tt 0 ?_ ?_ hH ?_
    rotate_left
    ·(intro w Bd; (try dsimp only at Bd); go_simp; try with_reducible rfl)
    try simp only [LY]
    refine U_tt 1 ?_ ?_ hH ?_
    rotate_left
    ·(intro w Bd; (try dsimp only at Bd); go_simp; try with_reducible rfl)
    try simp only [LY]
    refine U_tt 2 ?_ ?_ hH ?_
    rotate_left
    ·(intro w Bd; (try dsimp only at Bd); go_simp; try with_reducible rfl)
    try simp only [LY]
    refine U_two (i := 3) (j := 8) (by kernel_rfl) rfl rfl (fun K hK => ?_) (fun K hK => ?_)
    ·clear hH
     go_simp
     (with_reducible refine (rq_numN HN.out _ (by omega)).mono ?_)
     rintro e Bu ⟨_, rfl, h4, hb⟩
     obtain ⟨sh4, ah4, nh4, ch4, Ah4, Nh4, Ch4, rfl⟩ := h4.shape
     replace hs := bStep hs hb
     replace Blk := Blk.mono hb
     replace B4 := B4.mono hb
     replace B3 := B3.mono hb
     replace h2 := h2.mono hb
     replace Bh := cellK Bh hb
     replace Bi := cellK Bi hb
     replace Bj := cellK Bj hb
     clear hb
     try go_wp2_with fail
     refine hK.out _ _ ⟨Bh, Bi, Bj⟩ (fun hH => ?_)
     clear hK K
     try simp only [LY]
     refine U_two (i := 4) (j := 8) (by kernel_rfl) rfl rfl (fun K hK => ?_) (fun K hK => ?_)
     ·clear hH
      go_simp
      (with_reducible refine (rDiv h2 h4 (SzQ.fit ss) (SzQ.fit sn) Eo.out).mono ?_)
      rintro e C5 ⟨_, rfl, h5, hb⟩
      obtain ⟨Cq, Cn, Cp, Co, Ck, Cm, Cl, rfl⟩ := h5.shape
      replace hs := bStep hs hb
      replace Blk := Blk.mono hb
      replace B4 := B4.mono hb
      replace B3 := B3.mono hb
      replace h2 := h2.mono hb
      replace h4 := h4.mono hb
      replace Bh := cellK Bh hb
      replace Bi := cellK Bi hb
      replace Bj := cellK Bj hb
      clear hb
      try go_wp2_with fail
      refine hK.out _ _ ⟨Bh, Bi, Bj⟩ (fun hH => ?_)
      clear hK K
      try simp only [LY]
      refine U_tt 5 ?_ ?_ hH ?_
      rotate_left
      ·(intro w Bd; (try dsimp only at Bd); go_simp; try with_reducible rfl)
      try simp only [LY]
      refine U_tt 6 ?_ ?_ hH ?_
      rotate_left
      ·(intro w Bd; (try dsimp only at Bd); go_simp; try with_reducible rfl)
      try simp only [LY]
      refine U_tt 7 ?_ ?_ hH ?_
      rotate_left
      ·(intro w Bd; (try dsimp only at Bd); go_simp; try with_reducible rfl)
      try simp only [LY]
      clear hH
      refine U_one (i := 8) (by kernel_rfl) rfl (fun K hK => ?_)
      go_simp
      generalize hWn : (C5.alloc (.cells #[.bool false, .slice none 0 0, .slice none 0 0] 41)) = C3
      have hb : Below C5.heap.size C5 C3 := by rw [← hWn]; exact (Below.refl _ _).alloc (Nat.le_refl _) _
      have B1 : Bx C3 (C5.heap.size) 41 #[.bool false, .slice none 0 0, .slice none 0 0] := by rw [← hWn]; exact Bx.new _ _ _
      have Ep : w.heap.size ≠ C5.heap.size := by have := Blk.lt; omega
      have Em : w.heap.size + 1 ≠ C5.heap.size := by have := B4.lt; omega
      have Ek : w3.heap.size ≠ C5.heap.size := by have := B3.lt; omega
      have Dh : w.heap.size ≤ C5.heap.size := hs.size
      replace hs := bStep hs hb
      replace Blk := Blk.mono hb
      replace B4 := B4.mono hb
      replace B3 := B3.mono hb
      replace h2 := h2.mono hb
      replace h4 := h4.mono hb
      replace h5 := h5.mono hb
      replace Bh := cellK Bh hb
      replace Bi := cellK Bi hb
      replace Bj := cellK Bj hb
      clear hb hWn
      refine hK.out _ _ ⟨Bh, Bi, Bj⟩ (fun hH => ?_)
      clear hK K
      try simp only [LY]
      clear hH
      have B8 : C3.cell? ⟨C5.heap.size, 0, none⟩ = some (.bool false) := B1.at 0 rfl
      have B9 : C3.cell? ⟨C5.heap.size, 1, none⟩ = some (.slice none 0 0) := B1.at 1 rfl
      have Ba : C3.cell? ⟨C5.heap.size, 2, none⟩ = some (.slice none 0 0) := B1.at 2 rfl
      have Jd := B1.free
      have Jc : C5.heap.size < C3.heap.size := B1.lt
      refine U_one (i := 9) (by kernel_rfl) rfl (fun K hK => ?_)
      go_simp
      generalize hW_ : (((C3.setCell ⟨C5.heap.size, 0, none⟩ (.bool Cq)).setCell ⟨C5.heap.size, 1, none⟩ (.slice Cn Cp Co)).setCell ⟨C5.heap.size, 2, none⟩ (.slice Ck Cm Cl)) = D9
      have hW := hW_.symm
      clear hW_
      have hG : Gr [C5.heap.size] C3 D9 := by rw [hW]; exact (Gr.refl _ _).set.set.set
      have Cx := hs.size
      have Ed := B1.lt
      have Bk : Below w.heap.size C3 D9 := hG.below1 hs.size (by first | omega | assumption)
      have hk : KeepD C3 D9 := hG.keep ⟨⟨_, B1.ty, by decide⟩, True.intro⟩
      have D4 : Bx D9 (C5.heap.size) 41 #[.bool Cq, .slice Cn Cp Co, .slice Ck Cm Cl] := by rw [hW]; exact B1.set3
      replace hs := hs.trans Bk
      replace Blk := hG.bx Blk (notMem1 (by omega))
      replace B4 := hG.bx B4 (notMem1 (by omega))
      replace B3 := hG.bx B3 (notMem1 (by omega))
      replace B1 := D4
      clear D4
      replace h2 := h2.keep hk
      replace h4 := h4.keep hk
      replace h5 := h5.keep hk
      replace Bh := hG.cell Bh (notMem1 (by dsimp only; omega))
      replace Bi := hG.cell Bi (notMem1 (by dsimp only; omega))
      replace Bj := hG.cell Bj (notMem1 (by dsimp only; omega))
      clear hW hG hk Bk Cx Ed
      refine hK.out _ _ ⟨Bh, Bi, Bj⟩ (fun hH => ?_)
      clear hK K
      try simp only [LY]
      clear hH
      refine U_last (by kernel_rfl) rfl (by kernel_rfl) (fun K hK => ?_)
      go_simp
      refine hK.out _ _ ?_
      clear hK K
      intro wl hW
      rw [hW]
      clear hW wl
      try simp only [LY]
      clear Bh Bi Bj
      go_wp2_with fail
      go_meet
      exact ⟨C5.heap.size, _, _, _, _, _, _, _, rfl, rfl, (by first | exact Dh | omega), (by omega), (by omega), (by omega), B1, hs, Blk, B4, B3, h2, h5⟩
     ·clear hH
      go_simp
      generalize hWn : (Bu.alloc (.cells #[.bool false, .slice none 0 0, .slice none 0 0] 41)) = C5
      have hb : Below Bu.heap.size Bu C5 := by rw [← hWn]; exact (Below.refl _ _).alloc (Nat.le_refl _) _
      have B1 : Bx C5 (Bu.heap.size) 41 #[.bool false, .slice none 0 0, .slice none 0 0] := by rw [← hWn]; exact Bx.new _ _ _
      have Ep : w.heap.size ≠ Bu.heap.size := by have := Blk.lt; omega
      have Em : w.heap.size + 1 ≠ Bu.heap.size := by have := B4.lt; omega
      have Ek : w3.heap.size ≠ Bu.heap.size := by have := B3.lt; omega
      have Dh : w.heap.size ≤ Bu.heap.size := hs.size
      replace hs := bStep hs hb
      replace Blk := Blk.mono hb
      replace B4 := B4.mono hb
      replace B3 := B3.mono hb
      replace h2 := h2.mono hb
      replace h4 := h4.mono hb
      replace Bh := cellK Bh hb
      replace Bi := cellK Bi hb
      replace Bj := cellK Bj hb
      clear hb hWn
      refine hK.out _ _ ⟨Bh, Bi, Bj⟩ (fun hH => ?_)
      clear hK K
      try simp only [LY]
      clear hH
      refine U_one (i := 4) (by kernel_rfl) rfl (fun K hK => ?_)
      go_simp
      (with_reducible refine (rDiv h2 h4 (SzQ.fit ss) (SzQ.fit sn) Eo.out).mono ?_)
      rintro e C3 ⟨_, rfl, h5, hb⟩
      obtain ⟨Cq, Cn, Cp, Co, Ck, Cm, Cl, rfl⟩ := h5.shape
      replace hs := bStep hs hb
      replace Blk := Blk.mono hb
      replace B4 := B4.mono hb
      replace B3 := B3.mono hb
      replace B1 := B1.mono hb
      replace h2 := h2.mono hb
      replace h4 := h4.mono hb
      replace Bh := cellK Bh hb
      replace Bi := cellK Bi hb
      replace Bj := cellK Bj hb
      clear hb
      try go_wp2_with fail
      refine hK.out _ _ ⟨Bh, Bi, Bj⟩ (fun hH => ?_)
      clear hK K
      try simp only [LY]
      refine U_tt 5 ?_ ?_ hH ?_
      rotate_left
      ·(intro w Bd; (try dsimp only at Bd); go_simp; try with_reducible rfl)
      try simp only [LY]
      refine U_tt 6 ?_ ?_ hH ?_
      rotate_left
      ·(intro w Bd; (try dsimp only at Bd); go_simp; try with_reducible rfl)
      try simp only [LY]
      refine U_tt 7 ?_ ?_ hH ?_
      rotate_left
      ·(intro w Bd; (try dsimp only at Bd); go_simp; try with_reducible rfl)
      try simp only [LY]
      clear hH
      have B8 : C3.cell? ⟨Bu.heap.size, 0, none⟩ = some (.bool false) := B1.at 0 rfl
      have B9 : C3.cell? ⟨Bu.heap.size, 1, none⟩ = some (.slice none 0 0) := B1.at 1 rfl
      have Ba : C3.cell? ⟨Bu.heap.size, 2, none⟩ = some (.slice none 0 0) := B1.at 2 rfl
      have Jd := B1.free
      have Jc : Bu.heap.size < C3.heap.size := B1.lt
      refine U_one (i := 9) (by kernel_rfl) rfl (fun K hK => ?_)
      go_simp
      generalize hW_ : (((C3.setCell ⟨Bu.heap.size, 0, none⟩ (.bool Cq)).setCell ⟨Bu.heap.size, 1, none⟩ (.slice Cn Cp Co)).setCell ⟨Bu.heap.size, 2, none⟩ (.slice Ck Cm Cl)) = D9
      have hW := hW_.symm
      clear hW_
      have hG : Gr [Bu.heap.size] C3 D9 := by rw [hW]; exact (Gr.refl _ _).set.set.set
      have Cx := hs.size
      have Ed := B1.lt
      have Bk : Below w.heap.size C3 D9 := hG.below1 hs.size (by first | omega | assumption)
      have hk : KeepD C3 D9 := hG.keep ⟨⟨_, B1.ty, by decide⟩, True.intro⟩
      have D4 : Bx D9 (Bu.heap.size) 41 #[.bool Cq, .slice Cn Cp Co, .slice Ck Cm Cl] := by rw [hW]; exact B1.set3
      replace hs := hs.trans Bk
      replace Blk := hG.bx Blk (notMem1 (by omega))
      replace B4 := hG.bx B4 (notMem1 (by omega))
      replace B3 := hG.bx B3 (notMem1 (by omega))
      replace B1 := D4
      clear D4
      replace h2 := h2.keep hk
      replace h4 := h4.keep hk
      replace h5 := h5.keep hk
      replace Bh := hG.cell Bh (notMem1 (by dsimp only; omega))
      replace Bi := hG.cell Bi (notMem1 (by dsimp only; omega))
      replace Bj := hG.cell Bj (notMem1 (by dsimp only; omega))
      clear hW hG hk Bk Cx Ed
      refine hK.out _ _ ⟨Bh, Bi, Bj⟩ (fun hH => ?_)
      clear hK K
      try simp only [LY]
      clear hH
      refine U_last (by kernel_rfl) rfl (by kernel_rfl) (fun K hK => ?_)
      go_simp
      refine hK.out _ _ ?_
      clear hK K
      intro wl hW
      rw [hW]
      clear hW wl
      try simp only [LY]
      clear Bh Bi Bj
      go_wp2_with fail
      go_meet
      exact ⟨Bu.heap.size, _, _, _, _, _, _, _, rfl, rfl, (by first | exact Dh | omega), (by omega), (by omega), (by omega), B1, hs, Blk, B4, B3, h2, h5⟩
    ·clear hH
     go_simp
     generalize hWn : (Bc.alloc (.cells #[.bool false, .slice none 0 0, .slice none 0 0] 41)) = Bu
     have hb : Below Bc.heap.size Bc Bu := by rw [← hWn]; exact (Below.refl _ _).alloc (Nat.le_refl _) _
     have B1 : Bx Bu (Bc.heap.size) 41 #[.bool false, .slice none 0 0, .slice none 0 0] := by rw [← hWn]; exact Bx.new _ _ _
     have Ep : w.heap.size ≠ Bc.heap.size := by have := Blk.lt; omega
     have Em : w.heap.size + 1 ≠ Bc.heap.size := by have := B4.lt; omega
     have Ek : w3.heap.size ≠ Bc.heap.size := by have := B3.lt; omega
     have Dh : w.heap.size ≤ Bc.heap.size := hs.size
     replace hs := bStep hs hb
     replace Blk := Blk.mono hb
     replace B4 := B4.mono hb
     replace B3 := B3.mono hb
     replace h2 := h2.mono hb
     replace Bh := cellK Bh hb
     replace Bi := cellK Bi hb
     replace Bj := cellK Bj hb
     clear hb hWn
     refine hK.out _ _ ⟨Bh, Bi, Bj⟩ (fun hH => ?_)
     clear hK K
     try simp only [LY]
     clear hH
     refine U_one (i := 3) (by kernel_rfl) rfl (fun K hK => ?_)
     go_simp
     (with_reducible refine (rq_numN HN.out _ (by omega)).mono ?_)
     rintro e C5 ⟨_, rfl, h4, hb⟩
     obtain ⟨sh4, ah4, nh4, ch4, Ah4, Nh4, Ch4, rfl⟩ := h4.shape
     replace hs := bStep hs hb
     replace Blk := Blk.mono hb
     replace B4 := B4.mono hb
     replace B3 := B3.mono hb
     replace B1 := B1.mono hb
     replace h2 := h2.mono hb
     replace Bh := cellK Bh hb
     replace Bi := cellK Bi hb
     replace Bj := cellK Bj hb
     clear hb
     try go_wp2_with fail
     refine hK.out _ _ ⟨Bh, Bi, Bj⟩ (fun hH => ?_)
     clear hK K
     try simp only [LY]
     clear hH
     refine U_one (i := 4) (by kernel_rfl) rfl (fun K hK => ?_)
     go_simp
     (with_reducible refine (rDiv h2 h4 (SzQ.fit ss) (SzQ.fit sn) Eo.out).mono ?_)
     rintro e C3 ⟨_, rfl, h5, hb⟩
     obtain ⟨Cq, Cn, Cp, Co, Ck, Cm, Cl, rfl⟩ := h5.shape
     replace hs := bStep hs hb
     replace Blk := Blk.mono hb
     replace B4 := B4.mono hb
     replace B3 := B3.mono hb
     replace B1 := B1.mono hb
     replace h2 := h2.mono hb
     replace h4 := h4.mono hb
     replace Bh := cellK Bh hb
     replace Bi := cellK Bi hb
     replace Bj := cellK Bj hb
     clear hb
     try go_wp2_with fail
     refine hK.out _ _ ⟨Bh, Bi, Bj⟩ (fun hH => ?_)
     clear hK K
     try simp only [LY]
     refine U_tt 5 ?_ ?_ hH ?_
     rotate_left
     ·(intro w Bd; (try dsimp only at Bd); go_simp; try with_reducible rfl)
     try simp only [LY]
     refine U_tt 6 ?_ ?_ hH ?_
     rotate_left
     ·(intro w Bd; (try dsimp only at Bd); go_simp; try with_reducible rfl)
     try simp only [LY]
     refine U_tt 7 ?_ ?_ hH ?_
     rotate_left
     ·(intro w Bd; (try dsimp only at Bd); go_simp; try with_reducible rfl)
     try simp only [LY]
     clear hH
     have B8 : C3.cell? ⟨Bc.heap.size, 0, none⟩ = some (.bool false) := B1.at 0 rfl
     have B9 : C3.cell? ⟨Bc.heap.size, 1, none⟩ = some (.slice none 0 0) := B1.at 1 rfl
     have Ba : C3.cell? ⟨Bc.heap.size, 2, none⟩ = some (.slice none 0 0) := B1.at 2 rfl
     have Jd := B1.free
     have Jc : Bc.heap.size < C3.heap.size := B1.lt
     refine U_one (i := 9) (by kernel_rfl) rfl (fun K hK => ?_)
     go_simp
     generalize hW_ : (((C3.setCell ⟨Bc.heap.size, 0, none⟩ (.bool Cq)).setCell ⟨Bc.heap.size, 1, none⟩ (.slice Cn Cp Co)).setCell ⟨Bc.heap.size, 2, none⟩ (.slice Ck Cm Cl)) = D9
     have hW := hW_.symm
     clear hW_
     have hG : Gr [Bc.heap.size] C3 D9 := by rw [hW]; exact (Gr.refl _ _).set.set.set
     have Cx := hs.size
     have Ed := B1.lt
     have Bk : Below w.heap.size C3 D9 := hG.below1 hs.size (by first | omega | assumption)
     have hk : KeepD C3 D9 := hG.keep ⟨⟨_, B1.ty, by decide⟩, True.intro⟩
     have D4 : Bx D9 (Bc.heap.size) 41 #[.bool Cq, .slice Cn Cp Co, .slice Ck Cm Cl] := by rw [hW]; exact B1.set3
     replace hs := hs.trans Bk
     replace Blk := hG.bx Blk (notMem1 (by omega))
     replace B4 := hG.bx B4 (notMem1 (by omega))
     replace B3 := hG.bx B3 (notMem1 (by omega))
     replace B1 := D4
     clear D4
     replace h2 := h2.keep hk
     replace h4 := h4.keep hk
     replace h5 := h5.keep hk
     replace Bh := hG.cell Bh (notMem1 (by dsimp only; omega))
     replace Bi := hG.cell Bi (notMem1 (by dsimp only; omega))
     replace Bj := hG.cell Bj (notMem1 (by dsimp only; omega))
     clear hW hG hk Bk Cx Ed
     refine hK.out _ _ ⟨Bh, Bi, Bj⟩ (fun hH => ?_)
     clear hK K
     try simp only [LY]
     clear hH
     refine U_last (by kernel_rfl) rfl (by kernel_rfl) (fun K hK => ?_)
     go_simp
     refine hK.out _ _ ?_
     clear hK K
     intro wl hW
     rw [hW]
     clear hW wl
     try simp only [LY]
     clear Bh Bi Bj
     go_wp2_with fail
     go_meet
     exact ⟨Bc.heap.size, _, _, _, _, _, _, _, rfl, rfl, (by first | exact Dh | omega), (by omega), (by omega), (by omega), B1, hs, Blk, B4, B3, h2, h5⟩
   case rest =>
    clear hs Blk B4 B3 h2
    obtain ⟨Bn, Cq, Cn, Cp, Co, Ck, Cm, Cl, rfl, rfl, Kj, Ke, Kd, Kc, B1, hs, Blk, B4, B3, h2, h5⟩ := hcut
    go_wp2_with fail
    with_reducible refine (r_zero _).mono ?_
    rintro e Bc ⟨_, rfl, h6, hb⟩
    obtain ⟨sh6, ah6, nh6, ch6, Ah6, Nh6, Ch6, rfl⟩ := h6.shape
    replace hs := bStep hs hb
    replace Blk := Blk.mono hb
    replace B4 := B4.mono hb
    replace B3 := B3.mono hb
    replace B1 := B1.mono hb
    replace h2 := h2.mono hb
    replace h5 := h5.mono hb
    clear hb
    replace h5 := h5.of_eq HM.out
    go_wp2
    refine Code.abs ?_
    intro Bu hW
    have hG : Gr [] Bc Bu := by rw [hW]; exact (Gr.refl _ _).alloc
    have Bk : Below w.heap.size Bc Bu := hG.below0 hs.size
    have hk : KeepD Bc Bu := hG.keep True.intro
    have sz_w26 : w.heap.size ≤ Bc.heap.size := hs.size
    have nk_w26 : w.heap.size < Bc.heap.size := Blk.lt
    have Kk : w.heap.size + 1 < Bc.heap.size := B4.lt
    have Ki : w3.heap.size < Bc.heap.size := B3.lt
    have Kf : Bn < Bc.heap.size := B1.lt
    have B2 : Bx Bu (Bc.heap.size) 41 #[.bool sh6, .slice ah6 nh6 ch6, .slice Ah6 Nh6 Ch6] := by rw [hW]; exact (Bx.new0 _ _ _)
    replace hs := hs.trans Bk
    replace Blk := hG.bx Blk notMem0
    replace B4 := hG.bx B4 notMem0
    replace B3 := hG.bx B3 notMem0
    replace B1 := hG.bx B1 notMem0
    replace h2 := h2.keep hk
    replace h5 := h5.keep hk
    replace h6 := h6.keep hk
    clear hW hG hk Bk
    have hz_w26 : Bc.heap.size < Bu.heap.size := B2.lt
    go_loopw [11] (fun s11 wq => ∃ j : Nat, j ≤ L.length ∧ s11 = .int .i64 j ∧ Below w.heap.size w wq ∧ Bx wq (w.heap.size) 41 #[.bool false, .slice none 0 0, .slice none 0 0] ∧ Bx wq (w.heap.size + 1) 41 #[.bool false, .slice none 0 0, .slice none 0 0] ∧ Bx wq (w3.heap.size) 41 #[.bool Cc, .slice C9 Cb Ca, .slice C6 C8 C7] ∧ Bx wq (Bn) 41 #[.bool Cq, .slice Cn Cp Co, .slice Ck Cm Cl] ∧ RV wq (.agg #[.bool Cc, .slice C9 Cb Ca, .slice C6 C8 C7]) (su) ∧ RV wq (.agg #[.bool Cq, .slice Cn Cp Co, .slice Ck Cm Cl]) (m) ∧ BoxR wq (Bc.heap.size) (sumQ S j)) (fun s11 _ => L.length - (intOf s11).toNat)
    case atStart => exact ⟨0, Nat.zero_le _, rfl, hs, Blk, B4, B3, B1, h2, h5, ⟨_, _, _, _, _, _, _, B2, h6⟩⟩
    case round =>
     clear Blk B4 B3 B1 B2 h2 h5 h6 hs
     obtain ⟨j, K6, rfl, hs, Blk, B4, B3, B1, h2, h5, ⟨Ef, E9, Ee, Ea, E2, E8, E5, B2, h7⟩⟩ := hrel
     by_cases q8 : j < L.length
     ·have q8d : ((j : Int) < (L.length : Int)) = True := eq_true (by omega)
      go_upto_region 14 with fail
      have BI9a : j < L.length := by omega
      have BI9b : ((j : Int) : Int) < (L.length : Int) := by omega
      obtain ⟨K4, Jy, K7, K1, Jp, Jv, Jt, D0, D1, D2, Da, le10⟩ := rowR_at (HL.out.mono RC.kept hs) (show j < L.length by omega)
      refine U_region (S := fun w' => w'.cell? ⟨Bc.heap.size, 0, none⟩ = some (.bool Ef) ∧ w'.cell? ⟨Bc.heap.size, 1, none⟩ = some (.slice E9 Ee Ea) ∧ w'.cell? ⟨Bc.heap.size, 2, none⟩ = some (.slice E2 E8 E5) ∧ w'.cell? ⟨Bn, 0, none⟩ = some (.bool Cq) ∧ w'.cell? ⟨Bn, 1, none⟩ = some (.slice Cn Cp Co) ∧ w'.cell? ⟨Bn, 2, none⟩ = some (.slice Ck Cm Cl) ∧ w'.cell? ⟨lb, lo + j * 3, none⟩ = some (.bool K4) ∧ w'.cell? ⟨lb, lo + j * 3 + 1, none⟩ = some (.slice Jy K7 K1) ∧ w'.cell? ⟨lb, lo + j * 3 + 2, none⟩ = some (.slice Jp Jv Jt)) (by kernel_rfl) 9 ?_
      refine AnyU.abs ?_
      intro Bl hW
      have hb : Below wr.heap.size wr Bl := by rw [hW]; exact bDrew _
      replace hs := bStep hs hb
      replace Blk := Blk.mono hb
      replace B4 := B4.mono hb
      replace B3 := B3.mono hb
      replace B1 := B1.mono hb
      replace B2 := B2.mono hb
      replace h2 := h2.mono hb
      replace h5 := h5.mono hb
      replace h7 := h7.mono hb
      replace Da := Da.mono hb
      replace D0 := cellK D0 hb
      replace D1 := cellK D1 hb
      replace D2 := cellK D2 hb
      clear hb hW
      have B5 : Bl.cell? ⟨Bc.heap.size, 0, none⟩ = some (.bool Ef) := B2.at 0 rfl
      have B6 : Bl.cell? ⟨Bc.heap.size, 1, none⟩ = some (.slice E9 Ee Ea) := B2.at 1 rfl
      have B7 : Bl.cell? ⟨Bc.heap.size, 2, none⟩ = some (.slice E2 E8 E5) := B2.at 2 rfl
      have B8 : Bl.cell? ⟨Bn, 0, none⟩ = some (.bool Cq) := B1.at 0 rfl
      have B9 : Bl.cell? ⟨Bn, 1, none⟩ = some (.slice Cn Cp Co) := B1.at 1 rfl
      have Ba : Bl.cell? ⟨Bn, 2, none⟩ = some (.slice Ck Cm Cl) := B1.at 2 rfl
      have hH := (show Bl.cell? ⟨Bc.heap.size, 0, none⟩ = some (.bool Ef) ∧ Bl.cell? ⟨Bc.heap.size, 1, none⟩ = some (.slice E9 Ee Ea) ∧ Bl.cell? ⟨Bc.heap.size, 2, none⟩ = some (.slice E2 E8 E5) ∧ Bl.cell? ⟨Bn, 0, none⟩ = some (.bool Cq) ∧ Bl.cell? ⟨Bn, 1, none⟩ = some (.slice Cn Cp Co) ∧ Bl.cell? ⟨Bn, 2, none⟩ = some (.slice Ck Cm Cl) ∧ Bl.cell? ⟨lb, lo + j * 3, none⟩ = some (.bool K4) ∧ Bl.cell? ⟨lb, lo + j * 3 + 1, none⟩ = some (.slice Jy K7 K1) ∧ Bl.cell? ⟨lb, lo + j * 3 + 2, none⟩ = some (.slice Jp Jv Jt) from ⟨B5, B6, B7, B8, B9, Ba, D0, D1, D2⟩)
      refine U_tt 0 ?_ ?_ hH ?_
      rotate_left
      ·(intro w Bd; (try dsimp only at Bd); go_simp; try with_reducible rfl)
      try simp only [LY]
      refine U_tt 1 ?_ ?_ hH ?_
      rotate_left
      ·(intro w Bd; (try dsimp only at Bd); go_simp; try with_reducible rfl)
      try simp only [LY]
      refine U_tt 2 ?_ ?_ hH ?_
      rotate_left
      ·(intro w Bd; (try dsimp only at Bd); go_simp; try with_reducible rfl)
      try simp only [LY]
      refine U_tt 3 ?_ ?_ hH ?_
      rotate_left
      ·(intro w Bd; (try dsimp only at Bd); go_simp; try with_reducible rfl)
      try simp only [LY]
      refine U_tt 4 ?_ ?_ hH ?_
      rotate_left
      ·(intro w Bd; (try dsimp only at Bd); go_simp; try with_reducible rfl)
      try simp only [LY]
      refine U_tt 5 ?_ ?_ hH ?_
      rotate_left
      ·(intro w Bd; (try dsimp only at Bd); go_simp; try with_reducible rfl)
      try simp only [LY]
      clear hH
      refine U_one (i := 6) (by kernel_rfl) rfl (fun K hK => ?_)
      go_simp
      (with_reducible refine (rSub Da h5 (SzQ.fit (HZ.out j (by omega))) (SzQ.fit sm)).mono ?_)
      rintro e Bv ⟨_, rfl, Ej, hb⟩
      obtain ⟨sh11, ah11, nh11, ch11, Ah11, Nh11, Ch11, rfl⟩ := Ej.shape
      replace hs := bStep hs hb
      replace Blk := Blk.mono hb
      replace B4 := B4.mono hb
      replace B3 := B3.mono hb
      replace B1 := B1.mono hb
      replace B2 := B2.mono hb
      replace h2 := h2.mono hb
      replace h5 := h5.mono hb
      replace h7 := h7.mono hb
      replace Da := Da.mono hb
      replace B5 := cellK B5 hb
      replace B6 := cellK B6 hb
      replace B7 := cellK B7 hb
      replace B8 := cellK B8 hb
      replace B9 := cellK B9 hb
      replace Ba := cellK Ba hb
      replace D0 := cellK D0 hb
      replace D1 := cellK D1 hb
      replace D2 := cellK D2 hb
      clear hb
      try go_wp2_with fail
      refine hK.out _ _ ⟨B5, B6, B7, B8, B9, Ba, D0, D1, D2⟩ (fun hH => ?_)
      clear hK K
      try simp only [LY]
      clear hH
      refine U_one (i := 7) (by kernel_rfl) rfl (fun K hK => ?_)
      go_simp
      (with_reducible refine (rq_square _ _ _ Ej (SzQ.mid (SzQ.sub (HZ.out j (by omega)) sm))).mono ?_)
      rintro e Bw ⟨_, rfl, De, hb⟩
      obtain ⟨sh12, ah12, nh12, ch12, Ah12, Nh12, Ch12, rfl⟩ := De.shape
      replace hs := bStep hs hb
      replace Blk := Blk.mono hb
      replace B4 := B4.mono hb
      replace B3 := B3.mono hb
      replace B1 := B1.mono hb
      replace B2 := B2.mono hb
      replace h2 := h2.mono hb
      replace h5 := h5.mono hb
      replace h7 := h7.mono hb
      replace Da := Da.mono hb
      replace Ej := Ej.mono hb
      replace B5 := cellK B5 hb
      replace B6 := cellK B6 hb
      replace B7 := cellK B7 hb
      replace B8 := cellK B8 hb
      replace B9 := cellK B9 hb
      replace Ba := cellK Ba hb
      replace D0 := cellK D0 hb
      replace D1 := cellK D1 hb
      replace D2 := cellK D2 hb
      clear hb
      try go_wp2_with fail
      refine hK.out _ _ ⟨B5, B6, B7, B8, B9, Ba, D0, D1, D2⟩ (fun hH => ?_)
      clear hK K
      try simp only [LY]
      clear hH
      refine U_one (i := 8) (by kernel_rfl) rfl (fun K hK => ?_)
      go_simp
      (with_reducible refine (rAdd h7 De (SzQ.fit (HST.out j (by omega))) (SzQ.fit (SzQ.mul (SzQ.sub (HZ.out j (by omega)) sm) (SzQ.sub (HZ.out j (by omega)) sm)))).mono ?_)
      rintro e By ⟨_, rfl, Eb, hb⟩
      obtain ⟨Ka, K0, K9, K3, Jr, Jx, Js, rfl⟩ := Eb.shape
      replace hs := bStep hs hb
      replace Blk := Blk.mono hb
      replace B4 := B4.mono hb
      replace B3 := B3.mono hb
      replace B1 := B1.mono hb
      replace B2 := B2.mono hb
      replace h2 := h2.mono hb
      replace h5 := h5.mono hb
      replace h7 := h7.mono hb
      replace Da := Da.mono hb
      replace Ej := Ej.mono hb
      replace De := De.mono hb
      replace B5 := cellK B5 hb
      replace B6 := cellK B6 hb
      replace B7 := cellK B7 hb
      replace B8 := cellK B8 hb
      replace B9 := cellK B9 hb
      replace Ba := cellK Ba hb
      replace D0 := cellK D0 hb
      replace D1 := cellK D1 hb
      replace D2 := cellK D2 hb
      clear hb
      try go_wp2_with fail
      refine hK.out _ _ ⟨B5, B6, B7, B8, B9, Ba, D0, D1, D2⟩ (fun hH => ?_)
      clear hK K
      try simp only [LY]
      clear hH
      have B5 : By.cell? ⟨Bc.heap.size, 0, none⟩ = some (.bool Ef) := B2.at 0 rfl
      have B6 : By.cell? ⟨Bc.heap.size, 1, none⟩ = some (.slice E9 Ee Ea) := B2.at 1 rfl
      have B7 : By.cell? ⟨Bc.heap.size, 2, none⟩ = some (.slice E2 E8 E5) := B2.at 2 rfl
      have Kh := B2.free
      have Kg : Bc.heap.size < By.heap.size := B2.lt
      refine U_last (by kernel_rfl) rfl (by kernel_rfl) (fun K hK => ?_)
      go_simp
      refine hK.out _ _ ?_
      clear hK K
      intro D5 hW
      have hG : Gr [Bc.heap.size] By D5 := by rw [hW]; exact (Gr.refl _ _).set.set.set
      have Cx := hs.size
      have J5 := B2.lt
      have Bk : Below w.heap.size By D5 := hG.below1 hs.size (by first | omega | assumption)
      have hk : KeepD By D5 := hG.keep ⟨⟨_, B2.ty, by decide⟩, True.intro⟩
      have E4 : Bx D5 (Bc.heap.size) 41 #[.bool Ka, .slice K0 K9 K3, .slice Jr Jx Js] := by rw [hW]; exact B2.set3
      replace hs := hs.trans Bk
      replace Blk := hG.bx Blk (notMem1 (by omega))
      replace B4 := hG.bx B4 (notMem1 (by omega))
      replace B3 := hG.bx B3 (notMem1 (by omega))
      replace B1 := hG.bx B1 (notMem1 (by omega))
      replace B2 := E4
      clear E4
      replace h2 := h2.keep hk
      replace h5 := h5.keep hk
      replace h7 := h7.keep hk
      replace Da := Da.keep hk
      replace Ej := Ej.keep hk
      replace De := De.keep hk
      replace Eb := Eb.keep hk
      clear hW hG hk Bk Cx J5
      try simp only [LY]
      clear B5 B6 B7 B8 B9 Ba D0 D1 D2
      go_wp2
      go_roundw
      case rel => exact ⟨j + 1, by omega, by go_num, hs, Blk, B4, B3, B1, h2, h5, ⟨_, _, _, _, _, _, _, B2, (Eb.of_eq (sum_sq HS.out (by omega)))⟩⟩
      all_goals first | (simp [intOf]; done) | (simp [intOf]; omega)
     ·have q8d : ((j : Int) < (L.length : Int)) = False := eq_false (by omega)
      obtain rfl : j = L.length := by omega
      replace h7 := h7.of_eq HSV.out
      go_upto_region 15 with fail
      go_cut [12, 13] (fun kv0 kx0 wz => ∃ Bm Cj Cg Ci Ch Cd Cf Ce, kv0 = .pointer (some ⟨Bm, 0, none⟩) ∧ kx0 = .int .i64 0 ∧ w.heap.size ≤ Bm ∧ Bm ≠ w.heap.size ∧ Bm ≠ (w.heap.size + 1) ∧ Bm ≠ w3.heap.size ∧ Bm ≠ Bn ∧ Bm ≠ Bc.heap.size ∧ Bx wz Bm 41 #[.bool Cj, .slice Cg Ci Ch, .slice Cd Cf Ce] ∧ Below w.heap.size w wz ∧ Bx wz (w.heap.size) 41 #[.bool false, .slice none 0 0, .slice none 0 0] ∧ Bx wz (w.heap.size + 1) 41 #[.bool false, .slice none 0 0, .slice none 0 0] ∧ Bx wz (w3.heap.size) 41 #[.bool Cc, .slice C9 Cb Ca, .slice C6 C8 C7] ∧ Bx wz (Bn) 41 #[.bool Cq, .slice Cn Cp Co, .slice Ck Cm Cl] ∧ Bx wz (Bc.heap.size) 41 #[.bool Ef, .slice E9 Ee Ea, .slice E2 E8 E5] ∧ RV wz (.agg #[.bool Cc, .slice C9 Cb Ca, .slice C6 C8 C7]) (su) ∧ RV wz (.agg #[.bool Cq, .slice Cn Cp Co, .slice Ck Cm Cl]) (m) ∧ RV wz (.agg #[.bool Ef, .slice E9 Ee Ea, .slice E2 E8 E5]) (sv) ∧ RV wz (.agg #[.bool Cj, .slice Cg Ci Ch, .slice Cd Cf Ce]) (sv / n))
      case first =>
       refine U_region (S := fun w' => w'.cell? ⟨Bc.heap.size, 0, none⟩ = some (.bool Ef) ∧ w'.cell? ⟨Bc.heap.size, 1, none⟩ = some (.slice E9 Ee Ea) ∧ w'.cell? ⟨Bc.heap.size, 2, none⟩ = some (.slice E2 E8 E5)) (by kernel_rfl) 10 ?_
       refine AnyU.abs ?_
       intro Bl hW
       have hb : Below wr.heap.size wr Bl := by rw [hW]; exact bDrew _
       replace hs := bStep hs hb
       replace Blk := Blk.mono hb
       replace B4 := B4.mono hb
       replace B3 := B3.mono hb
       replace B1 := B1.mono hb
       replace B2 := B2.mono hb
       replace h2 := h2.mono hb
       replace h5 := h5.mono hb
       replace h7 := h7.mono hb
       clear hb hW
       have B5 : Bl.cell? ⟨Bc.heap.size, 0, none⟩ = some (.bool Ef) := B2.at 0 rfl
       have B6 : Bl.cell? ⟨Bc.heap.size, 1, none⟩ = some (.slice E9 Ee Ea) := B2.at 1 rfl
       have B7 : Bl.cell? ⟨Bc.heap.size, 2, none⟩ = some (.slice E2 E8 E5) := B2.at 2 rfl
       have hH := (show Bl.cell? ⟨Bc.heap.size, 0, none⟩ = some (.bool Ef) ∧ Bl.cell? ⟨Bc.heap.size, 1, none⟩ = some (.slice E9 Ee Ea) ∧ Bl.cell? ⟨Bc.heap.size, 2, none⟩ = some (.slice E2 E8 E5) from ⟨B5, B6, B7⟩)
       refine U_tt 0 ?_ ?_ hH ?_
       rotate_left
       ·(intro w Bd; (try dsimp only at Bd); go_simp; try with_reducible rfl)
       try simp only [LY]
       refine U_tt 1 ?_ ?_ hH ?_
       rotate_left
       ·(intro w Bd; (try dsimp only at Bd); go_simp; try with_reducible rfl)
       try simp only [LY]
       refine U_tt 2 ?_ ?_ hH ?_
       rotate_left
       ·(intro w Bd; (try dsimp only at Bd); go_simp; try with_reducible rfl)
       try simp only [LY]
       refine U_two (i := 3) (j := 8) (by kernel_rfl) rfl rfl (fun K hK => ?_) (fun K hK => ?_)
       ·clear hH
        go_simp
        (with_reducible refine (rq_numN HN.out _ (by omega)).mono ?_)
        rintro e Bv ⟨_, rfl, h9, hb⟩
        obtain ⟨sh9, ah9, nh9, ch9, Ah9, Nh9, Ch9, rfl⟩ := h9.shape
        replace hs := bStep hs hb
        replace Blk := Blk.mono hb
        replace B4 := B4.mono hb
        replace B3 := B3.mono hb
        replace B1 := B1.mono hb
        replace B2 := B2.mono hb
        replace h2 := h2.mono hb
        replace h5 := h5.mono hb
        replace h7 := h7.mono hb
        replace B5 := cellK B5 hb
        replace B6 := cellK B6 hb
        replace B7 := cellK B7 hb
        clear hb
        try go_wp2_with fail
        refine hK.out _ _ ⟨B5, B6, B7⟩ (fun hH => ?_)
        clear hK K
        try simp only [LY]
        refine U_two (i := 4) (j := 8) (by kernel_rfl) rfl rfl (fun K hK => ?_) (fun K hK => ?_)
        ·clear hH
         go_simp
         (with_reducible refine (rDiv h7 h9 (SzQ.fit st) (SzQ.fit sn) Eo.out).mono ?_)
         rintro e Bw ⟨_, rfl, C4, hb⟩
         obtain ⟨Cj, Cg, Ci, Ch, Cd, Cf, Ce, rfl⟩ := C4.shape
         replace hs := bStep hs hb
         replace Blk := Blk.mono hb
         replace B4 := B4.mono hb
         replace B3 := B3.mono hb
         replace B1 := B1.mono hb
         replace B2 := B2.mono hb
         replace h2 := h2.mono hb
         replace h5 := h5.mono hb
         replace h7 := h7.mono hb
         replace h9 := h9.mono hb
         replace B5 := cellK B5 hb
         replace B6 := cellK B6 hb
         replace B7 := cellK B7 hb
         clear hb
         try go_wp2_with fail
         refine hK.out _ _ ⟨B5, B6, B7⟩ (fun hH => ?_)
         clear hK K
         try simp only [LY]
         refine U_tt 5 ?_ ?_ hH ?_
         rotate_left
         ·(intro w Bd; (try dsimp only at Bd); go_simp; try with_reducible rfl)
         try simp only [LY]
         refine U_tt 6 ?_ ?_ hH ?_
         rotate_left
         ·(intro w Bd; (try dsimp only at Bd); go_simp; try with_reducible rfl)
         try simp only [LY]
         refine U_tt 7 ?_ ?_ hH ?_
         rotate_left
         ·(intro w Bd; (try dsimp only at Bd); go_simp; try with_reducible rfl)
         try simp only [LY]
         clear hH
         refine U_one (i := 8) (by kernel_rfl) rfl (fun K hK => ?_)
         go_simp
         generalize hWn : (Bw.alloc (.cells #[.bool false, .slice none 0 0, .slice none 0 0] 41)) = By
         have hb : Below Bw.heap.size Bw By := by rw [← hWn]; exact (Below.refl _ _).alloc (Nat.le_refl _) _
         have B0 : Bx By (Bw.heap.size) 41 #[.bool false, .slice none 0 0, .slice none 0 0] := by rw [← hWn]; exact Bx.new _ _ _
         have Dy : w.heap.size ≠ Bw.heap.size := by have := Blk.lt; omega
         have Dt : w.heap.size + 1 ≠ Bw.heap.size := by have := B4.lt; omega
         have Dp : w3.heap.size ≠ Bw.heap.size := by have := B3.lt; omega
         have Df : Bn ≠ Bw.heap.size := by have := B1.lt; omega
         have D8 : Bc.heap.size ≠ Bw.heap.size := by have := B2.lt; omega
         have D3 : w.heap.size ≤ Bw.heap.size := hs.size
         replace hs := bStep hs hb
         replace Blk := Blk.mono hb
         replace B4 := B4.mono hb
         replace B3 := B3.mono hb
         replace B1 := B1.mono hb
         replace B2 := B2.mono hb
         replace h2 := h2.mono hb
         replace h5 := h5.mono hb
         replace h7 := h7.mono hb
         replace h9 := h9.mono hb
         replace C4 := C4.mono hb
         replace B5 := cellK B5 hb
         replace B6 := cellK B6 hb
         replace B7 := cellK B7 hb
         clear hb hWn
         refine hK.out _ _ ⟨B5, B6, B7⟩ (fun hH => ?_)
         clear hK K
         try simp only [LY]
         clear hH
         have Be : By.cell? ⟨Bw.heap.size, 0, none⟩ = some (.bool false) := B0.at 0 rfl
         have Bf : By.cell? ⟨Bw.heap.size, 1, none⟩ = some (.slice none 0 0) := B0.at 1 rfl
         have Bg : By.cell? ⟨Bw.heap.size, 2, none⟩ = some (.slice none 0 0) := B0.at 2 rfl
         have Ei := B0.free
         have Eh : Bw.heap.size < By.heap.size := B0.lt
         refine U_one (i := 9) (by kernel_rfl) rfl (fun K hK => ?_)
         go_simp
         generalize hW_ : (((By.setCell ⟨Bw.heap.size, 0, none⟩ (.bool Cj)).setCell ⟨Bw.heap.size, 1, none⟩ (.slice Cg Ci Ch)).setCell ⟨Bw.heap.size, 2, none⟩ (.slice Cd Cf Ce)) = D5
         have hW := hW_.symm
         clear hW_
         have hG : Gr [Bw.heap.size] By D5 := by rw [hW]; exact (Gr.refl _ _).set.set.set
         have Cx := hs.size
         have D7 := B0.lt
         have Bk : Below w.heap.size By D5 := hG.below1 hs.size (by first | omega | assumption)
         have hk : KeepD By D5 := hG.keep ⟨⟨_, B0.ty, by decide⟩, True.intro⟩
         have C2 : Bx D5 (Bw.heap.size) 41 #[.bool Cj, .slice Cg Ci Ch, .slice Cd Cf Ce] := by rw [hW]; exact B0.set3
         replace hs := hs.trans Bk
         replace Blk := hG.bx Blk (notMem1 (by omega))
         replace B4 := hG.bx B4 (notMem1 (by omega))
         replace B3 := hG.bx B3 (notMem1 (by omega))
         replace B1 := hG.bx B1 (notMem1 (by omega))
         replace B2 := hG.bx B2 (notMem1 (by omega))
         replace B0 := C2
         clear C2
         replace h2 := h2.keep hk
         replace h5 := h5.keep hk
         replace h7 := h7.keep hk
         replace h9 := h9.keep hk
         replace C4 := C4.keep hk
         replace B5 := hG.cell B5 (notMem1 (by dsimp only; omega))
         replace B6 := hG.cell B6 (notMem1 (by dsimp only; omega))
         replace B7 := hG.cell B7 (notMem1 (by dsimp only; omega))
         clear hW hG hk Bk Cx D7
         refine hK.out _ _ ⟨B5, B6, B7⟩ (fun hH => ?_)
         clear hK K
         try simp only [LY]
         clear hH
         refine U_last (by kernel_rfl) rfl (by kernel_rfl) (fun K hK => ?_)
         go_simp
         refine hK.out _ _ ?_
         clear hK K
         intro wl hW
         rw [hW]
         clear hW wl
         try simp only [LY]
         clear B5 B6 B7
         go_wp2_with fail
         go_meet
         exact ⟨Bw.heap.size, _, _, _, _, _, _, _, rfl, rfl, (by first | exact D3 | omega), (by omega), (by omega), (by omega), (by omega), (by omega), B0, hs, Blk, B4, B3, B1, B2, h2, h5, h7, C4⟩
        ·clear hH
         go_simp
         generalize hWn : (Bv.alloc (.cells #[.bool false, .slice none 0 0, .slice none 0 0] 41)) = Bw
         have hb : Below Bv.heap.size Bv Bw := by rw [← hWn]; exact (Below.refl _ _).alloc (Nat.le_refl _) _
         have B0 : Bx Bw (Bv.heap.size) 41 #[.bool false, .slice none 0 0, .slice none 0 0] := by rw [← hWn]; exact Bx.new _ _ _
         have Dy : w.heap.size ≠ Bv.heap.size := by have := Blk.lt; omega
         have Dt : w.heap.size + 1 ≠ Bv.heap.size := by have := B4.lt; omega
         have Dp : w3.heap.size ≠ Bv.heap.size := by have := B3.lt; omega
         have Df : Bn ≠ Bv.heap.size := by have := B1.lt; omega
         have D8 : Bc.heap.size ≠ Bv.heap.size := by have := B2.lt; omega
         have D3 : w.heap.size ≤ Bv.heap.size := hs.size
         replace hs := bStep hs hb
         replace Blk := Blk.mono hb
         replace B4 := B4.mono hb
         replace B3 := B3.mono hb
         replace B1 := B1.mono hb
         replace B2 := B2.mono hb
         replace h2 := h2.mono hb
         replace h5 := h5.mono hb
         replace h7 := h7.mono hb
         replace h9 := h9.mono hb
         replace B5 := cellK B5 hb
         replace B6 := cellK B6 hb
         replace B7 := cellK B7 hb
         clear hb hWn
         refine hK.out _ _ ⟨B5, B6, B7⟩ (fun hH => ?_)
         clear hK K
         try simp only [LY]
         clear hH
         refine U_one (i := 4) (by kernel_rfl) rfl (fun K hK => ?_)
         go_simp
         (with_reducible refine (rDiv h7 h9 (SzQ.fit st) (SzQ.fit sn) Eo.out).mono ?_)
         rintro e By ⟨_, rfl, C4, hb⟩
         obtain ⟨Cj, Cg, Ci, Ch, Cd, Cf, Ce, rfl⟩ := C4.shape
         replace hs := bStep hs hb
         replace Blk := Blk.mono hb
         replace B4 := B4.mono hb
         replace B3 := B3.mono hb
         replace B1 := B1.mono hb
         replace B2 := B2.mono hb
         replace B0 := B0.mono hb
         replace h2 := h2.mono hb
         replace h5 := h5.mono hb
         replace h7 := h7.mono hb
         replace h9 := h9.mono hb
         replace B5 := cellK B5 hb
         replace B6 := cellK B6 hb
         replace B7 := cellK B7 hb
         clear hb
         try go_wp2_with fail
         refine hK.out _ _ ⟨B5, B6, B7⟩ (fun hH => ?_)
         clear hK K
         try simp only [LY]
         refine U_tt 5 ?_ ?_ hH ?_
         rotate_left
         ·(intro w Bd; (try dsimp only at Bd); go_simp; try with_reducible rfl)
         try simp only [LY]
         refine U_tt 6 ?_ ?_ hH ?_
         rotate_left
         ·(intro w Bd; (try dsimp only at Bd); go_simp; try with_reducible rfl)
         try simp only [LY]
         refine U_tt 7 ?_ ?_ hH ?_
         rotate_left
         ·(intro w Bd; (try dsimp only at Bd); go_simp; try with_reducible rfl)
         try simp only [LY]
         clear hH
         have Be : By.cell? ⟨Bv.heap.size, 0, none⟩ = some (.bool false) := B0.at 0 rfl
         have Bf : By.cell? ⟨Bv.heap.size, 1, none⟩ = some (.slice none 0 0) := B0.at 1 rfl
         have Bg : By.cell? ⟨Bv.heap.size, 2, none⟩ = some (.slice none 0 0) := B0.at 2 rfl
         have Ei := B0.free
         have Eh : Bv.heap.size < By.heap.size := B0.lt
         refine U_one (i := 9) (by kernel_rfl) rfl (fun K hK => ?_)
         go_simp
         generalize hW_ : (((By.setCell ⟨Bv.heap.size, 0, none⟩ (.bool Cj)).setCell ⟨Bv.heap.size, 1, none⟩ (.slice Cg Ci Ch)).setCell ⟨Bv.heap.size, 2, none⟩ (.slice Cd Cf Ce)) = D5
         have hW := hW_.symm
         clear hW_
         have hG : Gr [Bv.heap.size] By D5 := by rw [hW]; exact (Gr.refl _ _).set.set.set
         have Cx := hs.size
         have D7 := B0.lt
         have Bk : Below w.heap.size By D5 := hG.below1 hs.size (by first | omega | assumption)
         have hk : KeepD By D5 := hG.keep ⟨⟨_, B0.ty, by decide⟩, True.intro⟩
         have C2 : Bx D5 (Bv.heap.size) 41 #[.bool Cj, .slice Cg Ci Ch, .slice Cd Cf Ce] := by rw [hW]; exact B0.set3
         replace hs := hs.trans Bk
         replace Blk := hG.bx Blk (notMem1 (by omega))
         replace B4 := hG.bx B4 (notMem1 (by omega))
         replace B3 := hG.bx B3 (notMem1 (by omega))
         replace B1 := hG.bx B1 (notMem1 (by omega))
         replace B2 := hG.bx B2 (notMem1 (by omega))
         replace B0 := C2
         clear C2
         replace h2 := h2.keep hk
         replace h5 := h5.keep hk
         replace h7 := h7.keep hk
         replace h9 := h9.keep hk
         replace C4 := C4.keep hk
         replace B5 := hG.cell B5 (notMem1 (by dsimp only; omega))
         replace B6 := hG.cell B6 (notMem1 (by dsimp only; omega))
         replace B7 := hG.cell B7 (notMem1 (by dsimp only; omega))
         clear hW hG hk Bk Cx D7
         refine hK.out _ _ ⟨B5, B6, B7⟩ (fun hH => ?_)
         clear hK K
         try simp only [LY]
         clear hH
         refine U_last (by kernel_rfl) rfl (by kernel_rfl) (fun K hK => ?_)
         go_simp
         refine hK.out _ _ ?_
         clear hK K
         intro wl hW
         rw [hW]
         clear hW wl
         try simp only [LY]
         clear B5 B6 B7
         go_wp2_with fail
         go_meet
         exact ⟨Bv.heap.size, _, _, _, _, _, _, _, rfl, rfl, (by first | exact D3 | omega), (by omega), (by omega), (by omega), (by omega), (by omega), B0, hs, Blk, B4, B3, B1, B2, h2, h5, h7, C4⟩
       ·clear hH
        go_simp
        generalize hWn : (Bl.alloc (.cells #[.bool false, .slice none 0 0, .slice none 0 0] 41)) = Bv
        have hb : Below Bl.heap.size Bl Bv := by rw [← hWn]; exact (Below.refl _ _).alloc (Nat.le_refl _) _
        have B0 : Bx Bv (Bl.heap.size) 41 #[.bool false, .slice none 0 0, .slice none 0 0] := by rw [← hWn]; exact Bx.new _ _ _
        have Dy : w.heap.size ≠ Bl.heap.size := by have := Blk.lt; omega
        have Dt : w.heap.size + 1 ≠ Bl.heap.size := by have := B4.lt; omega
        have Dp : w3.heap.size ≠ Bl.heap.size := by have := B3.lt; omega
        have Df : Bn ≠ Bl.heap.size := by have := B1.lt; omega
        have D8 : Bc.heap.size ≠ Bl.heap.size := by have := B2.lt; omega
        have D3 : w.heap.size ≤ Bl.heap.size := hs.size
        replace hs := bStep hs hb
        replace Blk := Blk.mono hb
        replace B4 := B4.mono hb
        replace B3 := B3.mono hb
        replace B1 := B1.mono hb
        replace B2 := B2.mono hb
        replace h2 := h2.mono hb
        replace h5 := h5.mono hb
        replace h7 := h7.mono hb
        replace B5 := cellK B5 hb
        replace B6 := cellK B6 hb
        replace B7 := cellK B7 hb
        clear hb hWn
        refine hK.out _ _ ⟨B5, B6, B7⟩ (fun hH => ?_)
        clear hK K
        try simp only [LY]
        clear hH
        refine U_one (i := 3) (by kernel_rfl) rfl (fun K hK => ?_)
        go_simp
        (with_reducible refine (rq_numN HN.out _ (by omega)).mono ?_)
        rintro e Bw ⟨_, rfl, h9, hb⟩
        obtain ⟨sh9, ah9, nh9, ch9, Ah9, Nh9, Ch9, rfl⟩ := h9.shape
        replace hs := bStep hs hb
        replace Blk := Blk.mono hb
        replace B4 := B4.mono hb
        replace B3 := B3.mono hb
        replace B1 := B1.mono hb
        replace B2 := B2.mono hb
        replace B0 := B0.mono hb
        replace h2 := h2.mono hb
        replace h5 := h5.mono hb
        replace h7 := h7.mono hb
        replace B5 := cellK B5 hb
        replace B6 := cellK B6 hb
        replace B7 := cellK B7 hb
        clear hb
        try go_wp2_with fail
        refine hK.out _ _ ⟨B5, B6, B7⟩ (fun hH => ?_)
        clear hK K
        try simp only [LY]
        clear hH
        refine U_one (i := 4) (by kernel_rfl) rfl (fun K hK => ?_)
        go_simp
        (with_reducible refine (rDiv h7 h9 (SzQ.fit st) (SzQ.fit sn) Eo.out).mono ?_)
        rintro e By ⟨_, rfl, C4, hb⟩
        obtain ⟨Cj, Cg, Ci, Ch, Cd, Cf, Ce, rfl⟩ := C4.shape
        replace hs := bStep hs hb
        replace Blk := Blk.mono hb
        replace B4 := B4.mono hb
        replace B3 := B3.mono hb
        replace B1 := B1.mono hb
        replace B2 := B2.mono hb
        replace B0 := B0.mono hb
        replace h2 := h2.mono hb
        replace h5 := h5.mono hb
        replace h7 := h7.mono hb
        replace h9 := h9.mono hb
        replace B5 := cellK B5 hb
        replace B6 := cellK B6 hb
        replace B7 := cellK B7 hb
        clear hb
        try go_wp2_with fail
        refine hK.out _ _ ⟨B5, B6, B7⟩ (fun hH => ?_)
        clear hK K
        try simp only [LY]
        refine U_tt 5 ?_ ?_ hH ?_
        rotate_left
        ·(intro w Bd; (try dsimp only at Bd); go_simp; try with_reducible rfl)
        try simp only [LY]
        refine U_tt 6 ?_ ?_ hH ?_
        rotate_left
        ·(intro w Bd; (try dsimp only at Bd); go_simp; try with_reducible rfl)
        try simp only [LY]
        refine U_tt 7 ?_ ?_ hH ?_
        rotate_left
        ·(intro w Bd; (try dsimp only at Bd); go_simp; try with_reducible rfl)
        try simp only [LY]
        clear hH
        have Be : By.cell? ⟨Bl.heap.size, 0, none⟩ = some (.bool false) := B0.at 0 rfl
        have Bf : By.cell? ⟨Bl.heap.size, 1, none⟩ = some (.slice none 0 0) := B0.at 1 rfl
        have Bg : By.cell? ⟨Bl.heap.size, 2, none⟩ = some (.slice none 0 0) := B0.at 2 rfl
        have Ei := B0.free
        have Eh : Bl.heap.size < By.heap.size := B0.lt
        refine U_one (i := 9) (by kernel_rfl) rfl (fun K hK => ?_)
        go_simp
        generalize hW_ : (((By.setCell ⟨Bl.heap.size, 0, none⟩ (.bool Cj)).setCell ⟨Bl.heap.size, 1, none⟩ (.slice Cg Ci Ch)).setCell ⟨Bl.heap.size, 2, none⟩ (.slice Cd Cf Ce)) = D5
        have hW := hW_.symm
        clear hW_
        have hG : Gr [Bl.heap.size] By D5 := by rw [hW]; exact (Gr.refl _ _).set.set.set
        have Cx := hs.size
        have D7 := B0.lt
        have Bk : Below w.heap.size By D5 := hG.below1 hs.size (by first | omega | assumption)
        have hk : KeepD By D5 := hG.keep ⟨⟨_, B0.ty, by decide⟩, True.intro⟩
        have C2 : Bx D5 (Bl.heap.size) 41 #[.bool Cj, .slice Cg Ci Ch, .slice Cd Cf Ce] := by rw [hW]; exact B0.set3
        replace hs := hs.trans Bk
        replace Blk := hG.bx Blk (notMem1 (by omega))
        replace B4 := hG.bx B4 (notMem1 (by omega))
        replace B3 := hG.bx B3 (notMem1 (by omega))
        replace B1 := hG.bx B1 (notMem1 (by omega))
        replace B2 := hG.bx B2 (notMem1 (by omega))
        replace B0 := C2
        clear C2
        replace h2 := h2.keep hk
        replace h5 := h5.keep hk
        replace h7 := h7.keep hk
        replace h9 := h9.keep hk
        replace C4 := C4.keep hk
        replace B5 := hG.cell B5 (notMem1 (by dsimp only; omega))
        replace B6 := hG.cell B6 (notMem1 (by dsimp only; omega))
        replace B7 := hG.cell B7 (notMem1 (by dsimp only; omega))
        clear hW hG hk Bk Cx D7
        refine hK.out _ _ ⟨B5, B6, B7⟩ (fun hH => ?_)
        clear hK K
        try simp only [LY]
        clear hH
        refine U_last (by kernel_rfl) rfl (by kernel_rfl) (fun K hK => ?_)
        go_simp
        refine hK.out _ _ ?_
        clear hK K
        intro wl hW
        rw [hW]
        clear hW wl
        try simp only [LY]
        clear B5 B6 B7
        go_wp2_with fail
        go_meet
        exact ⟨Bl.heap.size, _, _, _, _, _, _, _, rfl, rfl, (by first | exact D3 | omega), (by omega), (by omega), (by omega), (by omega), (by omega), B0, hs, Blk, B4, B3, B1, B2, h2, h5, h7, C4⟩
      case rest =>
       clear hs Blk B4 B3 B1 B2 h2 h5 h7
       obtain ⟨Bm, Cj, Cg, Ci, Ch, Cd, Cf, Ce, rfl, rfl, Kb, Jo, Jn, Jk, J6, Et, B0, hs, Blk, B4, B3, B1, B2, h2, h5, h7, C4⟩ := hcut
       go_upto_region 16 with fail
       refine U_region (S := fun w' => w'.cell? ⟨Bn, 0, none⟩ = some (.bool Cq) ∧ w'.cell? ⟨Bn, 1, none⟩ = some (.slice Cn Cp Co) ∧ w'.cell? ⟨Bn, 2, none⟩ = some (.slice Ck Cm Cl) ∧ w'.cell? ⟨Bm, 0, none⟩ = some (.bool Cj) ∧ w'.cell? ⟨Bm, 1, none⟩ = some (.slice Cg Ci Ch) ∧ w'.cell? ⟨Bm, 2, none⟩ = some (.slice Cd Cf Ce)) (by kernel_rfl) 4 ?_
       refine AnyU.abs ?_
       intro Bl hW
       have hb : Below wc.heap.size wc Bl := by rw [hW]; exact bDrew _
       replace hs := bStep hs hb
       replace Blk := Blk.mono hb
       replace B4 := B4.mono hb
       replace B3 := B3.mono hb
       replace B1 := B1.mono hb
       replace B2 := B2.mono hb
       replace B0 := B0.mono hb
       replace h2 := h2.mono hb
       replace h5 := h5.mono hb
       replace h7 := h7.mono hb
       replace C4 := C4.mono hb
       clear hb hW
       have B8 : Bl.cell? ⟨Bn, 0, none⟩ = some (.bool Cq) := B1.at 0 rfl
       have B9 : Bl.cell? ⟨Bn, 1, none⟩ = some (.slice Cn Cp Co) := B1.at 1 rfl
       have Ba : Bl.cell? ⟨Bn, 2, none⟩ = some (.slice Ck Cm Cl) := B1.at 2 rfl
       have Be : Bl.cell? ⟨Bm, 0, none⟩ = some (.bool Cj) := B0.at 0 rfl
       have Bf : Bl.cell? ⟨Bm, 1, none⟩ = some (.slice Cg Ci Ch) := B0.at 1 rfl
       have Bg : Bl.cell? ⟨Bm, 2, none⟩ = some (.slice Cd Cf Ce) := B0.at 2 rfl
       have hH := (show Bl.cell? ⟨Bn, 0, none⟩ = some (.bool Cq) ∧ Bl.cell? ⟨Bn, 1, none⟩ = some (.slice Cn Cp Co) ∧ Bl.cell? ⟨Bn, 2, none⟩ = some (.slice Ck Cm Cl) ∧ Bl.cell? ⟨Bm, 0, none⟩ = some (.bool Cj) ∧ Bl.cell? ⟨Bm, 1, none⟩ = some (.slice Cg Ci Ch) ∧ Bl.cell? ⟨Bm, 2, none⟩ = some (.slice Cd Cf Ce) from ⟨B8, B9, Ba, Be, Bf, Bg⟩)
       refine U_tt 0 ?_ ?_ hH ?_
       rotate_left
       ·(intro w Bd; (try dsimp only at Bd); go_simp; try with_reducible rfl)
       try simp only [LY]
       refine U_tt 1 ?_ ?_ hH ?_
       rotate_left
       ·(intro w Bd; (try dsimp only at Bd); go_simp; try with_reducible rfl)
       try simp only [LY]
       clear hH
       have Db : Bl.cell? ⟨w.heap.size, 0, none⟩ = some (.bool false) := Blk.at 0 rfl
       have Dc : Bl.cell? ⟨w.heap.size, 1, none⟩ = some (.slice none 0 0) := Blk.at 1 rfl
       have Dd : Bl.cell? ⟨w.heap.size, 2, none⟩ = some (.slice none 0 0) := Blk.at 2 rfl
       have fk := Blk.free
       have Lk : w.heap.size < Bl.heap.size := Blk.lt
       refine U_one (i := 2) (by kernel_rfl) rfl (fun K hK => ?_)
       go_simp
       generalize hW_ : (((Bl.setCell ⟨w.heap.size, 0, none⟩ (.bool Cq)).setCell ⟨w.heap.size, 1, none⟩ (.slice Cn Cp Co)).setCell ⟨w.heap.size, 2, none⟩ (.slice Ck Cm Cl)) = Bv
       have hW := hW_.symm
       clear hW_
       have hG : Gr [w.heap.size] Bl Bv := by rw [hW]; exact (Gr.refl _ _).set.set.set
       have Cx := hs.size
       have lk := Blk.lt
       have Bk : Below w.heap.size Bl Bv := hG.below1 hs.size (by first | omega | assumption)
       have hk : KeepD Bl Bv := hG.keep ⟨⟨_, Blk.ty, by decide⟩, True.intro⟩
       have Dr : Bx Bv (w.heap.size) 41 #[.bool Cq, .slice Cn Cp Co, .slice Ck Cm Cl] := by rw [hW]; exact Blk.set3
       replace hs := hs.trans Bk
       replace B4 := hG.bx B4 (notMem1 (by omega))
       replace B3 := hG.bx B3 (notMem1 (by omega))
       replace B1 := hG.bx B1 (notMem1 (by omega))
       replace B2 := hG.bx B2 (notMem1 (by omega))
       replace B0 := hG.bx B0 (notMem1 (by omega))
       replace Blk := Dr
       clear Dr
       replace h2 := h2.keep hk
       replace h5 := h5.keep hk
       replace h7 := h7.keep hk
       replace C4 := C4.keep hk
       replace B8 := hG.cell B8 (notMem1 (by dsimp only; omega))
       replace B9 := hG.cell B9 (notMem1 (by dsimp only; omega))
       replace Ba := hG.cell Ba (notMem1 (by dsimp only; omega))
       replace Be := hG.cell Be (notMem1 (by dsimp only; omega))
       replace Bf := hG.cell Bf (notMem1 (by dsimp only; omega))
       replace Bg := hG.cell Bg (notMem1 (by dsimp only; omega))
       clear hW hG hk Bk Cx lk
       refine hK.out _ _ ⟨B8, B9, Ba, Be, Bf, Bg⟩ (fun hH => ?_)
       clear hK K
       try simp only [LY]
       clear hH
       have Du : Bv.cell? ⟨w.heap.size + 1, 0, none⟩ = some (.bool false) := B4.at 0 rfl
       have Dv : Bv.cell? ⟨w.heap.size + 1, 1, none⟩ = some (.slice none 0 0) := B4.at 1 rfl
       have Dw : Bv.cell? ⟨w.heap.size + 1, 2, none⟩ = some (.slice none 0 0) := B4.at 2 rfl
       have fk1 := B4.free
       have Lk1 : w.heap.size + 1 < Bv.heap.size := B4.lt
       refine U_one (i := 3) (by kernel_rfl) rfl (fun K hK => ?_)
       go_simp
       generalize hW_ : (((Bv.setCell ⟨w.heap.size + 1, 0, none⟩ (.bool Cj)).setCell ⟨w.heap.size + 1, 1, none⟩ (.slice Cg Ci Ch)).setCell ⟨w.heap.size + 1, 2, none⟩ (.slice Cd Cf Ce)) = Bw
       have hW := hW_.symm
       clear hW_
       have hG : Gr [w.heap.size + 1] Bv Bw := by rw [hW]; exact (Gr.refl _ _).set.set.set
       have Cx := hs.size
       have lk1 := B4.lt
       have Bk : Below w.heap.size Bv Bw := hG.below1 hs.size (by first | omega | assumption)
       have hk : KeepD Bv Bw := hG.keep ⟨⟨_, B4.ty, by decide⟩, True.intro⟩
       have E3 : Bx Bw (w.heap.size + 1) 41 #[.bool Cj, .slice Cg Ci Ch, .slice Cd Cf Ce] := by rw [hW]; exact B4.set3
       replace hs := hs.trans Bk
       replace Blk := hG.bx Blk (notMem1 (by omega))
       replace B3 := hG.bx B3 (notMem1 (by omega))
       replace B1 := hG.bx B1 (notMem1 (by omega))
       replace B2 := hG.bx B2 (notMem1 (by omega))
       replace B0 := hG.bx B0 (notMem1 (by omega))
       replace B4 := E3
       clear E3
       replace h2 := h2.keep hk
       replace h5 := h5.keep hk
       replace h7 := h7.keep hk
       replace C4 := C4.keep hk
       replace B8 := hG.cell B8 (notMem1 (by dsimp only; omega))
       replace B9 := hG.cell B9 (notMem1 (by dsimp only; omega))
       replace Ba := hG.cell Ba (notMem1 (by dsimp only; omega))
       replace Be := hG.cell Be (notMem1 (by dsimp only; omega))
       replace Bf := hG.cell Bf (notMem1 (by dsimp only; omega))
       replace Bg := hG.cell Bg (notMem1 (by dsimp only; omega))
       clear hW hG hk Bk Cx lk1
       refine hK.out _ _ ⟨B8, B9, Ba, Be, Bf, Bg⟩ (fun hH => ?_)
       clear hK K
       try simp only [LY]
       clear hH
       refine U_last (by kernel_rfl) rfl (by kernel_rfl) (fun K hK => ?_)
       go_simp
       refine hK.out _ _ ?_
       clear hK K
       intro wl hW
       rw [hW]
       clear hW wl
       try simp only [LY]
       clear B8 B9 Ba Be Bf Bg
       go_wp2
       have Db : Bw.cell? ⟨w.heap.size, 0, none⟩ = some (.bool Cq) := Blk.at 0 rfl
       have Dc : Bw.cell? ⟨w.heap.size, 1, none⟩ = some (.slice Cn Cp Co) := Blk.at 1 rfl
       have Dd : Bw.cell? ⟨w.heap.size, 2, none⟩ = some (.slice Ck Cm Cl) := Blk.at 2 rfl
       have Du : Bw.cell? ⟨w.heap.size + 1, 0, none⟩ = some (.bool Cj) := B4.at 0 rfl
       have Dv : Bw.cell? ⟨w.heap.size + 1, 1, none⟩ = some (.slice Cg Ci Ch) := B4.at 1 rfl
       have Dw : Bw.cell? ⟨w.heap.size + 1, 2, none⟩ = some (.slice Cd Cf Ce) := B4.at 2 rfl
       exact bodyPost_ret (v := .tuple #[.agg #[.bool Cq, .slice Cn Cp Co, .slice Ck Cm Cl], .agg #[.bool Cj, .slice Cg Ci Ch, .slice Cd Cf Ce], .int .i64 0]) (by simp [results, Tryz.results14, go_sem, Db, Dc, Dd, Du, Dv, Dw]) rfl ⟨_, _, _, rfl, h5, C4.of_eq HV.out, rfl, hs⟩
theorem r8_Outlier_few {v vu : Value} {L : List Rat} {mo : Rat} (w : World) (hl : Rows 3 41 RC w v L) (hu : RV w vu mo) (su : SzQ 1 mo) (g1 : ¬ (1 ≤ L.length ∧ L.length ≤ 64)) : Calls Tryz.prog 16 #[v, vu] w (RetV w (.tuple #[.int .i64 0, .int .i64 4])) := by
 obtain ⟨aL, kL, rfl, Je, Jf, -⟩ := hl.toI.slice
 have HL := Lib.hid hl
 clear hl
 obtain ⟨Dq, Dm, Do, Dn, Dj, Dl, Dk, rfl⟩ := hu.shape
 have HC := Lib.hid (True.intro)
 have hs := Below.refl w.heap.size w
 go_enter Tryz.func16, Tryz.ntmps16
 go_wp2_with fail
 refine Calls.abs ?_
 intro w1 hW
 have hG : Gr [] w w1 := by rw [hW]; exact (Gr.refl _ _).alloc
 have Bk : Below w.heap.size w w1 := hG.below0 hs.size
 have hk : KeepD w w1 := hG.keep True.intro
 have Eg : w.heap.size ≤ w.heap.size := hs.size
 have Bb : Bx w1 (w.heap.size) 41 #[.bool Dq, .slice Dm Do Dn, .slice Dj Dl Dk] := by rw [hW]; exact (Bx.new0 _ _ _)
 replace hs := hs.trans Bk
 replace hu := hu.keep hk
 clear hW hG hk Bk
 have Ec : w.heap.size < w1.heap.size := Bb.lt
 with_reducible refine (r8_Mean_bad _ (HL.out.mono RC.kept hs) g1).mono ?_
 rintro e w2 ⟨_, _, _, rfl, h1, h2, rfl, hb⟩
 obtain ⟨Cz, Cv, Cy, Cw, Cs, Cu, Ct, rfl⟩ := h1.shape
 obtain ⟨Cc, C9, Cb, Ca, C6, C8, C7, rfl⟩ := h2.shape
 replace hs := bStep hs hb
 replace Bb := Bb.mono hb
 replace hu := hu.mono hb
 clear hb
 go_wp2
 refine bodyPost.abs ?_
 intro w3 hW
 have hG : Gr [] w2 w3 := by rw [hW]; exact (Gr.refl _ _).alloc.alloc
 have Bk : Below w.heap.size w2 w3 := hG.below0 hs.size
 have hk : KeepD w2 w3 := hG.keep True.intro
 have Jm : w.heap.size ≤ w2.heap.size := hs.size
 have En : w.heap.size < w2.heap.size := Bb.lt
 have B1 : Bx w3 (w2.heap.size) 41 #[.bool Cz, .slice Cv Cy Cw, .slice Cs Cu Ct] := by rw [hW]; exact ((Bx.new0 _ _ _).alloc _)
 have B0 : Bx w3 (w2.heap.size + 1) 41 #[.bool Cc, .slice C9 Cb Ca, .slice C6 C8 C7] := by rw [hW]; exact (Bx.new0 _ _ _)
 replace hs := hs.trans Bk
 replace Bb := hG.bx Bb notMem0
 replace hu := hu.keep hk
 replace h1 := h1.keep hk
 replace h2 := h2.keep hk
 clear hW hG hk Bk
 have Jj : w2.heap.size + 1 < w3.heap.size := B0.lt
 go_ret2
 exact ⟨rfl, hs⟩
theorem r8_Outlier_arg {v vu : Value} {L : List Rat} {mo : Rat} (w : World) (hl : Rows 3 41 RC w v L) (hu : RV w vu mo) (su : SzQ 1 mo) (g1 : 1 ≤ L.length) (g20 : L.length ≤ 20) (hz : ∀ i, i < L.length → SzQ 1 (nthQ L i)) (hc : mo < 0) : Calls Tryz.prog 16 #[v, vu] w (RetV w (.tuple #[.int .i64 0, .int .i64 1])) := by
 obtain ⟨aL, kL, rfl, Je, Jf, -⟩ := hl.toI.slice
 have HL := Lib.hid hl
 clear hl
 obtain ⟨Dq, Dm, Do, Dn, Dj, Dl, Dk, rfl⟩ := hu.shape
 obtain ⟨m, hm⟩ : ∃ m, meanQ L = m := ⟨_, rfl⟩
 obtain ⟨va, Ds⟩ : ∃ m, varQ L = m := ⟨_, rfl⟩
 have sm : SzQ (20 * 1 + 101) m := hm ▸ mean_sz hz g1 g20
 obtain ⟨S, hS⟩ : ∃ S, sqK L m L.length = S := ⟨_, rfl⟩
 have lS : S.length = L.length := by rw [← hS, sqK_len L m (Nat.le_refl _)]
 have sS : ∀ i, i < S.length → SzQ 300 (nthQ S i) := fun i hi => hS ▸ (sqK_sz hz sm (by omega)).mono (by omega)
 have Dx : sumQ S L.length / ((L.length : Int) : Rat) = va := by subst Ds hm; rw [← lS]; subst hS; rfl
 have Jl : SzQ 7000 va := by
  have := mean_sz sS (by omega) (by omega)
  rw [show meanQ S = va from by rw [← Dx, ← lS]; rfl] at this
  exact this.mono (by omega)
 have HC := Lib.hid hc
 have HZ := Lib.hid hz
 have HM := Lib.hid hm
 have HVA := Lib.hid Ds
 have HS := Lib.hid hS
 clear hz hm Ds lS hS sS Dx hc
 have hs := Below.refl w.heap.size w
 go_enter Tryz.func16, Tryz.ntmps16
 go_wp2_with fail
 refine Calls.abs ?_
 intro w1 hW
 have hG : Gr [] w w1 := by rw [hW]; exact (Gr.refl _ _).alloc
 have Bk : Below w.heap.size w w1 := hG.below0 hs.size
 have hk : KeepD w w1 := hG.keep True.intro
 have Eg : w.heap.size ≤ w.heap.size := hs.size
 have Bb : Bx w1 (w.heap.size) 41 #[.bool Dq, .slice Dm Do Dn, .slice Dj Dl Dk] := by rw [hW]; exact (Bx.new0 _ _ _)
 replace hs := hs.trans Bk
 replace hu := hu.keep hk
 clear hW hG hk Bk
 have Ec : w.heap.size < w1.heap.size := Bb.lt
 with_reducible refine (r8_Mean_ok _ (HL.out.mono RC.kept hs) g1 g20 HZ.out HM.out HVA.out).mono ?_
 rintro e w2 ⟨_, _, _, rfl, h1, h2, rfl, hb⟩
 obtain ⟨Cz, Cv, Cy, Cw, Cs, Cu, Ct, rfl⟩ := h1.shape
 obtain ⟨Cc, C9, Cb, Ca, C6, C8, C7, rfl⟩ := h2.shape
 replace hs := bStep hs hb
 replace Bb := Bb.mono hb
 replace hu := hu.mono hb
 clear hb
 have Br : w2.cell? ⟨w.heap.size, 0, none⟩ = some (.bool Dq) := Bb.at 0 rfl
 have Bs : w2.cell? ⟨w.heap.size, 1, none⟩ = some (.slice Dm Do Dn) := Bb.at 1 rfl
 have Bt : w2.cell? ⟨w.heap.size, 2, none⟩ = some (.slice Dj Dl Dk) := Bb.at 2 rfl
 have Eq : w.heap.size < w2.heap.size := Bb.lt
 go_wp2_with fail
 clear Br Bs Bt Eq
 refine Calls.abs ?_
 intro w3 hW
 have hG : Gr [] w2 w3 := by rw [hW]; exact (Gr.refl _ _).alloc.alloc
 have Bk : Below w.heap.size w2 w3 := hG.below0 hs.size
 have hk : KeepD w2 w3 := hG.keep True.intro
 have Jm : w.heap.size ≤ w2.heap.size := hs.size
 have En : w.heap.size < w2.heap.size := Bb.lt
 have B1 : Bx w3 (w2.heap.size) 41 #[.bool Cz, .slice Cv Cy Cw, .slice Cs Cu Ct] := by rw [hW]; exact ((Bx.new0 _ _ _).alloc _)
 have B0 : Bx w3 (w2.heap.size + 1) 41 #[.bool Cc, .slice C9 Cb Ca, .slice C6 C8 C7] := by rw [hW]; exact (Bx.new0 _ _ _)
 replace hs := hs.trans Bk
 replace Bb := hG.bx Bb notMem0
 replace hu := hu.keep hk
 replace h1 := h1.keep hk
 replace h2 := h2.keep hk
 clear hW hG hk Bk
 have Jj : w2.heap.size + 1 < w3.heap.size := B0.lt
 with_reducible refine (rSign hu).mono ?_
 rintro e w4 ⟨rfl, hb⟩
 replace hs := bStep hs hb
 replace Bb := Bb.mono hb
 replace B1 := B1.mono hb
 replace B0 := B0.mono hb
 replace hu := hu.mono hb
 replace h1 := h1.mono hb
 replace h2 := h2.mono hb
 clear hb
 obtain ⟨J4, Di⟩ : ∃ s : Int, s = sgQ mo := ⟨_, rfl⟩
 rw [← Di]
 replace Di := Lib.hid Di
 have q4 : mo < 0 := HC.out
 have q4_ : J4 < 0 := by have h := s1_lt mo; rw [← Di.out] at h; exact h.2 q4
 have q4H := Lib.hid q4
 clear q4
 have q4d : decide (J4 < 0) = true := decide_eq_true q4_
 go_wp2
 go_ret2
 exact ⟨rfl, hs⟩
theorem r8_Outlier_ok {v vu : Value} {L : List Rat} {mo : Rat} (w : World) (hl : Rows 3 41 RC w v L) (hu : RV w vu mo) (su : SzQ 1 mo) (g1 : 1 ≤ L.length) (g20 : L.length ≤ 20) (hz : ∀ i, i < L.length → SzQ 1 (nthQ L i)) (hc : ¬ mo < 0) {r : Int} (hr : outV L mo = r) : Calls Tryz.prog 16 #[v, vu] w (RetV w (.tuple #[.int .i64 r, .int .i64 0])) := by
 obtain ⟨lb, lo, kL, rfl, Je, Jf, -⟩ := hl.open_ (by omega)
 have HL := Lib.hid hl
 clear hl
 obtain ⟨Dq, Dm, Do, Dn, Dj, Dl, Dk, rfl⟩ := hu.shape
 obtain ⟨m, hm⟩ : ∃ m, meanQ L = m := ⟨_, rfl⟩
 obtain ⟨va, Ds⟩ : ∃ m, varQ L = m := ⟨_, rfl⟩
 have sm : SzQ (20 * 1 + 101) m := hm ▸ mean_sz hz g1 g20
 obtain ⟨S, hS⟩ : ∃ S, sqK L m L.length = S := ⟨_, rfl⟩
 have lS : S.length = L.length := by rw [← hS, sqK_len L m (Nat.le_refl _)]
 have sS : ∀ i, i < S.length → SzQ 300 (nthQ S i) := fun i hi => hS ▸ (sqK_sz hz sm (by omega)).mono (by omega)
 have Dx : sumQ S L.length / ((L.length : Int) : Rat) = va := by subst Ds hm; rw [← lS]; subst hS; rfl
 have Jl : SzQ 7000 va := by
  have := mean_sz sS (by omega) (by omega)
  rw [show meanQ S = va from by rw [← Dx, ← lS]; rfl] at this
  exact this.mono (by omega)
 obtain ⟨A0, J1⟩ : ∃ a : Nat, mxF S L.length = a := ⟨_, rfl⟩
 have hA1 : A0 < L.length := J1 ▸ mxF_le S L.length (by omega)
 have hr2 : (if mo * va < (nthQ L A0 - m) * (nthQ L A0 - m) then (A0 : Int) else -1) = r := by
  rw [← hr]; unfold outV
  have hsq : nthQ S A0 = (nthQ L A0 - m) * (nthQ L A0 - m) := by rw [← hS]; exact sqK_at hA1
  rw [Ds, hm, hS, J1, hsq]
 have HA0 := Lib.hid J1
 have HR := Lib.hid hr2
 have HC := Lib.hid hc
 have HZ := Lib.hid hz
 have HM := Lib.hid hm
 have HVA := Lib.hid Ds
 have HS := Lib.hid hS
 clear hz hm Ds lS hS sS Dx hc
 clear J1 hr2 hr
 have hs := Below.refl w.heap.size w
 go_enter Tryz.func16, Tryz.ntmps16
 go_wp2_with fail
 refine Calls.abs ?_
 intro w1 hW
 have hG : Gr [] w w1 := by rw [hW]; exact (Gr.refl _ _).alloc
 have Bk : Below w.heap.size w w1 := hG.below0 hs.size
 have hk : KeepD w w1 := hG.keep True.intro
 have Eg : w.heap.size ≤ w.heap.size := hs.size
 have Bb : Bx w1 (w.heap.size) 41 #[.bool Dq, .slice Dm Do Dn, .slice Dj Dl Dk] := by rw [hW]; exact (Bx.new0 _ _ _)
 replace hs := hs.trans Bk
 replace hu := hu.keep hk
 clear hW hG hk Bk
 have Ec : w.heap.size < w1.heap.size := Bb.lt
 with_reducible refine (r8_Mean_ok _ (HL.out.mono RC.kept hs) g1 g20 HZ.out HM.out HVA.out).mono ?_
 rintro e w2 ⟨_, _, _, rfl, h1, h2, rfl, hb⟩
 obtain ⟨Cz, Cv, Cy, Cw, Cs, Cu, Ct, rfl⟩ := h1.shape
 obtain ⟨Cc, C9, Cb, Ca, C6, C8, C7, rfl⟩ := h2.shape
 replace hs := bStep hs hb
 replace Bb := Bb.mono hb
 replace hu := hu.mono hb
 clear hb
 have Br : w2.cell? ⟨w.heap.size, 0, none⟩ = some (.bool Dq) := Bb.at 0 rfl
 have Bs : w2.cell? ⟨w.heap.size, 1, none⟩ = some (.slice Dm Do Dn) := Bb.at 1 rfl
 have Bt : w2.cell? ⟨w.heap.size, 2, none⟩ = some (.slice Dj Dl Dk) := Bb.at 2 rfl
 have Eq : w.heap.size < w2.heap.size := Bb.lt
 go_wp2_with fail
 clear Br Bs Bt Eq
 refine Calls.abs ?_
 intro w3 hW
 have hG : Gr [] w2 w3 := by rw [hW]; exact (Gr.refl _ _).alloc.alloc
 have Bk : Below w.heap.size w2 w3 := hG.below0 hs.size
 have hk : KeepD w2 w3 := hG.keep True.intro
 have Jm : w.heap.size ≤ w2.heap.size := hs.size
 have En : w.heap.size < w2.heap.size := Bb.lt
 have B1 : Bx w3 (w2.heap.size) 41 #[.bool Cz, .slice Cv Cy Cw, .slice Cs Cu Ct] := by rw [hW]; exact ((Bx.new0 _ _ _).alloc _)
 have B0 : Bx w3 (w2.heap.size + 1) 41 #[.bool Cc, .slice C9 Cb Ca, .slice C6 C8 C7] := by rw [hW]; exact (Bx.new0 _ _ _)
 replace hs := hs.trans Bk
 replace Bb := hG.bx Bb notMem0
 replace hu := hu.keep hk
 replace h1 := h1.keep hk
 replace h2 := h2.keep hk
 clear hW hG hk Bk
 have Jj : w2.heap.size + 1 < w3.heap.size := B0.lt
 with_reducible refine (rSign hu).mono ?_
 rintro e w4 ⟨rfl, hb⟩
 replace hs := bStep hs hb
 replace Bb := Bb.mono hb
 replace B1 := B1.mono hb
 replace B0 := B0.mono hb
 replace hu := hu.mono hb
 replace h1 := h1.mono hb
 replace h2 := h2.mono hb
 clear hb
 obtain ⟨J4, Di⟩ : ∃ s : Int, s = sgQ mo := ⟨_, rfl⟩
 rw [← Di]
 replace Di := Lib.hid Di
 have q4 : ¬ (mo < 0) := HC.out
 have q4_ : ¬ (J4 < 0) := by have h := s1_lt mo; rw [← Di.out] at h; exact fun h1 => q4 (h.1 h1)
 have q4H := Lib.hid q4
 clear q4
 have q4d : decide (J4 < 0) = false := decide_eq_false q4_
 go_wp2
 go_loopw [9, 10] (fun s9 s10 wq => ∃ k : Nat, k ≤ L.length ∧ s10 = .int .i64 k ∧ s9 = .int .i64 (((mxF S k : Nat) : Int)) ∧ Below w.heap.size w wq ∧ Bx wq (w.heap.size) 41 #[.bool Dq, .slice Dm Do Dn, .slice Dj Dl Dk] ∧ Bx wq (w2.heap.size) 41 #[.bool Cz, .slice Cv Cy Cw, .slice Cs Cu Ct] ∧ Bx wq (w2.heap.size + 1) 41 #[.bool Cc, .slice C9 Cb Ca, .slice C6 C8 C7] ∧ RV wq (.agg #[.bool Dq, .slice Dm Do Dn, .slice Dj Dl Dk]) (mo) ∧ RV wq (.agg #[.bool Cz, .slice Cv Cy Cw, .slice Cs Cu Ct]) (m) ∧ RV wq (.agg #[.bool Cc, .slice C9 Cb Ca, .slice C6 C8 C7]) (va)) (fun s9 s10 _ => L.length - (intOf s10).toNat)
 case atStart => exact ⟨0, Nat.zero_le _, rfl, rfl, hs, Bb, B1, B0, hu, h1, h2⟩
 case round =>
  clear Bb B1 B0 hu h1 h2 hs
  obtain ⟨k, K6, rfl, rfl, hs, Bb, B1, B0, hu, h1, h2⟩ := hrel
  obtain ⟨ax, J2⟩ : ∃ a : Nat, mxF S k = a := ⟨_, rfl⟩
  rw [J2]
  have hax : ax ≤ k := J2 ▸ mxF_lt S k
  have hax2 : 0 < k → ax < k := fun h_ => J2 ▸ mxF_le S k h_
  have HAT := Lib.hid J2
  clear J2
  by_cases q5 : k < L.length
  ·have q5d : ((k : Int) < (L.length : Int)) = True := eq_true (by omega)
   go_upto_region 10 with fail
   have BI6a : k < L.length := by omega
   have BI6b : ((k : Int) : Int) < (L.length : Int) := by omega
   obtain ⟨J0, Ey, J3, Ez, Eu, Ex, Ew, Bo, Bp, Bq, Cr, le7⟩ := rowR_at (HL.out.mono RC.kept hs) (show k < L.length by omega)
   have BI10a : ax < L.length := by omega
   have BI10b : ((ax : Int) : Int) < (L.length : Int) := by omega
   obtain ⟨K5, Jz, K8, K2, Jq, Jw, Ju, Bz, C0, C1, D6, le11⟩ := rowR_at (HL.out.mono RC.kept hs) (show ax < L.length by omega)
   obtain ⟨Es, E7⟩ : ∃ s : Int, s = sgQ (((nthQ L k - m) * (nthQ L k - m)) - ((nthQ L ax - m) * (nthQ L ax - m))) := ⟨_, rfl⟩
   replace E7 := Lib.hid E7
   refine U_region (S := fun w' => w'.cell? ⟨w2.heap.size, 0, none⟩ = some (.bool Cz) ∧ w'.cell? ⟨w2.heap.size, 1, none⟩ = some (.slice Cv Cy Cw) ∧ w'.cell? ⟨w2.heap.size, 2, none⟩ = some (.slice Cs Cu Ct) ∧ w'.cell? ⟨lb, lo + k * 3, none⟩ = some (.bool J0) ∧ w'.cell? ⟨lb, lo + k * 3 + 1, none⟩ = some (.slice Ey J3 Ez) ∧ w'.cell? ⟨lb, lo + k * 3 + 2, none⟩ = some (.slice Eu Ex Ew) ∧ w'.cell? ⟨lb, lo + ax * 3, none⟩ = some (.bool K5) ∧ w'.cell? ⟨lb, lo + ax * 3 + 1, none⟩ = some (.slice Jz K8 K2) ∧ w'.cell? ⟨lb, lo + ax * 3 + 2, none⟩ = some (.slice Jq Jw Ju)) (by kernel_rfl) 16 ?_
   refine AnyU.abs ?_
   intro Bc hW
   have hb : Below wr.heap.size wr Bc := by rw [hW]; exact bDrew _
   replace hs := bStep hs hb
   replace Bb := Bb.mono hb
   replace B1 := B1.mono hb
   replace B0 := B0.mono hb
   replace hu := hu.mono hb
   replace h1 := h1.mono hb
   replace h2 := h2.mono hb
   replace Cr := Cr.mono hb
   replace D6 := D6.mono hb
   replace Bo := cellK Bo hb
   replace Bp := cellK Bp hb
   replace Bq := cellK Bq hb
   replace Bz := cellK Bz hb
   replace C0 := cellK C0 hb
   replace C1 := cellK C1 hb
   clear hb hW
   have B8 : Bc.cell? ⟨w2.heap.size, 0, none⟩ = some (.bool Cz) := B1.at 0 rfl
   have B9 : Bc.cell? ⟨w2.heap.size, 1, none⟩ = some (.slice Cv Cy Cw) := B1.at 1 rfl
   have Ba : Bc.cell? ⟨w2.heap.size, 2, none⟩ = some (.slice Cs Cu Ct) := B1.at 2 rfl
   have hH := (show Bc.cell? ⟨w2.heap.size, 0, none⟩ = some (.bool Cz) ∧ Bc.cell? ⟨w2.heap.size, 1, none⟩ = some (.slice Cv Cy Cw) ∧ Bc.cell? ⟨w2.heap.size, 2, none⟩ = some (.slice Cs Cu Ct) ∧ Bc.cell? ⟨lb, lo + k * 3, none⟩ = some (.bool J0) ∧ Bc.cell? ⟨lb, lo + k * 3 + 1, none⟩ = some (.slice Ey J3 Ez) ∧ Bc.cell? ⟨lb, lo + k * 3 + 2, none⟩ = some (.slice Eu Ex Ew) ∧ Bc.cell? ⟨lb, lo + ax * 3, none⟩ = some (.bool K5) ∧ Bc.cell? ⟨lb, lo + ax * 3 + 1, none⟩ = some (.slice Jz K8 K2) ∧ Bc.cell? ⟨lb, lo + ax * 3 + 2, none⟩ = some (.slice Jq Jw Ju) from ⟨B8, B9, Ba, Bo, Bp, Bq, Bz, C0, C1⟩)
   refine U_tk 0 29 ?_ ?_ hH ?_
   rotate_left
   ·(intro w Bd; (try dsimp only at Bd); go_simp; try with_reducible rfl)
   simp only [LY]
   refine U_tk 1 30 ?_ ?_ hH ?_
   rotate_left
   ·(intro w Bd; (try dsimp only at Bd); go_simp; try with_reducible rfl)
   simp only [LY]
   refine U_tk 2 31 ?_ ?_ hH ?_
   rotate_left
   ·(intro w Bd; (try dsimp only at Bd); go_simp; try with_reducible rfl)
   simp only [LY]
   refine U_tk 3 32 ?_ ?_ hH ?_
   rotate_left
   ·(intro w Bd; (try dsimp only at Bd); go_simp; try with_reducible rfl)
   simp only [LY]
   refine U_tk 4 33 ?_ ?_ hH ?_
   rotate_left
   ·(intro w Bd; (try dsimp only at Bd); go_simp; try with_reducible rfl)
   simp only [LY]
   refine U_tk 7 36 ?_ ?_ hH ?_
   rotate_left
   ·(intro w Bd; (try dsimp only at Bd); go_simp; try with_reducible rfl)
   simp only [LY]
   refine U_tk 8 37 ?_ ?_ hH ?_
   rotate_left
   ·(intro w Bd; (try dsimp only at Bd); go_simp; try with_reducible rfl)
   simp only [LY]
   refine U_tk 9 38 ?_ ?_ hH ?_
   rotate_left
   ·(intro w Bd; (try dsimp only at Bd); go_simp; try with_reducible rfl)
   simp only [LY]
   refine U_tk 10 39 ?_ ?_ hH ?_
   rotate_left
   ·(intro w Bd; (try dsimp only at Bd); go_simp; try with_reducible rfl)
   simp only [LY]
   refine U_tk 11 40 ?_ ?_ hH ?_
   rotate_left
   ·(intro w Bd; (try dsimp only at Bd); go_simp; try with_reducible rfl)
   simp only [LY]
   clear hH
   refine U_one (i := 5) (by kernel_rfl) rfl (fun K hK => ?_)
   go_simp
   (with_reducible refine (rSub Cr h1 (SzQ.fit (HZ.out k (by omega))) (SzQ.fit sm)).mono ?_)
   rintro e Bu ⟨_, rfl, h8, hb⟩
   obtain ⟨sh8, ah8, nh8, ch8, Ah8, Nh8, Ch8, rfl⟩ := h8.shape
   replace hs := bStep hs hb
   replace Bb := Bb.mono hb
   replace B1 := B1.mono hb
   replace B0 := B0.mono hb
   replace hu := hu.mono hb
   replace h1 := h1.mono hb
   replace h2 := h2.mono hb
   replace Cr := Cr.mono hb
   replace D6 := D6.mono hb
   replace B8 := cellK B8 hb
   replace B9 := cellK B9 hb
   replace Ba := cellK Ba hb
   replace Bo := cellK Bo hb
   replace Bp := cellK Bp hb
   replace Bq := cellK Bq hb
   replace Bz := cellK Bz hb
   replace C0 := cellK C0 hb
   replace C1 := cellK C1 hb
   clear hb
   try go_wp2_with fail
   refine hK.out _ _ ⟨B8, B9, Ba, Bo, Bp, Bq, Bz, C0, C1⟩ (fun hH => ?_)
   clear hK K
   try simp only [LY]
   clear hH
   refine U_one (i := 6) (by kernel_rfl) rfl (fun K hK => ?_)
   go_simp
   (with_reducible refine (rq_square _ _ _ h8 (SzQ.mid (SzQ.sub (HZ.out k (by omega)) sm))).mono ?_)
   rintro e C5 ⟨_, rfl, h9, hb⟩
   obtain ⟨sh9, ah9, nh9, ch9, Ah9, Nh9, Ch9, rfl⟩ := h9.shape
   replace hs := bStep hs hb
   replace Bb := Bb.mono hb
   replace B1 := B1.mono hb
   replace B0 := B0.mono hb
   replace hu := hu.mono hb
   replace h1 := h1.mono hb
   replace h2 := h2.mono hb
   replace Cr := Cr.mono hb
   replace D6 := D6.mono hb
   replace h8 := h8.mono hb
   replace B8 := cellK B8 hb
   replace B9 := cellK B9 hb
   replace Ba := cellK Ba hb
   replace Bo := cellK Bo hb
   replace Bp := cellK Bp hb
   replace Bq := cellK Bq hb
   replace Bz := cellK Bz hb
   replace C0 := cellK C0 hb
   replace C1 := cellK C1 hb
   clear hb
   try go_wp2_with fail
   refine hK.out _ _ ⟨B8, B9, Ba, Bo, Bp, Bq, Bz, C0, C1⟩ (fun hH => ?_)
   clear hK K
   try simp only [LY]
   clear hH
   refine U_one (i := 12) (by kernel_rfl) rfl (fun K hK => ?_)
   go_simp
   (with_reducible refine (rSub D6 h1 (SzQ.fit (HZ.out ax (by omega))) (SzQ.fit sm)).mono ?_)
   rintro e C3 ⟨_, rfl, De, hb⟩
   obtain ⟨sh12, ah12, nh12, ch12, Ah12, Nh12, Ch12, rfl⟩ := De.shape
   replace hs := bStep hs hb
   replace Bb := Bb.mono hb
   replace B1 := B1.mono hb
   replace B0 := B0.mono hb
   replace hu := hu.mono hb
   replace h1 := h1.mono hb
   replace h2 := h2.mono hb
   replace Cr := Cr.mono hb
   replace D6 := D6.mono hb
   replace h8 := h8.mono hb
   replace h9 := h9.mono hb
   replace B8 := cellK B8 hb
   replace B9 := cellK B9 hb
   replace Ba := cellK Ba hb
   replace Bo := cellK Bo hb
   replace Bp := cellK Bp hb
   replace Bq := cellK Bq hb
   replace Bz := cellK Bz hb
   replace C0 := cellK C0 hb
   replace C1 := cellK C1 hb
   clear hb
   try go_wp2_with fail
   refine hK.out _ _ ⟨B8, B9, Ba, Bo, Bp, Bq, Bz, C0, C1⟩ (fun hH => ?_)
   clear hK K
   try simp only [LY]
   clear hH
   refine U_one (i := 13) (by kernel_rfl) rfl (fun K hK => ?_)
   go_simp
   (with_reducible refine (rq_square _ _ _ De (SzQ.mid (SzQ.sub (HZ.out ax (by omega)) sm))).mono ?_)
   rintro e D9 ⟨_, rfl, Eb, hb⟩
   obtain ⟨Ka, K0, K9, K3, Jr, Jx, Js, rfl⟩ := Eb.shape
   replace hs := bStep hs hb
   replace Bb := Bb.mono hb
   replace B1 := B1.mono hb
   replace B0 := B0.mono hb
   replace hu := hu.mono hb
   replace h1 := h1.mono hb
   replace h2 := h2.mono hb
   replace Cr := Cr.mono hb
   replace D6 := D6.mono hb
   replace h8 := h8.mono hb
   replace h9 := h9.mono hb
   replace De := De.mono hb
   replace B8 := cellK B8 hb
   replace B9 := cellK B9 hb
   replace Ba := cellK Ba hb
   replace Bo := cellK Bo hb
   replace Bp := cellK Bp hb
   replace Bq := cellK Bq hb
   replace Bz := cellK Bz hb
   replace C0 := cellK C0 hb
   replace C1 := cellK C1 hb
   clear hb
   try go_wp2_with fail
   refine hK.out _ _ ⟨B8, B9, Ba, Bo, Bp, Bq, Bz, C0, C1⟩ (fun hH => ?_)
   clear hK K
   try simp only [LY]
   clear hH
   refine U_one (i := 14) (by kernel_rfl) rfl (fun K hK => ?_)
   go_simp
   (with_reducible refine (rCmp h9 Eb (SzQ.fit (SzQ.mul (SzQ.sub (HZ.out k (by omega)) sm) (SzQ.sub (HZ.out k (by omega)) sm))) (SzQ.fit (SzQ.mul (SzQ.sub (HZ.out ax (by omega)) sm) (SzQ.sub (HZ.out ax (by omega)) sm)))).mono ?_)
   rintro e w30 ⟨rfl, hb⟩
   replace hs := bStep hs hb
   replace Bb := Bb.mono hb
   replace B1 := B1.mono hb
   replace B0 := B0.mono hb
   replace hu := hu.mono hb
   replace h1 := h1.mono hb
   replace h2 := h2.mono hb
   replace Cr := Cr.mono hb
   replace D6 := D6.mono hb
   replace h8 := h8.mono hb
   replace h9 := h9.mono hb
   replace De := De.mono hb
   replace Eb := Eb.mono hb
   replace B8 := cellK B8 hb
   replace B9 := cellK B9 hb
   replace Ba := cellK Ba hb
   replace Bo := cellK Bo hb
   replace Bp := cellK Bp hb
   replace Bq := cellK Bq hb
   replace Bz := cellK Bz hb
   replace C0 := cellK C0 hb
   replace C1 := cellK C1 hb
   clear hb
   rw [← E7.out]
   try go_wp2_with fail
   refine hK.out _ _ ⟨B8, B9, Ba, Bo, Bp, Bq, Bz, C0, C1⟩ (fun hH => ?_)
   clear hK K
   try simp only [LY]
   refine U_tk 15 44 ?_ ?_ hH ?_
   rotate_left
   ·(intro w Bd; (try dsimp only at Bd); go_simp; try with_reducible rfl)
   simp only [LY]
   clear hH
   refine U_endN (by kernel_rfl) ?_
   clear B8 B9 Ba Bo Bp Bq Bz C0 C1
   by_cases q15 : (nthQ L ax - m) * (nthQ L ax - m) < (nthQ L k - m) * (nthQ L k - m)
   ·have Ja : 0 < Es := by have h := sq_gt ((nthQ L k - m) * (nthQ L k - m)) ((nthQ L ax - m) * (nthQ L ax - m)); rw [← E7.out] at h; exact h.2 q15
    have J9 := Lib.hid q15
    clear q15
    have q15d : decide (0 < Es) = true := decide_eq_true Ja
    go_wp2
    go_roundw
    case rel => exact ⟨k + 1, by omega, by go_num, (congrArg (fun z : Nat => Value.int .i64 (z : Int)) (mx_yes HS.out (by omega) HAT.out (by omega) J9.out).symm), hs, Bb, B1, B0, hu, h1, h2⟩
    all_goals first | (simp [intOf]; done) | (simp [intOf]; omega)
   ·have Ja : ¬ (0 < Es) := by have h := sq_gt ((nthQ L k - m) * (nthQ L k - m)) ((nthQ L ax - m) * (nthQ L ax - m)); rw [← E7.out] at h; exact fun h1 => q15 (h.1 h1)
    have J9 := Lib.hid q15
    clear q15
    have q15d : decide (0 < Es) = false := decide_eq_false Ja
    go_wp2
    go_roundw
    case rel => exact ⟨k + 1, by omega, by go_num, (congrArg (fun z : Nat => Value.int .i64 (z : Int)) (mx_no HS.out (by omega) HAT.out (by omega) J9.out).symm), hs, Bb, B1, B0, hu, h1, h2⟩
    all_goals first | (simp [intOf]; done) | (simp [intOf]; omega)
  ·have q5d : ((k : Int) < (L.length : Int)) = False := eq_false (by omega)
   obtain rfl : k = L.length := by omega
   obtain rfl : ax = A0 := HAT.out.symm.trans HA0.out
   have J1 : ax < L.length := hax2 (by omega)
   go_upto_region 12 with fail
   have BI6a : ax < L.length := by omega
   have BI6b : ((ax : Int) : Int) < (L.length : Int) := by omega
   obtain ⟨J0, Ey, J3, Ez, Eu, Ex, Ew, Bo, Bp, Bq, Cr, le7⟩ := rowR_at (HL.out.mono RC.kept hs) (show ax < L.length by omega)
   obtain ⟨Er, E6⟩ : ∃ s : Int, s = sgQ (((nthQ L ax - m) * (nthQ L ax - m)) - (mo * va)) := ⟨_, rfl⟩
   replace E6 := Lib.hid E6
   refine U_region (S := fun w' => w'.cell? ⟨w2.heap.size, 0, none⟩ = some (.bool Cz) ∧ w'.cell? ⟨w2.heap.size, 1, none⟩ = some (.slice Cv Cy Cw) ∧ w'.cell? ⟨w2.heap.size, 2, none⟩ = some (.slice Cs Cu Ct) ∧ w'.cell? ⟨w.heap.size, 0, none⟩ = some (.bool Dq) ∧ w'.cell? ⟨w.heap.size, 1, none⟩ = some (.slice Dm Do Dn) ∧ w'.cell? ⟨w.heap.size, 2, none⟩ = some (.slice Dj Dl Dk) ∧ w'.cell? ⟨w2.heap.size + 1, 0, none⟩ = some (.bool Cc) ∧ w'.cell? ⟨w2.heap.size + 1, 1, none⟩ = some (.slice C9 Cb Ca) ∧ w'.cell? ⟨w2.heap.size + 1, 2, none⟩ = some (.slice C6 C8 C7) ∧ w'.cell? ⟨lb, lo + ax * 3, none⟩ = some (.bool J0) ∧ w'.cell? ⟨lb, lo + ax * 3 + 1, none⟩ = some (.slice Ey J3 Ez) ∧ w'.cell? ⟨lb, lo + ax * 3 + 2, none⟩ = some (.slice Eu Ex Ew)) (by kernel_rfl) 12 ?_
   refine AnyU.abs ?_
   intro Bc hW
   have hb : Below wr.heap.size wr Bc := by rw [hW]; exact bDrew _
   replace hs := bStep hs hb
   replace Bb := Bb.mono hb
   replace B1 := B1.mono hb
   replace B0 := B0.mono hb
   replace hu := hu.mono hb
   replace h1 := h1.mono hb
   replace h2 := h2.mono hb
   replace Cr := Cr.mono hb
   replace Bo := cellK Bo hb
   replace Bp := cellK Bp hb
   replace Bq := cellK Bq hb
   clear hb hW
   have B8 : Bc.cell? ⟨w2.heap.size, 0, none⟩ = some (.bool Cz) := B1.at 0 rfl
   have B9 : Bc.cell? ⟨w2.heap.size, 1, none⟩ = some (.slice Cv Cy Cw) := B1.at 1 rfl
   have Ba : Bc.cell? ⟨w2.heap.size, 2, none⟩ = some (.slice Cs Cu Ct) := B1.at 2 rfl
   have Br : Bc.cell? ⟨w.heap.size, 0, none⟩ = some (.bool Dq) := Bb.at 0 rfl
   have Bs : Bc.cell? ⟨w.heap.size, 1, none⟩ = some (.slice Dm Do Dn) := Bb.at 1 rfl
   have Bt : Bc.cell? ⟨w.heap.size, 2, none⟩ = some (.slice Dj Dl Dk) := Bb.at 2 rfl
   have Be : Bc.cell? ⟨w2.heap.size + 1, 0, none⟩ = some (.bool Cc) := B0.at 0 rfl
   have Bf : Bc.cell? ⟨w2.heap.size + 1, 1, none⟩ = some (.slice C9 Cb Ca) := B0.at 1 rfl
   have Bg : Bc.cell? ⟨w2.heap.size + 1, 2, none⟩ = some (.slice C6 C8 C7) := B0.at 2 rfl
   have hH := (show Bc.cell? ⟨w2.heap.size, 0, none⟩ = some (.bool Cz) ∧ Bc.cell? ⟨w2.heap.size, 1, none⟩ = some (.slice Cv Cy Cw) ∧ Bc.cell? ⟨w2.heap.size, 2, none⟩ = some (.slice Cs Cu Ct) ∧ Bc.cell? ⟨w.heap.size, 0, none⟩ = some (.bool Dq) ∧ Bc.cell? ⟨w.heap.size, 1, none⟩ = some (.slice Dm Do Dn) ∧ Bc.cell? ⟨w.heap.size, 2, none⟩ = some (.slice Dj Dl Dk) ∧ Bc.cell? ⟨w2.heap.size + 1, 0, none⟩ = some (.bool Cc) ∧ Bc.cell? ⟨w2.heap.size + 1, 1, none⟩ = some (.slice C9 Cb Ca) ∧ Bc.cell? ⟨w2.heap.size + 1, 2, none⟩ = some (.slice C6 C8 C7) ∧ Bc.cell? ⟨lb, lo + ax * 3, none⟩ = some (.bool J0) ∧ Bc.cell? ⟨lb, lo + ax * 3 + 1, none⟩ = some (.slice Ey J3 Ez) ∧ Bc.cell? ⟨lb, lo + ax * 3 + 2, none⟩ = some (.slice Eu Ex Ew) from ⟨B8, B9, Ba, Br, Bs, Bt, Be, Bf, Bg, Bo, Bp, Bq⟩)
   refine U_tk 0 46 ?_ ?_ hH ?_
   rotate_left
   ·(intro w Bd; (try dsimp only at Bd); go_simp; try with_reducible rfl)
   simp only [LY]
   refine U_tk 1 47 ?_ ?_ hH ?_
   rotate_left
   ·(intro w Bd; (try dsimp only at Bd); go_simp; try with_reducible rfl)
   simp only [LY]
   refine U_tk 2 48 ?_ ?_ hH ?_
   rotate_left
   ·(intro w Bd; (try dsimp only at Bd); go_simp; try with_reducible rfl)
   simp only [LY]
   refine U_tk 3 49 ?_ ?_ hH ?_
   rotate_left
   ·(intro w Bd; (try dsimp only at Bd); go_simp; try with_reducible rfl)
   simp only [LY]
   refine U_tk 4 50 ?_ ?_ hH ?_
   rotate_left
   ·(intro w Bd; (try dsimp only at Bd); go_simp; try with_reducible rfl)
   simp only [LY]
   refine U_tk 7 53 ?_ ?_ hH ?_
   rotate_left
   ·(intro w Bd; (try dsimp only at Bd); go_simp; try with_reducible rfl)
   simp only [LY]
   refine U_tk 8 54 ?_ ?_ hH ?_
   rotate_left
   ·(intro w Bd; (try dsimp only at Bd); go_simp; try with_reducible rfl)
   simp only [LY]
   clear hH
   refine U_one (i := 5) (by kernel_rfl) rfl (fun K hK => ?_)
   go_simp
   (with_reducible refine (rSub Cr h1 (SzQ.fit (HZ.out ax (by omega))) (SzQ.fit sm)).mono ?_)
   rintro e Bu ⟨_, rfl, h8, hb⟩
   obtain ⟨sh8, ah8, nh8, ch8, Ah8, Nh8, Ch8, rfl⟩ := h8.shape
   replace hs := bStep hs hb
   replace Bb := Bb.mono hb
   replace B1 := B1.mono hb
   replace B0 := B0.mono hb
   replace hu := hu.mono hb
   replace h1 := h1.mono hb
   replace h2 := h2.mono hb
   replace Cr := Cr.mono hb
   replace B8 := cellK B8 hb
   replace B9 := cellK B9 hb
   replace Ba := cellK Ba hb
   replace Br := cellK Br hb
   replace Bs := cellK Bs hb
   replace Bt := cellK Bt hb
   replace Be := cellK Be hb
   replace Bf := cellK Bf hb
   replace Bg := cellK Bg hb
   replace Bo := cellK Bo hb
   replace Bp := cellK Bp hb
   replace Bq := cellK Bq hb
   clear hb
   try go_wp2_with fail
   refine hK.out _ _ ⟨B8, B9, Ba, Br, Bs, Bt, Be, Bf, Bg, Bo, Bp, Bq⟩ (fun hH => ?_)
   clear hK K
   try simp only [LY]
   clear hH
   refine U_one (i := 6) (by kernel_rfl) rfl (fun K hK => ?_)
   go_simp
   (with_reducible refine (rq_square _ _ _ h8 (SzQ.mid (SzQ.sub (HZ.out ax (by omega)) sm))).mono ?_)
   rintro e C5 ⟨_, rfl, h9, hb⟩
   obtain ⟨sh9, ah9, nh9, ch9, Ah9, Nh9, Ch9, rfl⟩ := h9.shape
   replace hs := bStep hs hb
   replace Bb := Bb.mono hb
   replace B1 := B1.mono hb
   replace B0 := B0.mono hb
   replace hu := hu.mono hb
   replace h1 := h1.mono hb
   replace h2 := h2.mono hb
   replace Cr := Cr.mono hb
   replace h8 := h8.mono hb
   replace B8 := cellK B8 hb
   replace B9 := cellK B9 hb
   replace Ba := cellK Ba hb
   replace Br := cellK Br hb
   replace Bs := cellK Bs hb
   replace Bt := cellK Bt hb
   replace Be := cellK Be hb
   replace Bf := cellK Bf hb
   replace Bg := cellK Bg hb
   replace Bo := cellK Bo hb
   replace Bp := cellK Bp hb
   replace Bq := cellK Bq hb
   clear hb
   try go_wp2_with fail
   refine hK.out _ _ ⟨B8, B9, Ba, Br, Bs, Bt, Be, Bf, Bg, Bo, Bp, Bq⟩ (fun hH => ?_)
   clear hK K
   try simp only [LY]
   clear hH
   refine U_one (i := 9) (by kernel_rfl) rfl (fun K hK => ?_)
   go_simp
   (with_reducible refine (rMul hu h2 (SzQ.fit su) (SzQ.fit Jl)).mono ?_)
   rintro e C3 ⟨_, rfl, C4, hb⟩
   obtain ⟨Cj, Cg, Ci, Ch, Cd, Cf, Ce, rfl⟩ := C4.shape
   replace hs := bStep hs hb
   replace Bb := Bb.mono hb
   replace B1 := B1.mono hb
   replace B0 := B0.mono hb
   replace hu := hu.mono hb
   replace h1 := h1.mono hb
   replace h2 := h2.mono hb
   replace Cr := Cr.mono hb
   replace h8 := h8.mono hb
   replace h9 := h9.mono hb
   replace B8 := cellK B8 hb
   replace B9 := cellK B9 hb
   replace Ba := cellK Ba hb
   replace Br := cellK Br hb
   replace Bs := cellK Bs hb
   replace Bt := cellK Bt hb
   replace Be := cellK Be hb
   replace Bf := cellK Bf hb
   replace Bg := cellK Bg hb
   replace Bo := cellK Bo hb
   replace Bp := cellK Bp hb
   replace Bq := cellK Bq hb
   clear hb
   try go_wp2_with fail
   refine hK.out _ _ ⟨B8, B9, Ba, Br, Bs, Bt, Be, Bf, Bg, Bo, Bp, Bq⟩ (fun hH => ?_)
   clear hK K
   try simp only [LY]
   clear hH
   refine U_one (i := 10) (by kernel_rfl) rfl (fun K hK => ?_)
   go_simp
   (with_reducible refine (rCmp h9 C4 (SzQ.fit (SzQ.mul (SzQ.sub (HZ.out ax (by omega)) sm) (SzQ.sub (HZ.out ax (by omega)) sm))) (SzQ.fit (SzQ.mul su Jl))).mono ?_)
   rintro e D9 ⟨rfl, hb⟩
   replace hs := bStep hs hb
   replace Bb := Bb.mono hb
   replace B1 := B1.mono hb
   replace B0 := B0.mono hb
   replace hu := hu.mono hb
   replace h1 := h1.mono hb
   replace h2 := h2.mono hb
   replace Cr := Cr.mono hb
   replace h8 := h8.mono hb
   replace h9 := h9.mono hb
   replace C4 := C4.mono hb
   replace B8 := cellK B8 hb
   replace B9 := cellK B9 hb
   replace Ba := cellK Ba hb
   replace Br := cellK Br hb
   replace Bs := cellK Bs hb
   replace Bt := cellK Bt hb
   replace Be := cellK Be hb
   replace Bf := cellK Bf hb
   replace Bg := cellK Bg hb
   replace Bo := cellK Bo hb
   replace Bp := cellK Bp hb
   replace Bq := cellK Bq hb
   clear hb
   rw [← E6.out]
   try go_wp2_with fail
   refine hK.out _ _ ⟨B8, B9, Ba, Br, Bs, Bt, Be, Bf, Bg, Bo, Bp, Bq⟩ (fun hH => ?_)
   clear hK K
   try simp only [LY]
   refine U_tk 11 57 ?_ ?_ hH ?_
   rotate_left
   ·(intro w Bd; (try dsimp only at Bd); go_simp; try with_reducible rfl)
   simp only [LY]
   clear hH
   refine U_endN (by kernel_rfl) ?_
   clear B8 B9 Ba Br Bs Bt Be Bf Bg Bo Bp Bq
   by_cases q12 : mo * va < (nthQ L ax - m) * (nthQ L ax - m)
   ·have J8 : 0 < Er := by have h := sq_gt ((nthQ L ax - m) * (nthQ L ax - m)) (mo * va); rw [← E6.out] at h; exact h.2 q12
    have J7 := Lib.hid q12
    clear q12
    have q12d : decide (0 < Er) = true := decide_eq_true J8
    go_wp2
    clear le7
    go_ret2
    exact ⟨by rw [← HR.out, if_pos J7.out]; rfl, hs⟩
   ·have J8 : ¬ (0 < Er) := by have h := sq_gt ((nthQ L ax - m) * (nthQ L ax - m)) (mo * va); rw [← E6.out] at h; exact fun h1 => q12 (h.1 h1)
    have J7 := Lib.hid q12
    clear q12
    have q12d : decide (0 < Er) = false := decide_eq_false J8
    go_wp2
    clear le7
    go_ret2
    exact ⟨by rw [← HR.out, if_neg J7.out]; rfl, hs⟩
end Go.Proofs.YtlmemilmhdhgbaaGreat
