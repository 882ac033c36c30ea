/-
  Reference 08: Limit, Quantile.
-/
import Derived.Test.YtlmemilmhdhgbaaGreatPkOrdO
import Derived.Test.YtlmemilmhdhgbaaGreatPkQntO
set_option linter.unusedSimpArgs false
set_option linter.unusedVariables false
set_option maxRecDepth 100000
set_option maxHeartbeats 8000000
namespace Go.Proofs.YtlmemilmhdhgbaaGreat
open Go.RowKit Dg
attribute [local go_sem ↓] Go.wp_at_zero Go.wp_at_succ
theorem rq_num (n : Int) (w : World) (ln : 0 ≤ n) (un : n ≤ 4294967295) :
  Calls Tryz.prog 40 #[.int .i64 n] w (RetQ w (((n : Int) : Rat))) := by
 have hs := Below.refl w.heap.size w
 go_enter Tryz.func40, Tryz.ntmps40
 go_wp2_with fail
 refine Calls.abs ?_
 intro w1 hW
 have hG : Gr [] w w1 := by rw [hW]; exact (Gr.refl _ _).alloc
 have B6 : Below w.heap.size w w1 := hG.below0 hs.size
 have hk : KeepD w w1 := hG.keep True.intro
 have Ca : w.heap.size ≤ w.heap.size := hs.size
 have Blk : Bx w1 (w.heap.size) 41 #[.bool false, .slice none 0 0, .slice none 0 0] := by rw [hW]; exact (Bx.new0 _ _ _)
 replace hs := hs.trans B6
 clear hW hG hk B6
 have C9 : w.heap.size < w1.heap.size := Blk.lt
 with_reducible refine (r_Int_calls n _ (by omega) (by omega)).mono ?_
 rintro e w2 ⟨_, rfl, h1, hb⟩
 obtain ⟨C8, C5, C7, C6, C1, C4, C2, rfl⟩ := h1.shape
 replace hs := bStep hs hb
 replace Blk := Blk.mono hb
 clear hb
 have B9 : w2.cell? ⟨w.heap.size, 0, none⟩ = some (.bool false) := Blk.at 0 rfl
 have Ba : w2.cell? ⟨w.heap.size, 1, none⟩ = some (.slice none 0 0) := Blk.at 1 rfl
 have Bb : w2.cell? ⟨w.heap.size, 2, none⟩ = some (.slice none 0 0) := Blk.at 2 rfl
 have fk := Blk.free
 have Lk : w.heap.size < w2.heap.size := Blk.lt
 go_wp2
 clear B9 Ba Bb fk Lk
 refine bodyPost.abs ?_
 intro w3 hW
 have hG : Gr [w.heap.size] w2 w3 := by rw [hW]; exact (Gr.refl _ _).set.set.set
 have Bz := hs.size
 have lk := Blk.lt
 have B6 : Below w.heap.size w2 w3 := hG.below1 hs.size (by first | omega | assumption)
 have hk : KeepD w2 w3 := hG.keep ⟨⟨_, Blk.ty, by decide⟩, True.intro⟩
 have Bp : Bx w3 (w.heap.size) 41 #[.bool C8, .slice C5 C7 C6, .slice C1 C4 C2] := by rw [hW]; exact Blk.set3
 replace hs := hs.trans B6
 replace Blk := Bp
 clear Bp
 replace h1 := h1.keep hk
 clear hW hG hk B6 Bz lk
 have B9 : w3.cell? ⟨w.heap.size, 0, none⟩ = some (.bool C8) := Blk.at 0 rfl
 have Ba : w3.cell? ⟨w.heap.size, 1, none⟩ = some (.slice C5 C7 C6) := Blk.at 1 rfl
 have Bb : w3.cell? ⟨w.heap.size, 2, none⟩ = some (.slice C1 C4 C2) := Blk.at 2 rfl
 exact bodyPost_ret (v := .agg #[.bool C8, .slice C5 C7 C6, .slice C1 C4 C2]) (by simp [results, Tryz.results40, go_sem, B9, Ba, Bb]) rfl ⟨_, rfl, h1, hs⟩
theorem limN {L : List Rat} {r k : Nat} (h : ∀ i, i < k → ¬ (lsF L (nthQ L i) L.length < r ∧ (r : Int) ≤ lsF L (nthQ L i) L.length + eqF L (nthQ L i) L.length)) (h2 : ¬ (lsF L (nthQ L k) L.length < r ∧ (r : Int) ≤ lsF L (nthQ L k) L.length + eqF L (nthQ L k) L.length)) : ∀ i, i < k + 1 → ¬ (lsF L (nthQ L i) L.length < r ∧ (r : Int) ≤ lsF L (nthQ L i) L.length + eqF L (nthQ L i) L.length) := fun i hi => by
 by_cases c : i = k
 ·subst c; exact h2
 ·exact h i (by omega)
theorem r8_Limit_few {v vu vc : Value} {L : List Rat} {u c : Rat} (w : World) (hl : Rows 3 41 RC w v L) (hu : RV w vu u) (su : SzQ 1 u) (hc : RV w vc c) (sc : SzQ 1 c) (g1 : ¬ (1 ≤ L.length ∧ L.length ≤ 64)) : Calls Tryz.prog 9 #[v, vu, vc] w (RetQE w 0 4) := by
 obtain ⟨aL, kL, rfl, Cu, Cv, -⟩ := hl.toI.slice
 have HL := Lib.hid hl
 clear hl
 obtain ⟨Bo, Bl, Bn, Bm, Bi, Bk, Bj, rfl⟩ := hu.shape
 obtain ⟨Cl, Ci, Ck, Cj, Cd, Ch, Ce, rfl⟩ := hc.shape
 have hs := Below.refl w.heap.size w
 go_enter Tryz.func9, Tryz.ntmps9
 go_wp2_with fail
 refine Calls.abs ?_
 intro w1 hW
 have hG : Gr [] w w1 := by rw [hW]; exact (Gr.refl _ _).alloc.alloc.alloc
 have B6 : Below w.heap.size w w1 := hG.below0 hs.size
 have hk : KeepD w w1 := hG.keep True.intro
 have Ca : w.heap.size ≤ w.heap.size := hs.size
 have B0 : Bx w1 (w.heap.size) 41 #[.bool Bo, .slice Bl Bn Bm, .slice Bi Bk Bj] := by rw [hW]; exact (((Bx.new0 _ _ _).alloc _).alloc _)
 have B4 : Bx w1 (w.heap.size + 1) 41 #[.bool Cl, .slice Ci Ck Cj, .slice Cd Ch Ce] := by rw [hW]; exact ((Bx.new0 _ _ _).alloc _)
 have Blk : Bx w1 (w.heap.size + 1 + 1) 41 #[.bool false, .slice none 0 0, .slice none 0 0] := by rw [hW]; exact (Bx.new0 _ _ _)
 replace hs := hs.trans B6
 replace hu := hu.keep hk
 replace hc := hc.keep hk
 clear hW hG hk B6
 have C9 : w.heap.size + 1 + 1 < w1.heap.size := Blk.lt
 with_reducible refine (r8_cvL_all (e := 4) _ (HL.out.mono RC.kept hs) (if_pos (by omega))).mono ?_
 rintro e w2 ⟨rfl, hb⟩
 replace hs := bStep hs hb
 replace B0 := B0.mono hb
 replace B4 := B4.mono hb
 replace Blk := Blk.mono hb
 replace hu := hu.mono hb
 replace hc := hc.mono hb
 clear hb
 go_wp2_with fail
 with_reducible refine (r_zero _).mono ?_
 rintro e w3 ⟨_, rfl, h1, hb⟩
 obtain ⟨C8, C5, C7, C6, C1, C4, C2, rfl⟩ := h1.shape
 replace hs := bStep hs hb
 replace B0 := B0.mono hb
 replace B4 := B4.mono hb
 replace Blk := Blk.mono hb
 replace hu := hu.mono hb
 replace hc := hc.mono hb
 clear hb
 have B9 : w3.cell? ⟨w.heap.size + 1 + 1, 0, none⟩ = some (.bool false) := Blk.at 0 rfl
 have Ba : w3.cell? ⟨w.heap.size + 1 + 1, 1, none⟩ = some (.slice none 0 0) := Blk.at 1 rfl
 have Bb : w3.cell? ⟨w.heap.size + 1 + 1, 2, none⟩ = some (.slice none 0 0) := Blk.at 2 rfl
 have fk := Blk.free
 have Lk : w.heap.size + 1 + 1 < w3.heap.size := Blk.lt
 go_wp2
 clear B9 Ba Bb fk Lk
 refine bodyPost.abs ?_
 intro w4 hW
 have hG : Gr [w.heap.size + 1 + 1] w3 w4 := by rw [hW]; exact (Gr.refl _ _).set.set.set
 have Bz := hs.size
 have lk := Blk.lt
 have B6 : Below w.heap.size w3 w4 := hG.below1 hs.size (by first | omega | assumption)
 have hk : KeepD w3 w4 := hG.keep ⟨⟨_, Blk.ty, by decide⟩, True.intro⟩
 have Bp : Bx w4 (w.heap.size + 1 + 1) 41 #[.bool C8, .slice C5 C7 C6, .slice C1 C4 C2] := by rw [hW]; exact Blk.set3
 replace hs := hs.trans B6
 replace B0 := hG.bx B0 (notMem1 (by omega))
 replace B4 := hG.bx B4 (notMem1 (by omega))
 replace Blk := Bp
 clear Bp
 replace hu := hu.keep hk
 replace hc := hc.keep hk
 replace h1 := h1.keep hk
 clear hW hG hk B6 Bz lk
 have B9 : w4.cell? ⟨w.heap.size + 1 + 1, 0, none⟩ = some (.bool C8) := Blk.at 0 rfl
 have Ba : w4.cell? ⟨w.heap.size + 1 + 1, 1, none⟩ = some (.slice C5 C7 C6) := Blk.at 1 rfl
 have Bb : w4.cell? ⟨w.heap.size + 1 + 1, 2, none⟩ = some (.slice C1 C4 C2) := Blk.at 2 rfl
 exact bodyPost_ret (v := .tuple #[.agg #[.bool C8, .slice C5 C7 C6, .slice C1 C4 C2], .int .i64 4]) (by simp [results, Tryz.results9, go_sem, B9, Ba, Bb]) rfl ⟨_, rfl, h1, hs⟩
theorem r8_Limit_rank {v vu vc : Value} {L : List Rat} {u c : Rat} (w : World) (hl : Rows 3 41 RC w v L) (hu : RV w vu u) (su : SzQ 1 u) (hc : RV w vc c) (sc : SzQ 1 c) (g1 : 1 ≤ L.length) (g20 : L.length ≤ 64) {E : Int} (hE : rkEr L.length u c = E) (hn : ¬ E = 0) : Calls Tryz.prog 9 #[v, vu, vc] w (RetQE w 0 E) := by
 obtain ⟨aL, kL, rfl, Cu, Cv, -⟩ := hl.toI.slice
 have HL := Lib.hid hl
 clear hl
 obtain ⟨Bo, Bl, Bn, Bm, Bi, Bk, Bj, rfl⟩ := hu.shape
 obtain ⟨Cl, Ci, Ck, Cj, Cd, Ch, Ce, rfl⟩ := hc.shape
 have HE := Lib.hid hE
 have HNE := Lib.hid hn
 clear hE hn
 obtain ⟨r, hr⟩ : ∃ r : Int, rkV L.length u c = r := ⟨_, rfl⟩
 have HR := Lib.hid hr
 clear hr
 have hs := Below.refl w.heap.size w
 go_enter Tryz.func9, Tryz.ntmps9
 go_wp2_with fail
 refine Calls.abs ?_
 intro w1 hW
 have hG : Gr [] w w1 := by rw [hW]; exact (Gr.refl _ _).alloc.alloc.alloc
 have B6 : Below w.heap.size w w1 := hG.below0 hs.size
 have hk : KeepD w w1 := hG.keep True.intro
 have Ca : w.heap.size ≤ w.heap.size := hs.size
 have B0 : Bx w1 (w.heap.size) 41 #[.bool Bo, .slice Bl Bn Bm, .slice Bi Bk Bj] := by rw [hW]; exact (((Bx.new0 _ _ _).alloc _).alloc _)
 have B4 : Bx w1 (w.heap.size + 1) 41 #[.bool Cl, .slice Ci Ck Cj, .slice Cd Ch Ce] := by rw [hW]; exact ((Bx.new0 _ _ _).alloc _)
 have Blk : Bx w1 (w.heap.size + 1 + 1) 41 #[.bool false, .slice none 0 0, .slice none 0 0] := by rw [hW]; exact (Bx.new0 _ _ _)
 replace hs := hs.trans B6
 replace hu := hu.keep hk
 replace hc := hc.keep hk
 clear hW hG hk B6
 have C9 : w.heap.size + 1 + 1 < w1.heap.size := Blk.lt
 with_reducible refine (r8_cvL_all (e := 0) _ (HL.out.mono RC.kept hs) (if_neg (by omega))).mono ?_
 rintro e w2 ⟨rfl, hb⟩
 replace hs := bStep hs hb
 replace B0 := B0.mono hb
 replace B4 := B4.mono hb
 replace Blk := Blk.mono hb
 replace hu := hu.mono hb
 replace hc := hc.mono hb
 clear hb
 have B1 : w2.cell? ⟨w.heap.size, 0, none⟩ = some (.bool Bo) := B0.at 0 rfl
 have B2 : w2.cell? ⟨w.heap.size, 1, none⟩ = some (.slice Bl Bn Bm) := B0.at 1 rfl
 have B3 : w2.cell? ⟨w.heap.size, 2, none⟩ = some (.slice Bi Bk Bj) := B0.at 2 rfl
 have Bw : w.heap.size < w2.heap.size := B0.lt
 have Bs : w2.cell? ⟨w.heap.size + 1, 0, none⟩ = some (.bool Cl) := B4.at 0 rfl
 have Bt : w2.cell? ⟨w.heap.size + 1, 1, none⟩ = some (.slice Ci Ck Cj) := B4.at 1 rfl
 have Bu : w2.cell? ⟨w.heap.size + 1, 2, none⟩ = some (.slice Cd Ch Ce) := B4.at 2 rfl
 have By : w.heap.size + 1 < w2.heap.size := B4.lt
 go_wp2_with fail
 clear B1 B2 B3 Bs Bt Bu Bw By
 with_reducible refine (r8_Rank_all _ hu su hc sc HR.out HE.out).mono ?_
 rintro e w3 ⟨rfl, hb⟩
 replace hs := bStep hs hb
 replace B0 := B0.mono hb
 replace B4 := B4.mono hb
 replace Blk := Blk.mono hb
 replace hu := hu.mono hb
 replace hc := hc.mono hb
 clear hb
 have q1 : ¬ (E = 0) := HNE.out
 have q1b : (E == 0) = false := beq_eq_false_iff_ne.2 (by omega)
 have q1n : (E != 0) = true := bne_iff_ne.2 (by omega)
 have q1H := Lib.hid q1
 clear q1
 go_wp2_with fail
 with_reducible refine (r_zero _).mono ?_
 rintro e w4 ⟨_, rfl, h2, hb⟩
 obtain ⟨sh2, ah2, nh2, ch2, Ah2, Nh2, Ch2, rfl⟩ := h2.shape
 replace hs := bStep hs hb
 replace B0 := B0.mono hb
 replace B4 := B4.mono hb
 replace Blk := Blk.mono hb
 replace hu := hu.mono hb
 replace hc := hc.mono hb
 clear hb
 have B9 : w4.cell? ⟨w.heap.size + 1 + 1, 0, none⟩ = some (.bool false) := Blk.at 0 rfl
 have Ba : w4.cell? ⟨w.heap.size + 1 + 1, 1, none⟩ = some (.slice none 0 0) := Blk.at 1 rfl
 have Bb : w4.cell? ⟨w.heap.size + 1 + 1, 2, none⟩ = some (.slice none 0 0) := Blk.at 2 rfl
 have fk := Blk.free
 have Lk : w.heap.size + 1 + 1 < w4.heap.size := Blk.lt
 go_wp2
 clear B9 Ba Bb fk Lk
 refine bodyPost.abs ?_
 intro w5 hW
 have hG : Gr [w.heap.size + 1 + 1] w4 w5 := by rw [hW]; exact (Gr.refl _ _).set.set.set
 have Bz := hs.size
 have lk := Blk.lt
 have B6 : Below w.heap.size w4 w5 := hG.below1 hs.size (by first | omega | assumption)
 have hk : KeepD w4 w5 := hG.keep ⟨⟨_, Blk.ty, by decide⟩, True.intro⟩
 have Bp : Bx w5 (w.heap.size + 1 + 1) 41 #[.bool sh2, .slice ah2 nh2 ch2, .slice Ah2 Nh2 Ch2] := by rw [hW]; exact Blk.set3
 replace hs := hs.trans B6
 replace B0 := hG.bx B0 (notMem1 (by omega))
 replace B4 := hG.bx B4 (notMem1 (by omega))
 replace Blk := Bp
 clear Bp
 replace hu := hu.keep hk
 replace hc := hc.keep hk
 replace h2 := h2.keep hk
 clear hW hG hk B6 Bz lk
 have B9 : w5.cell? ⟨w.heap.size + 1 + 1, 0, none⟩ = some (.bool sh2) := Blk.at 0 rfl
 have Ba : w5.cell? ⟨w.heap.size + 1 + 1, 1, none⟩ = some (.slice ah2 nh2 ch2) := Blk.at 1 rfl
 have Bb : w5.cell? ⟨w.heap.size + 1 + 1, 2, none⟩ = some (.slice Ah2 Nh2 Ch2) := Blk.at 2 rfl
 exact bodyPost_ret (v := .tuple #[.agg #[.bool sh2, .slice ah2 nh2 ch2, .slice Ah2 Nh2 Ch2], .int .i64 E]) (by simp [results, Tryz.results9, go_sem, B9, Ba, Bb]) rfl ⟨_, rfl, h2, hs⟩
theorem r8_Limit_ok {v vu vc : Value} {L : List Rat} {u c : Rat} (w : World) (hl : Rows 3 41 RC w v L) (hu : RV w vu u) (su : SzQ 1 u) (hc : RV w vc c) (sc : SzQ 1 c) (g1 : 1 ≤ L.length) (g20 : L.length ≤ 20) (hE : rkEr L.length u c = 0) {r : Nat} (hr : rkV L.length u c = (r : Int)) (hz : ∀ i, i < L.length → SzQ 100000 (nthQ L i)) {q : Rat} (hq : ordQ L (r - 1) = q) : Calls Tryz.prog 9 #[v, vu, vc] w (RetQE w q 0) := by
 obtain ⟨lb, lo, kL, rfl, Cu, Cv, -⟩ := hl.open_ (by omega)
 have HL := Lib.hid hl
 clear hl
 obtain ⟨Bo, Bl, Bn, Bm, Bi, Bk, Bj, rfl⟩ := hu.shape
 obtain ⟨Cl, Ci, Ck, Cj, Cd, Ch, Ce, rfl⟩ := hc.shape
 obtain ⟨r1, r2⟩ := rk_range g1 (by omega) hE hr
 have HE := Lib.hid hE
 have HR := Lib.hid hr
 have HZ := Lib.hid hz
 have HQ := Lib.hid hq
 clear hE hr hz hq
 have hs := Below.refl w.heap.size w
 go_enter Tryz.func9, Tryz.ntmps9
 go_wp2_with fail
 refine Calls.abs ?_
 intro w1 hW
 have hG : Gr [] w w1 := by rw [hW]; exact (Gr.refl _ _).alloc.alloc.alloc
 have B6 : Below w.heap.size w w1 := hG.below0 hs.size
 have hk : KeepD w w1 := hG.keep True.intro
 have Ca : w.heap.size ≤ w.heap.size := hs.size
 have B0 : Bx w1 (w.heap.size) 41 #[.bool Bo, .slice Bl Bn Bm, .slice Bi Bk Bj] := by rw [hW]; exact (((Bx.new0 _ _ _).alloc _).alloc _)
 have B4 : Bx w1 (w.heap.size + 1) 41 #[.bool Cl, .slice Ci Ck Cj, .slice Cd Ch Ce] := by rw [hW]; exact ((Bx.new0 _ _ _).alloc _)
 have Blk : Bx w1 (w.heap.size + 1 + 1) 41 #[.bool false, .slice none 0 0, .slice none 0 0] := by rw [hW]; exact (Bx.new0 _ _ _)
 replace hs := hs.trans B6
 replace hu := hu.keep hk
 replace hc := hc.keep hk
 clear hW hG hk B6
 have C9 : w.heap.size + 1 + 1 < w1.heap.size := Blk.lt
 with_reducible refine (r8_cvL_all (e := 0) _ (HL.out.mono RC.kept hs) (if_neg (by omega))).mono ?_
 rintro e w2 ⟨rfl, hb⟩
 replace hs := bStep hs hb
 replace B0 := B0.mono hb
 replace B4 := B4.mono hb
 replace Blk := Blk.mono hb
 replace hu := hu.mono hb
 replace hc := hc.mono hb
 clear hb
 have B1 : w2.cell? ⟨w.heap.size, 0, none⟩ = some (.bool Bo) := B0.at 0 rfl
 have B2 : w2.cell? ⟨w.heap.size, 1, none⟩ = some (.slice Bl Bn Bm) := B0.at 1 rfl
 have B3 : w2.cell? ⟨w.heap.size, 2, none⟩ = some (.slice Bi Bk Bj) := B0.at 2 rfl
 have Bw : w.heap.size < w2.heap.size := B0.lt
 have Bs : w2.cell? ⟨w.heap.size + 1, 0, none⟩ = some (.bool Cl) := B4.at 0 rfl
 have Bt : w2.cell? ⟨w.heap.size + 1, 1, none⟩ = some (.slice Ci Ck Cj) := B4.at 1 rfl
 have Bu : w2.cell? ⟨w.heap.size + 1, 2, none⟩ = some (.slice Cd Ch Ce) := B4.at 2 rfl
 have By : w.heap.size + 1 < w2.heap.size := B4.lt
 go_wp2_with fail
 clear B1 B2 B3 Bs Bt Bu Bw By
 with_reducible refine (r8_Rank_all _ hu su hc sc HR.out HE.out).mono ?_
 rintro e w3 ⟨rfl, hb⟩
 replace hs := bStep hs hb
 replace B0 := B0.mono hb
 replace B4 := B4.mono hb
 replace Blk := Blk.mono hb
 replace hu := hu.mono hb
 replace hc := hc.mono hb
 clear hb
 go_wp2
 go_loopw [11] (fun s11 wq => ∃ k : Nat, k ≤ L.length ∧ s11 = .int .i64 k ∧ Below w.heap.size w wq ∧ Bx wq (w.heap.size) 41 #[.bool Bo, .slice Bl Bn Bm, .slice Bi Bk Bj] ∧ Bx wq (w.heap.size + 1) 41 #[.bool Cl, .slice Ci Ck Cj, .slice Cd Ch Ce] ∧ Bx wq (w.heap.size + 1 + 1) 41 #[.bool false, .slice none 0 0, .slice none 0 0] ∧ RV wq (.agg #[.bool Bo, .slice Bl Bn Bm, .slice Bi Bk Bj]) (u) ∧ RV wq (.agg #[.bool Cl, .slice Ci Ck Cj, .slice Cd Ch Ce]) (c) ∧ (∀ i, i < k → ¬ (lsF L (nthQ L i) L.length < r ∧ (r : Int) ≤ lsF L (nthQ L i) L.length + eqF L (nthQ L i) L.length))) (fun s11 _ => L.length - (intOf s11).toNat)
 case atStart => exact ⟨0, Nat.zero_le _, rfl, hs, B0, B4, Blk, hu, hc, (fun i h_ => absurd h_ (Nat.not_lt_zero _))⟩
 case round =>
  clear B0 B4 Blk hu hc hs
  obtain ⟨k, k_le, rfl, hs, B0, B4, Blk, hu, hc, HI⟩ := hrel
  replace HI := Lib.hid HI
  by_cases q1 : k < L.length
  ·have q1d : ((k : Int) < (L.length : Int)) = True := eq_true (by omega)
   have BI2a : k < L.length := by omega
   have BI2b : ((k : Int) : Int) < (L.length : Int) := by omega
   obtain ⟨ge3, ae3, ne3, ce3, Ae3, Ne3, De3, E6, E7, E8, Ct, le3⟩ := rowR_at (HL.out.mono RC.kept hs) (show k < L.length by omega)
   go_wp2_with fail
   clear le3 E6 E7 E8
   obtain ⟨Co, C3⟩ : ∃ z : Int, lsF L (nthQ L k) L.length = z := ⟨_, rfl⟩
   obtain ⟨lb5, Cc⟩ : ∃ z : Int, eqF L (nthQ L k) L.length = z := ⟨_, rfl⟩
   obtain ⟨Dy, Dz, E0, E1⟩ := ls_bd L (nthQ L k) L.length
   rw [C3] at Dy Dz
   rw [Cc] at E0 E1
   replace C3 := Lib.hid C3
   replace Cc := Lib.hid Cc
   with_reducible refine (r8_below _ (HL.out.mono RC.kept hs) g1 g20 HZ.out Ct (HZ.out k (by omega)) C3.out Cc.out).mono ?_
   rintro e w24 ⟨rfl, hb⟩
   replace hs := bStep hs hb
   replace B0 := B0.mono hb
   replace B4 := B4.mono hb
   replace Blk := Blk.mono hb
   replace hu := hu.mono hb
   replace hc := hc.mono hb
   replace Ct := Ct.mono hb
   clear hb
   by_cases q6 : Co < (r : Int)
   ·have q6d : (Co < (r : Int)) = True := eq_true (by omega)
    by_cases q7 : (r : Int) ≤ Co + lb5
    ·have q7d : ((r : Int) ≤ Co + lb5) = True := eq_true (by omega)
     obtain ⟨ge8, ae8, ne8, ce8, Ae8, Ne8, De8, E9, Ea, Eb, he8, le8⟩ := rowR_at (HL.out.mono RC.kept hs) (show k < L.length by omega)
     have B9 : w24.cell? ⟨w.heap.size + 1 + 1, 0, none⟩ = some (.bool false) := Blk.at 0 rfl
     have Ba : w24.cell? ⟨w.heap.size + 1 + 1, 1, none⟩ = some (.slice none 0 0) := Blk.at 1 rfl
     have Bb : w24.cell? ⟨w.heap.size + 1 + 1, 2, none⟩ = some (.slice none 0 0) := Blk.at 2 rfl
     have fk := Blk.free
     have Lk : w.heap.size + 1 + 1 < w24.heap.size := Blk.lt
     go_wp2
     clear B9 Ba Bb fk Lk le8 E9 Ea Eb
     refine bodyPost.abs ?_
     intro B8 hW
     have hG : Gr [w.heap.size + 1 + 1] w24 B8 := by rw [hW]; exact (Gr.refl _ _).set.set.set
     have Bz := hs.size
     have lk := Blk.lt
     have B6 : Below w.heap.size w24 B8 := hG.below1 hs.size (by first | omega | assumption)
     have hk : KeepD w24 B8 := hG.keep ⟨⟨_, Blk.ty, by decide⟩, True.intro⟩
     have Bp : Bx B8 (w.heap.size + 1 + 1) 41 #[.bool ge8, .slice ae8 ne8 ce8, .slice Ae8 Ne8 De8] := by rw [hW]; exact Blk.set3
     replace hs := hs.trans B6
     replace B0 := hG.bx B0 (notMem1 (by omega))
     replace B4 := hG.bx B4 (notMem1 (by omega))
     replace Blk := Bp
     clear Bp
     replace hu := hu.keep hk
     replace hc := hc.keep hk
     replace Ct := Ct.keep hk
     replace he8 := he8.keep hk
     clear hW hG hk B6 Bz lk
     have B9 : B8.cell? ⟨w.heap.size + 1 + 1, 0, none⟩ = some (.bool ge8) := Blk.at 0 rfl
     have Ba : B8.cell? ⟨w.heap.size + 1 + 1, 1, none⟩ = some (.slice ae8 ne8 ce8) := Blk.at 1 rfl
     have Bb : B8.cell? ⟨w.heap.size + 1 + 1, 2, none⟩ = some (.slice Ae8 Ne8 De8) := Blk.at 2 rfl
     exact bodyPost_ret (v := .tuple #[.agg #[.bool ge8, .slice ae8 ne8 ce8, .slice Ae8 Ne8 De8], .int .i64 0]) (by simp [results, Tryz.results9, go_sem, B9, Ba, Bb]) rfl ⟨_, rfl, he8.of_eq ((lim_eq r1 r2 (by rw [C3.out]; omega) (by rw [C3.out, Cc.out]; omega)).trans HQ.out), hs⟩
    ·have q7d : ((r : Int) ≤ Co + lb5) = False := eq_false (by omega)
     go_wp2
     go_roundw
     case rel => exact ⟨k + 1, by omega, by go_num, hs, B0, B4, Blk, hu, hc, (limN HI.out (fun e_ => by rw [C3.out, Cc.out] at e_; omega))⟩
     all_goals first | (simp [intOf]; done) | (simp [intOf]; omega)
   ·have q6d : (Co < (r : Int)) = False := eq_false (by omega)
    go_wp2
    go_roundw
    case rel => exact ⟨k + 1, by omega, by go_num, hs, B0, B4, Blk, hu, hc, (limN HI.out (fun e_ => by rw [C3.out, Cc.out] at e_; omega))⟩
    all_goals first | (simp [intOf]; done) | (simp [intOf]; omega)
  ·have q1d : ((k : Int) < (L.length : Int)) = False := eq_false (by omega)
   exact absurd (lim_ex r1 r2) (fun e_ => by obtain ⟨i, hi_, e1_⟩ := e_; exact HI.out i (by omega) e1_)
theorem rq_numS (m : Int) (w : World) (h0 : 0 ≤ m) (h1 : m ≤ 4294967295) : Calls Tryz.prog 40 #[.int .i64 (IntKind.i64.wrap m)] w (RetQ w ((m : Int) : Rat)) := by
 rw [IntWalk.i64_in m (by omega)]; exact rq_num m w h0 h1
theorem rq_numN {l : Nat} {n : Rat} (hn : ((l : Int) : Rat) = n) (w : World) (h : l ≤ 4294967295) : Calls Tryz.prog 40 #[.int .i64 (l : Int)] w (RetQ w n) := hn ▸ rq_num (l : Int) w (by omega) (by omega)
theorem r8_Quantile_few {v vu : Value} {L : List Rat} {u : Rat} (w : World) (hl : Rows 3 41 RC w v L) (hu : RV w vu u) (su : SzQ 1 u) (g1 : ¬ (1 ≤ L.length ∧ L.length ≤ 64)) : Calls Tryz.prog 12 #[v, vu] w (RetQE w 0 4) := by
 obtain ⟨aL, kL, rfl, Cu, Cv, -⟩ := hl.toI.slice
 have HL := Lib.hid hl
 clear hl
 obtain ⟨Bo, Bl, Bn, Bm, Bi, Bk, Bj, rfl⟩ := hu.shape
 have hs := Below.refl w.heap.size w
 go_enter Tryz.func12, Tryz.ntmps12
 go_wp2_with fail
 refine Calls.abs ?_
 intro w1 hW
 have hG : Gr [] w w1 := by rw [hW]; exact (Gr.refl _ _).alloc.alloc
 have B6 : Below w.heap.size w w1 := hG.below0 hs.size
 have hk : KeepD w w1 := hG.keep True.intro
 have Ca : w.heap.size ≤ w.heap.size := hs.size
 have B0 : Bx w1 (w.heap.size) 41 #[.bool Bo, .slice Bl Bn Bm, .slice Bi Bk Bj] := by rw [hW]; exact ((Bx.new0 _ _ _).alloc _)
 have Blk : Bx w1 (w.heap.size + 1) 41 #[.bool false, .slice none 0 0, .slice none 0 0] := by rw [hW]; exact (Bx.new0 _ _ _)
 replace hs := hs.trans B6
 replace hu := hu.keep hk
 clear hW hG hk B6
 have C9 : w.heap.size + 1 < w1.heap.size := Blk.lt
 with_reducible refine (r8_cvL_all (e := 4) _ (HL.out.mono RC.kept hs) (if_pos (by omega))).mono ?_
 rintro e w2 ⟨rfl, hb⟩
 replace hs := bStep hs hb
 replace B0 := B0.mono hb
 replace Blk := Blk.mono hb
 replace hu := hu.mono hb
 clear hb
 go_wp2_with fail
 with_reducible refine (r_zero _).mono ?_
 rintro e w3 ⟨_, rfl, h1, hb⟩
 obtain ⟨C8, C5, C7, C6, C1, C4, C2, rfl⟩ := h1.shape
 replace hs := bStep hs hb
 replace B0 := B0.mono hb
 replace Blk := Blk.mono hb
 replace hu := hu.mono hb
 clear hb
 have B9 : w3.cell? ⟨w.heap.size + 1, 0, none⟩ = some (.bool false) := Blk.at 0 rfl
 have Ba : w3.cell? ⟨w.heap.size + 1, 1, none⟩ = some (.slice none 0 0) := Blk.at 1 rfl
 have Bb : w3.cell? ⟨w.heap.size + 1, 2, none⟩ = some (.slice none 0 0) := Blk.at 2 rfl
 have fk := Blk.free
 have Lk : w.heap.size + 1 < w3.heap.size := Blk.lt
 go_wp2
 clear B9 Ba Bb fk Lk
 refine bodyPost.abs ?_
 intro w4 hW
 have hG : Gr [w.heap.size + 1] w3 w4 := by rw [hW]; exact (Gr.refl _ _).set.set.set
 have Bz := hs.size
 have lk := Blk.lt
 have B6 : Below w.heap.size w3 w4 := hG.below1 hs.size (by first | omega | assumption)
 have hk : KeepD w3 w4 := hG.keep ⟨⟨_, Blk.ty, by decide⟩, True.intro⟩
 have Bp : Bx w4 (w.heap.size + 1) 41 #[.bool C8, .slice C5 C7 C6, .slice C1 C4 C2] := by rw [hW]; exact Blk.set3
 replace hs := hs.trans B6
 replace B0 := hG.bx B0 (notMem1 (by omega))
 replace Blk := Bp
 clear Bp
 replace hu := hu.keep hk
 replace h1 := h1.keep hk
 clear hW hG hk B6 Bz lk
 have B9 : w4.cell? ⟨w.heap.size + 1, 0, none⟩ = some (.bool C8) := Blk.at 0 rfl
 have Ba : w4.cell? ⟨w.heap.size + 1, 1, none⟩ = some (.slice C5 C7 C6) := Blk.at 1 rfl
 have Bb : w4.cell? ⟨w.heap.size + 1, 2, none⟩ = some (.slice C1 C4 C2) := Blk.at 2 rfl
 exact bodyPost_ret (v := .tuple #[.agg #[.bool C8, .slice C5 C7 C6, .slice C1 C4 C2], .int .i64 4]) (by simp [results, Tryz.results12, go_sem, B9, Ba, Bb]) rfl ⟨_, rfl, h1, hs⟩
theorem r8_Quantile_arg {v vu : Value} {L : List Rat} {u : Rat} (w : World) (hl : Rows 3 41 RC w v L) (hu : RV w vu u) (su : SzQ 1 u) (g1 : 1 ≤ L.length) (g20 : L.length ≤ 64) (hc : ¬ (0 ≤ u ∧ u ≤ 1)) : Calls Tryz.prog 12 #[v, vu] w (RetQE w 0 1) := by
 obtain ⟨aL, kL, rfl, Cu, Cv, -⟩ := hl.toI.slice
 have HL := Lib.hid hl
 clear hl
 obtain ⟨Bo, Bl, Bn, Bm, Bi, Bk, Bj, rfl⟩ := hu.shape
 have HC := Lib.hid hc
 clear hc
 have hs := Below.refl w.heap.size w
 go_enter Tryz.func12, Tryz.ntmps12
 go_wp2_with fail
 refine Calls.abs ?_
 intro w1 hW
 have hG : Gr [] w w1 := by rw [hW]; exact (Gr.refl _ _).alloc.alloc
 have B6 : Below w.heap.size w w1 := hG.below0 hs.size
 have hk : KeepD w w1 := hG.keep True.intro
 have Ca : w.heap.size ≤ w.heap.size := hs.size
 have B0 : Bx w1 (w.heap.size) 41 #[.bool Bo, .slice Bl Bn Bm, .slice Bi Bk Bj] := by rw [hW]; exact ((Bx.new0 _ _ _).alloc _)
 have Blk : Bx w1 (w.heap.size + 1) 41 #[.bool false, .slice none 0 0, .slice none 0 0] := by rw [hW]; exact (Bx.new0 _ _ _)
 replace hs := hs.trans B6
 replace hu := hu.keep hk
 clear hW hG hk B6
 have C9 : w.heap.size + 1 < w1.heap.size := Blk.lt
 with_reducible refine (r8_cvL_all (e := 0) _ (HL.out.mono RC.kept hs) (if_neg (by omega))).mono ?_
 rintro e w2 ⟨rfl, hb⟩
 replace hs := bStep hs hb
 replace B0 := B0.mono hb
 replace Blk := Blk.mono hb
 replace hu := hu.mono hb
 clear hb
 have B1 : w2.cell? ⟨w.heap.size, 0, none⟩ = some (.bool Bo) := B0.at 0 rfl
 have B2 : w2.cell? ⟨w.heap.size, 1, none⟩ = some (.slice Bl Bn Bm) := B0.at 1 rfl
 have B3 : w2.cell? ⟨w.heap.size, 2, none⟩ = some (.slice Bi Bk Bj) := B0.at 2 rfl
 have Bw : w.heap.size < w2.heap.size := B0.lt
 go_wp2_with fail
 clear B1 B2 B3 Bw
 with_reducible refine (r8_Chance _ _ _ hu (SzQ.mid su) rfl).mono ?_
 rintro e w3 ⟨rfl, hb⟩
 replace hs := bStep hs hb
 replace B0 := B0.mono hb
 replace Blk := Blk.mono hb
 replace hu := hu.mono hb
 clear hb
 obtain ⟨b1, Cf⟩ : ∃ b : Bool, b = decide (0 ≤ u ∧ u ≤ 1) := ⟨_, rfl⟩
 rw [← Cf]
 replace Cf := Lib.hid Cf
 have q2 : ¬ (0 ≤ u ∧ u ≤ 1) := HC.out
 obtain rfl : b1 = false := by rw [Cf.out]; exact decide_eq_false q2
 have q2H := Lib.hid q2
 clear q2
 go_wp2_with fail
 with_reducible refine (r_zero _).mono ?_
 rintro e w4 ⟨_, rfl, h3, hb⟩
 obtain ⟨sh3, ah3, nh3, ch3, Ah3, Nh3, Ch3, rfl⟩ := h3.shape
 replace hs := bStep hs hb
 replace B0 := B0.mono hb
 replace Blk := Blk.mono hb
 replace hu := hu.mono hb
 clear hb
 have B9 : w4.cell? ⟨w.heap.size + 1, 0, none⟩ = some (.bool false) := Blk.at 0 rfl
 have Ba : w4.cell? ⟨w.heap.size + 1, 1, none⟩ = some (.slice none 0 0) := Blk.at 1 rfl
 have Bb : w4.cell? ⟨w.heap.size + 1, 2, none⟩ = some (.slice none 0 0) := Blk.at 2 rfl
 have fk := Blk.free
 have Lk : w.heap.size + 1 < w4.heap.size := Blk.lt
 go_wp2
 clear B9 Ba Bb fk Lk
 refine bodyPost.abs ?_
 intro w5 hW
 have hG : Gr [w.heap.size + 1] w4 w5 := by rw [hW]; exact (Gr.refl _ _).set.set.set
 have Bz := hs.size
 have lk := Blk.lt
 have B6 : Below w.heap.size w4 w5 := hG.below1 hs.size (by first | omega | assumption)
 have hk : KeepD w4 w5 := hG.keep ⟨⟨_, Blk.ty, by decide⟩, True.intro⟩
 have Bp : Bx w5 (w.heap.size + 1) 41 #[.bool sh3, .slice ah3 nh3 ch3, .slice Ah3 Nh3 Ch3] := by rw [hW]; exact Blk.set3
 replace hs := hs.trans B6
 replace B0 := hG.bx B0 (notMem1 (by omega))
 replace Blk := Bp
 clear Bp
 replace hu := hu.keep hk
 replace h3 := h3.keep hk
 clear hW hG hk B6 Bz lk
 have B9 : w5.cell? ⟨w.heap.size + 1, 0, none⟩ = some (.bool sh3) := Blk.at 0 rfl
 have Ba : w5.cell? ⟨w.heap.size + 1, 1, none⟩ = some (.slice ah3 nh3 ch3) := Blk.at 1 rfl
 have Bb : w5.cell? ⟨w.heap.size + 1, 2, none⟩ = some (.slice Ah3 Nh3 Ch3) := Blk.at 2 rfl
 exact bodyPost_ret (v := .tuple #[.agg #[.bool sh3, .slice ah3 nh3 ch3, .slice Ah3 Nh3 Ch3], .int .i64 1]) (by simp [results, Tryz.results12, go_sem, B9, Ba, Bb]) rfl ⟨_, rfl, h3, hs⟩
theorem r8_Quantile_ok {v vu : Value} {L : List Rat} {u : Rat} (w : World) (hl : Rows 3 41 RC w v L) (hu : RV w vu u) (su : SzQ 1 u) (g1 : 1 ≤ L.length) (g20 : L.length ≤ 20) (hc : 0 ≤ u ∧ u ≤ 1) (hz : ∀ i, i < L.length → SzQ 1 (nthQ L i)) {q : Rat} (hq : qtQ L u = q) : Calls Tryz.prog 12 #[v, vu] w (RetQE w q 0) := by
 obtain ⟨lb, lo, kL, rfl, Cu, Cv, -⟩ := hl.open_ (by omega)
 have HL := Lib.hid hl
 clear hl
 obtain ⟨Bo, Bl, Bn, Bm, Bi, Bk, Bj, rfl⟩ := hu.shape
 obtain ⟨n, hn⟩ : ∃ n : Rat, ((L.length : Int) : Rat) = n := ⟨_, rfl⟩
 have sn : SzQ 1 n := hn ▸ szQ_int (by omega)
 have hqb := qt_same g1 hc.2
 rw [hn] at hqb
 have HQB := Lib.hid hqb
 have HN := Lib.hid hn
 have HQ := Lib.hid hq
 have HC := Lib.hid hc
 have HZ1 := Lib.hid hz
 have HZ := Lib.hid (show ∀ i, i < L.length → SzQ 100000 (nthQ L i) from fun i hi => (hz i hi).mono (by omega))
 clear hqb hn hq hc hz
 have hs := Below.refl w.heap.size w
 go_enter Tryz.func12, Tryz.ntmps12
 go_wp2_with fail
 refine Calls.abs ?_
 intro w1 hW
 have hG : Gr [] w w1 := by rw [hW]; exact (Gr.refl _ _).alloc.alloc
 have B6 : Below w.heap.size w w1 := hG.below0 hs.size
 have hk : KeepD w w1 := hG.keep True.intro
 have Ca : w.heap.size ≤ w.heap.size := hs.size
 have B0 : Bx w1 (w.heap.size) 41 #[.bool Bo, .slice Bl Bn Bm, .slice Bi Bk Bj] := by rw [hW]; exact ((Bx.new0 _ _ _).alloc _)
 have Blk : Bx w1 (w.heap.size + 1) 41 #[.bool false, .slice none 0 0, .slice none 0 0] := by rw [hW]; exact (Bx.new0 _ _ _)
 replace hs := hs.trans B6
 replace hu := hu.keep hk
 clear hW hG hk B6
 have C9 : w.heap.size + 1 < w1.heap.size := Blk.lt
 with_reducible refine (r8_cvL_all (e := 0) _ (HL.out.mono RC.kept hs) (if_neg (by omega))).mono ?_
 rintro e w2 ⟨rfl, hb⟩
 replace hs := bStep hs hb
 replace B0 := B0.mono hb
 replace Blk := Blk.mono hb
 replace hu := hu.mono hb
 clear hb
 have B1 : w2.cell? ⟨w.heap.size, 0, none⟩ = some (.bool Bo) := B0.at 0 rfl
 have B2 : w2.cell? ⟨w.heap.size, 1, none⟩ = some (.slice Bl Bn Bm) := B0.at 1 rfl
 have B3 : w2.cell? ⟨w.heap.size, 2, none⟩ = some (.slice Bi Bk Bj) := B0.at 2 rfl
 have Bw : w.heap.size < w2.heap.size := B0.lt
 go_wp2_with fail
 clear B1 B2 B3 Bw
 with_reducible refine (r8_Chance _ _ _ hu (SzQ.mid su) rfl).mono ?_
 rintro e w3 ⟨rfl, hb⟩
 replace hs := bStep hs hb
 replace B0 := B0.mono hb
 replace Blk := Blk.mono hb
 replace hu := hu.mono hb
 clear hb
 obtain ⟨b1, Cf⟩ : ∃ b : Bool, b = decide (0 ≤ u ∧ u ≤ 1) := ⟨_, rfl⟩
 rw [← Cf]
 replace Cf := Lib.hid Cf
 have q2 : 0 ≤ u ∧ u ≤ 1 := HC.out
 obtain rfl : b1 = true := by rw [Cf.out]; exact decide_eq_true q2
 have q2H := Lib.hid q2
 clear q2
 go_wp2
 go_loopw [7, 8] (fun s7 s8 wq => ∃ k : Nat, k ≤ L.length ∧ s8 = .int .i64 k ∧ s7 = .int .i64 (bqF L (u * n) k) ∧ Below w.heap.size w wq ∧ Bx wq (w.heap.size) 41 #[.bool Bo, .slice Bl Bn Bm, .slice Bi Bk Bj] ∧ Bx wq (w.heap.size + 1) 41 #[.bool false, .slice none 0 0, .slice none 0 0] ∧ RV wq (.agg #[.bool Bo, .slice Bl Bn Bm, .slice Bi Bk Bj]) (u)) (fun s7 s8 _ => L.length - (intOf s8).toNat)
 case atStart => exact ⟨0, Nat.zero_le _, rfl, rfl, hs, B0, Blk, hu⟩
 case round =>
  clear B0 Blk hu hs
  obtain ⟨k, k_le, rfl, rfl, hs, B0, Blk, hu⟩ := hrel
  obtain ⟨bq, D9⟩ : ∃ b : Int, bqF L (u * n) k = b := ⟨_, rfl⟩
  rw [D9]
  have bqb := bqF_bd L (u * n) k
  rw [D9] at bqb
  have Cm := Lib.hid D9
  clear D9
  by_cases q3 : k < L.length
  ·have q3d : ((k : Int) < (L.length : Int)) = True := eq_true (by omega)
   have BI4a : k < L.length := by omega
   have BI4b : ((k : Int) : Int) < (L.length : Int) := by omega
   obtain ⟨D8, D6, Da, D7, D3, D5, D4, Cw, Cx, Cy, B7, le5⟩ := rowR_at (HL.out.mono RC.kept hs) (show k < L.length by omega)
   go_wp2_with fail
   clear le5 Cw Cx Cy
   obtain ⟨Cn, Cb⟩ : ∃ z : Int, lsF L (nthQ L k) L.length = z := ⟨_, rfl⟩
   obtain ⟨lb7, Cp⟩ : ∃ z : Int, eqF L (nthQ L k) L.length = z := ⟨_, rfl⟩
   obtain ⟨E2, E3, E4, E5⟩ := ls_bd L (nthQ L k) L.length
   rw [Cb] at E2 E3
   rw [Cp] at E4 E5
   replace Cb := Lib.hid Cb
   replace Cp := Lib.hid Cp
   with_reducible refine (r8_below _ (HL.out.mono RC.kept hs) g1 g20 HZ.out B7 (HZ.out k (by omega)) Cb.out Cp.out).mono ?_
   rintro e w24 ⟨rfl, hb⟩
   replace hs := bStep hs hb
   replace B0 := B0.mono hb
   replace Blk := Blk.mono hb
   replace hu := hu.mono hb
   replace B7 := B7.mono hb
   clear hb
   go_upto_region 11 with fail
   obtain ⟨Cr, C0⟩ : ∃ s : Int, s = sgQ (((((L.length : Int) - Cn : Int) : Rat)) - (u * n)) := ⟨_, rfl⟩
   replace C0 := Lib.hid C0
   by_cases q12 : u * n ≤ (((L.length : Int) - Cn : Int) : Rat)
   ·have D0 : 0 ≤ Cr := by have h := sq_ge ((((L.length : Int) - Cn : Int) : Rat)) (u * n); rw [← C0.out] at h; exact h.2 q12
    have Cq := Lib.hid q12
    clear q12
    have q12d : decide (0 ≤ Cr) = true := decide_eq_true D0
    by_cases q13 : bq < 0
    ·have q13d : (bq < 0) = True := eq_true (by omega)
     refine U_region (S := fun w' => w'.cell? ⟨w.heap.size, 0, none⟩ = some (.bool Bo) ∧ w'.cell? ⟨w.heap.size, 1, none⟩ = some (.slice Bl Bn Bm) ∧ w'.cell? ⟨w.heap.size, 2, none⟩ = some (.slice Bi Bk Bj)) (by kernel_rfl) 28 ?_
     refine AnyU.abs ?_
     intro B8 hW
     have hb : Below w24.heap.size w24 B8 := by rw [hW]; exact bDrew _
     replace hs := bStep hs hb
     replace B0 := B0.mono hb
     replace Blk := Blk.mono hb
     replace hu := hu.mono hb
     replace B7 := B7.mono hb
     clear hb hW
     have B1 : B8.cell? ⟨w.heap.size, 0, none⟩ = some (.bool Bo) := B0.at 0 rfl
     have B2 : B8.cell? ⟨w.heap.size, 1, none⟩ = some (.slice Bl Bn Bm) := B0.at 1 rfl
     have B3 : B8.cell? ⟨w.heap.size, 2, none⟩ = some (.slice Bi Bk Bj) := B0.at 2 rfl
     have hH := (show B8.cell? ⟨w.heap.size, 0, none⟩ = some (.bool Bo) ∧ B8.cell? ⟨w.heap.size, 1, none⟩ = some (.slice Bl Bn Bm) ∧ B8.cell? ⟨w.heap.size, 2, none⟩ = some (.slice Bi Bk Bj) from ⟨B1, B2, B3⟩)
     refine U_tk 0 36 ?_ ?_ hH ?_
     rotate_left
     ·(intro w B5; (try dsimp only at B5); go_simp; try with_reducible rfl)
     simp only [LY]
     refine U_tk 1 37 ?_ ?_ hH ?_
     rotate_left
     ·(intro w B5; (try dsimp only at B5); go_simp; try with_reducible rfl)
     simp only [LY]
     refine U_tk 2 38 ?_ ?_ hH ?_
     rotate_left
     ·(intro w B5; (try dsimp only at B5); go_simp; try with_reducible rfl)
     simp only [LY]
     refine U_tk 3 39 ?_ ?_ hH ?_
     rotate_left
     ·(intro w B5; (try dsimp only at B5); go_simp; try with_reducible rfl)
     simp only [LY]
     refine U_tk 5 41 ?_ ?_ hH ?_
     rotate_left
     ·(intro w B5; (try dsimp only at B5); go_simp; try with_reducible rfl)
     simp only [LY]
     refine U_tk 6 42 ?_ ?_ hH ?_
     rotate_left
     ·(intro w B5; (try dsimp only at B5); go_simp; try with_reducible rfl)
     simp only [LY]
     refine U_tk 7 43 ?_ ?_ hH ?_
     rotate_left
     ·(intro w B5; (try dsimp only at B5); go_simp; try with_reducible rfl)
     simp only [LY]
     clear hH
     refine U_one (i := 4) (by kernel_rfl) rfl (fun K hK => ?_)
     go_simp
     (with_reducible refine (rq_numS ((L.length : Int) - Cn) _ (by omega) (by omega)).mono ?_)
     rintro e w26 ⟨_, rfl, h8, hb⟩
     obtain ⟨sh8, ah8, nh8, ch8, Ah8, Nh8, Ch8, rfl⟩ := h8.shape
     replace hs := bStep hs hb
     replace B0 := B0.mono hb
     replace Blk := Blk.mono hb
     replace hu := hu.mono hb
     replace B7 := B7.mono hb
     replace B1 := cellK B1 hb
     replace B2 := cellK B2 hb
     replace B3 := cellK B3 hb
     clear hb
     try go_wp2_with fail
     refine hK.out _ _ ⟨B1, B2, B3⟩ (fun hH => ?_)
     clear hK K
     try simp only [LY]
     clear hH
     refine U_one (i := 8) (by kernel_rfl) rfl (fun K hK => ?_)
     go_simp
     (with_reducible refine (rq_numN HN.out _ (by omega)).mono ?_)
     rintro e w27 ⟨_, rfl, h9, hb⟩
     obtain ⟨sh9, ah9, nh9, ch9, Ah9, Nh9, Ch9, rfl⟩ := h9.shape
     replace hs := bStep hs hb
     replace B0 := B0.mono hb
     replace Blk := Blk.mono hb
     replace hu := hu.mono hb
     replace B7 := B7.mono hb
     replace h8 := h8.mono hb
     replace B1 := cellK B1 hb
     replace B2 := cellK B2 hb
     replace B3 := cellK B3 hb
     clear hb
     try go_wp2_with fail
     refine hK.out _ _ ⟨B1, B2, B3⟩ (fun hH => ?_)
     clear hK K
     try simp only [LY]
     clear hH
     refine U_one (i := 9) (by kernel_rfl) rfl (fun K hK => ?_)
     go_simp
     (with_reducible refine (rMul hu h9 (SzQ.fit su) (SzQ.fit sn)).mono ?_)
     rintro e w28 ⟨_, rfl, Bv, hb⟩
     obtain ⟨Dx, Do, Dw, Dr, De, Dl, Df, rfl⟩ := Bv.shape
     replace hs := bStep hs hb
     replace B0 := B0.mono hb
     replace Blk := Blk.mono hb
     replace hu := hu.mono hb
     replace B7 := B7.mono hb
     replace h8 := h8.mono hb
     replace h9 := h9.mono hb
     replace B1 := cellK B1 hb
     replace B2 := cellK B2 hb
     replace B3 := cellK B3 hb
     clear hb
     try go_wp2_with fail
     refine hK.out _ _ ⟨B1, B2, B3⟩ (fun hH => ?_)
     clear hK K
     try simp only [LY]
     clear hH
     refine U_one (i := 10) (by kernel_rfl) rfl (fun K hK => ?_)
     go_simp
     (with_reducible refine (rCmp h8 Bv (SzQ.fit (szQ_int (by omega))) (SzQ.fit (SzQ.mul su sn))).mono ?_)
     rintro e w29 ⟨rfl, hb⟩
     replace hs := bStep hs hb
     replace B0 := B0.mono hb
     replace Blk := Blk.mono hb
     replace hu := hu.mono hb
     replace B7 := B7.mono hb
     replace h8 := h8.mono hb
     replace h9 := h9.mono hb
     replace Bv := Bv.mono hb
     replace B1 := cellK B1 hb
     replace B2 := cellK B2 hb
     replace B3 := cellK B3 hb
     clear hb
     rw [← C0.out]
     try go_wp2_with fail
     refine hK.out _ _ ⟨B1, B2, B3⟩ (fun hH => ?_)
     clear hK K
     try simp only [LY]
     refine U_tk 11 47 ?_ ?_ hH ?_
     rotate_left
     ·(intro w B5; (try dsimp only at B5); go_simp; try with_reducible rfl)
     simp only [LY]
     refine U_tk 12 48 ?_ ?_ hH ?_
     rotate_left
     ·(intro w B5; (try dsimp only at B5); go_simp; try with_reducible rfl)
     simp only [LY]
     refine U_tk 13 49 ?_ ?_ hH ?_
     rotate_left
     ·(intro w B5; (try dsimp only at B5); go_simp; try with_reducible rfl)
     simp only [LY]
     refine U_tk 14 50 ?_ ?_ hH ?_
     rotate_left
     ·(intro w B5; (try dsimp only at B5); go_simp; try with_reducible rfl)
     simp only [LY]
     refine U_tk 15 51 ?_ ?_ hH ?_
     rotate_left
     ·(intro w B5; (try dsimp only at B5); go_simp; try with_reducible rfl)
     simp only [LY]
     refine U_tu 16 52 hH ?_
     simp only [LY]
     refine U_tu 17 53 hH ?_
     simp only [LY]
     refine U_tu 18 54 hH ?_
     simp only [LY]
     refine U_tu 19 55 hH ?_
     simp only [LY]
     refine U_tu 20 56 hH ?_
     simp only [LY]
     refine U_tu 21 57 hH ?_
     simp only [LY]
     refine U_tu 22 58 hH ?_
     simp only [LY]
     refine U_tu 23 59 hH ?_
     simp only [LY]
     clear hH
     refine U_one (i := 24) (by kernel_rfl) rfl (fun K hK => ?_)
     go_simp
     refine hK.out _ _ ⟨B1, B2, B3⟩ (fun hH => ?_)
     clear hK K
     try simp only [LY]
     refine U_tu 25 61 hH ?_
     simp only [LY]
     refine U_tk 26 62 ?_ ?_ hH ?_
     rotate_left
     ·(intro w B5; (try dsimp only at B5); go_simp; try with_reducible rfl)
     simp only [LY]
     refine U_tk 27 63 ?_ ?_ hH ?_
     rotate_left
     ·(intro w B5; (try dsimp only at B5); go_simp; try with_reducible rfl)
     simp only [LY]
     clear hH
     refine U_endN (by kernel_rfl) ?_
     clear B1 B2 B3
     go_wp2
     go_roundw
     case rel => exact ⟨k + 1, by omega, by go_num, (congrArg _ (bqF_yes (show enQ L (u * n) (nthQ L k) from by unfold enQ; rw [Cb.out]; exact Cq.out) (.inl (by rw [Cm.out]; omega))).symm), hs, B0, Blk, hu⟩
     all_goals first | (simp [intOf]; done) | (simp [intOf]; omega)
    ·have q13d : (bq < 0) = False := eq_false (by omega)
     obtain ⟨bn, Cz⟩ : ∃ b : Nat, bq = (b : Int) := ⟨bq.toNat, by omega⟩
     subst Cz
     have hbn : ((bn : Int)).toNat = bn := Int.toNat_natCast bn
     obtain ⟨Ds, Dm, Du, Dp, Dc, Dj, Dh, Bc, Bd, Be, Bq, le14⟩ := rowR_at (HL.out.mono RC.kept hs) (show k < L.length by omega)
     have BI15a : bn < L.length := by omega
     have BI15b : ((bn : Int) : Int) < (L.length : Int) := by omega
     obtain ⟨Dt, Dn, Dv, Dq, Dd, Dk, Di, Bf, Bg, Bh, Br, le16⟩ := rowR_at (HL.out.mono RC.kept hs) (show bn < L.length by omega)
     obtain ⟨Cs, Cg⟩ : ∃ s : Int, s = sgQ ((nthQ L k) - (nthQ L bn)) := ⟨_, rfl⟩
     replace Cg := Lib.hid Cg
     refine U_region (S := fun w' => w'.cell? ⟨w.heap.size, 0, none⟩ = some (.bool Bo) ∧ w'.cell? ⟨w.heap.size, 1, none⟩ = some (.slice Bl Bn Bm) ∧ w'.cell? ⟨w.heap.size, 2, none⟩ = some (.slice Bi Bk Bj) ∧ w'.cell? ⟨lb, lo + k * 3, none⟩ = some (.bool Ds) ∧ w'.cell? ⟨lb, lo + k * 3 + 1, none⟩ = some (.slice Dm Du Dp) ∧ w'.cell? ⟨lb, lo + k * 3 + 2, none⟩ = some (.slice Dc Dj Dh) ∧ w'.cell? ⟨lb, lo + bn * 3, none⟩ = some (.bool Dt) ∧ w'.cell? ⟨lb, lo + bn * 3 + 1, none⟩ = some (.slice Dn Dv Dq) ∧ w'.cell? ⟨lb, lo + bn * 3 + 2, none⟩ = some (.slice Dd Dk Di)) (by kernel_rfl) 28 ?_
     refine AnyU.abs ?_
     intro B8 hW
     have hb : Below w24.heap.size w24 B8 := by rw [hW]; exact bDrew _
     replace hs := bStep hs hb
     replace B0 := B0.mono hb
     replace Blk := Blk.mono hb
     replace hu := hu.mono hb
     replace B7 := B7.mono hb
     replace Bq := Bq.mono hb
     replace Br := Br.mono hb
     replace Bc := cellK Bc hb
     replace Bd := cellK Bd hb
     replace Be := cellK Be hb
     replace Bf := cellK Bf hb
     replace Bg := cellK Bg hb
     replace Bh := cellK Bh hb
     clear hb hW
     have B1 : B8.cell? ⟨w.heap.size, 0, none⟩ = some (.bool Bo) := B0.at 0 rfl
     have B2 : B8.cell? ⟨w.heap.size, 1, none⟩ = some (.slice Bl Bn Bm) := B0.at 1 rfl
     have B3 : B8.cell? ⟨w.heap.size, 2, none⟩ = some (.slice Bi Bk Bj) := B0.at 2 rfl
     have hH := (show B8.cell? ⟨w.heap.size, 0, none⟩ = some (.bool Bo) ∧ B8.cell? ⟨w.heap.size, 1, none⟩ = some (.slice Bl Bn Bm) ∧ B8.cell? ⟨w.heap.size, 2, none⟩ = some (.slice Bi Bk Bj) ∧ B8.cell? ⟨lb, lo + k * 3, none⟩ = some (.bool Ds) ∧ B8.cell? ⟨lb, lo + k * 3 + 1, none⟩ = some (.slice Dm Du Dp) ∧ B8.cell? ⟨lb, lo + k * 3 + 2, none⟩ = some (.slice Dc Dj Dh) ∧ B8.cell? ⟨lb, lo + bn * 3, none⟩ = some (.bool Dt) ∧ B8.cell? ⟨lb, lo + bn * 3 + 1, none⟩ = some (.slice Dn Dv Dq) ∧ B8.cell? ⟨lb, lo + bn * 3 + 2, none⟩ = some (.slice Dd Dk Di) from ⟨B1, B2, B3, Bc, Bd, Be, Bf, Bg, Bh⟩)
     refine U_tk 0 36 ?_ ?_ hH ?_
     rotate_left
     ·(intro w B5; (try dsimp only at B5); go_simp; try with_reducible rfl)
     simp only [LY]
     refine U_tk 1 37 ?_ ?_ hH ?_
     rotate_left
     ·(intro w B5; (try dsimp only at B5); go_simp; try with_reducible rfl)
     simp only [LY]
     refine U_tk 2 38 ?_ ?_ hH ?_
     rotate_left
     ·(intro w B5; (try dsimp only at B5); go_simp; try with_reducible rfl)
     simp only [LY]
     refine U_tk 3 39 ?_ ?_ hH ?_
     rotate_left
     ·(intro w B5; (try dsimp only at B5); go_simp; try with_reducible rfl)
     simp only [LY]
     refine U_tk 5 41 ?_ ?_ hH ?_
     rotate_left
     ·(intro w B5; (try dsimp only at B5); go_simp; try with_reducible rfl)
     simp only [LY]
     refine U_tk 6 42 ?_ ?_ hH ?_
     rotate_left
     ·(intro w B5; (try dsimp only at B5); go_simp; try with_reducible rfl)
     simp only [LY]
     refine U_tk 7 43 ?_ ?_ hH ?_
     rotate_left
     ·(intro w B5; (try dsimp only at B5); go_simp; try with_reducible rfl)
     simp only [LY]
     clear hH
     refine U_one (i := 4) (by kernel_rfl) rfl (fun K hK => ?_)
     go_simp
     (with_reducible refine (rq_numS ((L.length : Int) - Cn) _ (by omega) (by omega)).mono ?_)
     rintro e w26 ⟨_, rfl, h8, hb⟩
     obtain ⟨sh8, ah8, nh8, ch8, Ah8, Nh8, Ch8, rfl⟩ := h8.shape
     replace hs := bStep hs hb
     replace B0 := B0.mono hb
     replace Blk := Blk.mono hb
     replace hu := hu.mono hb
     replace B7 := B7.mono hb
     replace Bq := Bq.mono hb
     replace Br := Br.mono hb
     replace B1 := cellK B1 hb
     replace B2 := cellK B2 hb
     replace B3 := cellK B3 hb
     replace Bc := cellK Bc hb
     replace Bd := cellK Bd hb
     replace Be := cellK Be hb
     replace Bf := cellK Bf hb
     replace Bg := cellK Bg hb
     replace Bh := cellK Bh hb
     clear hb
     try go_wp2_with fail
     refine hK.out _ _ ⟨B1, B2, B3, Bc, Bd, Be, Bf, Bg, Bh⟩ (fun hH => ?_)
     clear hK K
     try simp only [LY]
     clear hH
     refine U_one (i := 8) (by kernel_rfl) rfl (fun K hK => ?_)
     go_simp
     (with_reducible refine (rq_numN HN.out _ (by omega)).mono ?_)
     rintro e w27 ⟨_, rfl, h9, hb⟩
     obtain ⟨sh9, ah9, nh9, ch9, Ah9, Nh9, Ch9, rfl⟩ := h9.shape
     replace hs := bStep hs hb
     replace B0 := B0.mono hb
     replace Blk := Blk.mono hb
     replace hu := hu.mono hb
     replace B7 := B7.mono hb
     replace Bq := Bq.mono hb
     replace Br := Br.mono hb
     replace h8 := h8.mono hb
     replace B1 := cellK B1 hb
     replace B2 := cellK B2 hb
     replace B3 := cellK B3 hb
     replace Bc := cellK Bc hb
     replace Bd := cellK Bd hb
     replace Be := cellK Be hb
     replace Bf := cellK Bf hb
     replace Bg := cellK Bg hb
     replace Bh := cellK Bh hb
     clear hb
     try go_wp2_with fail
     refine hK.out _ _ ⟨B1, B2, B3, Bc, Bd, Be, Bf, Bg, Bh⟩ (fun hH => ?_)
     clear hK K
     try simp only [LY]
     clear hH
     refine U_one (i := 9) (by kernel_rfl) rfl (fun K hK => ?_)
     go_simp
     (with_reducible refine (rMul hu h9 (SzQ.fit su) (SzQ.fit sn)).mono ?_)
     rintro e w28 ⟨_, rfl, Bv, hb⟩
     obtain ⟨Dx, Do, Dw, Dr, De, Dl, Df, rfl⟩ := Bv.shape
     replace hs := bStep hs hb
     replace B0 := B0.mono hb
     replace Blk := Blk.mono hb
     replace hu := hu.mono hb
     replace B7 := B7.mono hb
     replace Bq := Bq.mono hb
     replace Br := Br.mono hb
     replace h8 := h8.mono hb
     replace h9 := h9.mono hb
     replace B1 := cellK B1 hb
     replace B2 := cellK B2 hb
     replace B3 := cellK B3 hb
     replace Bc := cellK Bc hb
     replace Bd := cellK Bd hb
     replace Be := cellK Be hb
     replace Bf := cellK Bf hb
     replace Bg := cellK Bg hb
     replace Bh := cellK Bh hb
     clear hb
     try go_wp2_with fail
     refine hK.out _ _ ⟨B1, B2, B3, Bc, Bd, Be, Bf, Bg, Bh⟩ (fun hH => ?_)
     clear hK K
     try simp only [LY]
     clear hH
     refine U_one (i := 10) (by kernel_rfl) rfl (fun K hK => ?_)
     go_simp
     (with_reducible refine (rCmp h8 Bv (SzQ.fit (szQ_int (by omega))) (SzQ.fit (SzQ.mul su sn))).mono ?_)
     rintro e w29 ⟨rfl, hb⟩
     replace hs := bStep hs hb
     replace B0 := B0.mono hb
     replace Blk := Blk.mono hb
     replace hu := hu.mono hb
     replace B7 := B7.mono hb
     replace Bq := Bq.mono hb
     replace Br := Br.mono hb
     replace h8 := h8.mono hb
     replace h9 := h9.mono hb
     replace Bv := Bv.mono hb
     replace B1 := cellK B1 hb
     replace B2 := cellK B2 hb
     replace B3 := cellK B3 hb
     replace Bc := cellK Bc hb
     replace Bd := cellK Bd hb
     replace Be := cellK Be hb
     replace Bf := cellK Bf hb
     replace Bg := cellK Bg hb
     replace Bh := cellK Bh hb
     clear hb
     rw [← C0.out]
     try go_wp2_with fail
     refine hK.out _ _ ⟨B1, B2, B3, Bc, Bd, Be, Bf, Bg, Bh⟩ (fun hH => ?_)
     clear hK K
     try simp only [LY]
     refine U_tk 11 47 ?_ ?_ hH ?_
     rotate_left
     ·(intro w B5; (try dsimp only at B5); go_simp; try with_reducible rfl)
     simp only [LY]
     refine U_tk 12 48 ?_ ?_ hH ?_
     rotate_left
     ·(intro w B5; (try dsimp only at B5); go_simp; try with_reducible rfl)
     simp only [LY]
     refine U_tk 13 49 ?_ ?_ hH ?_
     rotate_left
     ·(intro w B5; (try dsimp only at B5); go_simp; try with_reducible rfl)
     simp only [LY]
     refine U_tk 14 50 ?_ ?_ hH ?_
     rotate_left
     ·(intro w B5; (try dsimp only at B5); go_simp; try with_reducible rfl)
     simp only [LY]
     refine U_tk 15 51 ?_ ?_ hH ?_
     rotate_left
     ·(intro w B5; (try dsimp only at B5); go_simp; try with_reducible rfl)
     simp only [LY]
     refine U_tk 16 52 ?_ ?_ hH ?_
     rotate_left
     ·(intro w B5; (try dsimp only at B5); go_simp; try with_reducible rfl)
     simp only [LY]
     refine U_tk 17 53 ?_ ?_ hH ?_
     rotate_left
     ·(intro w B5; (try dsimp only at B5); go_simp; try with_reducible rfl)
     simp only [LY]
     refine U_tk 18 54 ?_ ?_ hH ?_
     rotate_left
     ·(intro w B5; (try dsimp only at B5); go_simp; try with_reducible rfl)
     simp only [LY]
     refine U_tk 19 55 ?_ ?_ hH ?_
     rotate_left
     ·(intro w B5; (try dsimp only at B5); go_simp; try with_reducible rfl)
     simp only [LY]
     refine U_tk 20 56 ?_ ?_ hH ?_
     rotate_left
     ·(intro w B5; (try dsimp only at B5); go_simp; try with_reducible rfl)
     simp only [LY]
     refine U_tk 21 57 ?_ ?_ hH ?_
     rotate_left
     ·(intro w B5; (try dsimp only at B5); go_simp; try with_reducible rfl)
     simp only [LY]
     refine U_tk 22 58 ?_ ?_ hH ?_
     rotate_left
     ·(intro w B5; (try dsimp only at B5); go_simp; try with_reducible rfl)
     simp only [LY]
     refine U_tk 23 59 ?_ ?_ hH ?_
     rotate_left
     ·(intro w B5; (try dsimp only at B5); go_simp; try with_reducible rfl)
     simp only [LY]
     clear hH
     refine U_one (i := 24) (by kernel_rfl) rfl (fun K hK => ?_)
     go_simp
     (with_reducible refine (rCmp Bq Br (SzQ.fit (HZ1.out k (by omega))) (SzQ.fit (HZ1.out bn (by omega)))).mono ?_)
     rintro e w30 ⟨rfl, hb⟩
     replace hs := bStep hs hb
     replace B0 := B0.mono hb
     replace Blk := Blk.mono hb
     replace hu := hu.mono hb
     replace B7 := B7.mono hb
     replace Bq := Bq.mono hb
     replace Br := Br.mono hb
     replace h8 := h8.mono hb
     replace h9 := h9.mono hb
     replace Bv := Bv.mono hb
     replace B1 := cellK B1 hb
     replace B2 := cellK B2 hb
     replace B3 := cellK B3 hb
     replace Bc := cellK Bc hb
     replace Bd := cellK Bd hb
     replace Be := cellK Be hb
     replace Bf := cellK Bf hb
     replace Bg := cellK Bg hb
     replace Bh := cellK Bh hb
     clear hb
     rw [← Cg.out]
     try go_wp2_with fail
     refine hK.out _ _ ⟨B1, B2, B3, Bc, Bd, Be, Bf, Bg, Bh⟩ (fun hH => ?_)
     clear hK K
     try simp only [LY]
     refine U_tk 25 61 ?_ ?_ hH ?_
     rotate_left
     ·(intro w B5; (try dsimp only at B5); go_simp; try with_reducible rfl)
     simp only [LY]
     refine U_tk 26 62 ?_ ?_ hH ?_
     rotate_left
     ·(intro w B5; (try dsimp only at B5); go_simp; try with_reducible rfl)
     simp only [LY]
     refine U_tk 27 63 ?_ ?_ hH ?_
     rotate_left
     ·(intro w B5; (try dsimp only at B5); go_simp; try with_reducible rfl)
     simp only [LY]
     clear hH
     refine U_endN (by kernel_rfl) ?_
     clear B1 B2 B3 Bc Bd Be Bf Bg Bh
     by_cases q18 : nthQ L bn < nthQ L k
     ·have D2 : 0 < Cs := by have h := sq_gt (nthQ L k) (nthQ L bn); rw [← Cg.out] at h; exact h.2 q18
      have D1 := Lib.hid q18
      clear q18
      have q18d : decide (0 < Cs) = true := decide_eq_true D2
      go_wp2
      go_roundw
      case rel => exact ⟨k + 1, by omega, by go_num, (congrArg _ (bqF_yes (show enQ L (u * n) (nthQ L k) from by unfold enQ; rw [Cb.out]; exact Cq.out) (.inr (by rw [Cm.out, hbn]; exact D1.out))).symm), hs, B0, Blk, hu⟩
      all_goals first | (simp [intOf]; done) | (simp [intOf]; omega)
     ·have D2 : ¬ (0 < Cs) := by have h := sq_gt (nthQ L k) (nthQ L bn); rw [← Cg.out] at h; exact fun h1 => q18 (h.1 h1)
      have D1 := Lib.hid q18
      clear q18
      have q18d : decide (0 < Cs) = false := decide_eq_false D2
      go_wp2
      go_roundw
      case rel => exact ⟨k + 1, by omega, by go_num, (congrArg _ ((bqF_no2 (by rw [Cm.out]; omega) (by rw [Cm.out, hbn]; exact D1.out)).trans Cm.out).symm), hs, B0, Blk, hu⟩
      all_goals first | (simp [intOf]; done) | (simp [intOf]; omega)
   ·have D0 : ¬ (0 ≤ Cr) := by have h := sq_ge ((((L.length : Int) - Cn : Int) : Rat)) (u * n); rw [← C0.out] at h; exact fun h1 => q12 (h.1 h1)
    have Cq := Lib.hid q12
    clear q12
    have q12d : decide (0 ≤ Cr) = false := decide_eq_false D0
    refine U_region (S := fun w' => w'.cell? ⟨w.heap.size, 0, none⟩ = some (.bool Bo) ∧ w'.cell? ⟨w.heap.size, 1, none⟩ = some (.slice Bl Bn Bm) ∧ w'.cell? ⟨w.heap.size, 2, none⟩ = some (.slice Bi Bk Bj)) (by kernel_rfl) 28 ?_
    refine AnyU.abs ?_
    intro B8 hW
    have hb : Below w24.heap.size w24 B8 := by rw [hW]; exact bDrew _
    replace hs := bStep hs hb
    replace B0 := B0.mono hb
    replace Blk := Blk.mono hb
    replace hu := hu.mono hb
    replace B7 := B7.mono hb
    clear hb hW
    have B1 : B8.cell? ⟨w.heap.size, 0, none⟩ = some (.bool Bo) := B0.at 0 rfl
    have B2 : B8.cell? ⟨w.heap.size, 1, none⟩ = some (.slice Bl Bn Bm) := B0.at 1 rfl
    have B3 : B8.cell? ⟨w.heap.size, 2, none⟩ = some (.slice Bi Bk Bj) := B0.at 2 rfl
    have hH := (show B8.cell? ⟨w.heap.size, 0, none⟩ = some (.bool Bo) ∧ B8.cell? ⟨w.heap.size, 1, none⟩ = some (.slice Bl Bn Bm) ∧ B8.cell? ⟨w.heap.size, 2, none⟩ = some (.slice Bi Bk Bj) from ⟨B1, B2, B3⟩)
    refine U_tk 0 36 ?_ ?_ hH ?_
    rotate_left
    ·(intro w B5; (try dsimp only at B5); go_simp; try with_reducible rfl)
    simp only [LY]
    refine U_tk 1 37 ?_ ?_ hH ?_
    rotate_left
    ·(intro w B5; (try dsimp only at B5); go_simp; try with_reducible rfl)
    simp only [LY]
    refine U_tk 2 38 ?_ ?_ hH ?_
    rotate_left
    ·(intro w B5; (try dsimp only at B5); go_simp; try with_reducible rfl)
    simp only [LY]
    refine U_tk 3 39 ?_ ?_ hH ?_
    rotate_left
    ·(intro w B5; (try dsimp only at B5); go_simp; try with_reducible rfl)
    simp only [LY]
    refine U_tk 5 41 ?_ ?_ hH ?_
    rotate_left
    ·(intro w B5; (try dsimp only at B5); go_simp; try with_reducible rfl)
    simp only [LY]
    refine U_tk 6 42 ?_ ?_ hH ?_
    rotate_left
    ·(intro w B5; (try dsimp only at B5); go_simp; try with_reducible rfl)
    simp only [LY]
    refine U_tk 7 43 ?_ ?_ hH ?_
    rotate_left
    ·(intro w B5; (try dsimp only at B5); go_simp; try with_reducible rfl)
    simp only [LY]
    clear hH
    refine U_one (i := 4) (by kernel_rfl) rfl (fun K hK => ?_)
    go_simp
    (with_reducible refine (rq_numS ((L.length : Int) - Cn) _ (by omega) (by omega)).mono ?_)
    rintro e w26 ⟨_, rfl, h8, hb⟩
    obtain ⟨sh8, ah8, nh8, ch8, Ah8, Nh8, Ch8, rfl⟩ := h8.shape
    replace hs := bStep hs hb
    replace B0 := B0.mono hb
    replace Blk := Blk.mono hb
    replace hu := hu.mono hb
    replace B7 := B7.mono hb
    replace B1 := cellK B1 hb
    replace B2 := cellK B2 hb
    replace B3 := cellK B3 hb
    clear hb
    try go_wp2_with fail
    refine hK.out _ _ ⟨B1, B2, B3⟩ (fun hH => ?_)
    clear hK K
    try simp only [LY]
    clear hH
    refine U_one (i := 8) (by kernel_rfl) rfl (fun K hK => ?_)
    go_simp
    (with_reducible refine (rq_numN HN.out _ (by omega)).mono ?_)
    rintro e w27 ⟨_, rfl, h9, hb⟩
    obtain ⟨sh9, ah9, nh9, ch9, Ah9, Nh9, Ch9, rfl⟩ := h9.shape
    replace hs := bStep hs hb
    replace B0 := B0.mono hb
    replace Blk := Blk.mono hb
    replace hu := hu.mono hb
    replace B7 := B7.mono hb
    replace h8 := h8.mono hb
    replace B1 := cellK B1 hb
    replace B2 := cellK B2 hb
    replace B3 := cellK B3 hb
    clear hb
    try go_wp2_with fail
    refine hK.out _ _ ⟨B1, B2, B3⟩ (fun hH => ?_)
    clear hK K
    try simp only [LY]
    clear hH
    refine U_one (i := 9) (by kernel_rfl) rfl (fun K hK => ?_)
    go_simp
    (with_reducible refine (rMul hu h9 (SzQ.fit su) (SzQ.fit sn)).mono ?_)
    rintro e w28 ⟨_, rfl, Bv, hb⟩
    obtain ⟨Dx, Do, Dw, Dr, De, Dl, Df, rfl⟩ := Bv.shape
    replace hs := bStep hs hb
    replace B0 := B0.mono hb
    replace Blk := Blk.mono hb
    replace hu := hu.mono hb
    replace B7 := B7.mono hb
    replace h8 := h8.mono hb
    replace h9 := h9.mono hb
    replace B1 := cellK B1 hb
    replace B2 := cellK B2 hb
    replace B3 := cellK B3 hb
    clear hb
    try go_wp2_with fail
    refine hK.out _ _ ⟨B1, B2, B3⟩ (fun hH => ?_)
    clear hK K
    try simp only [LY]
    clear hH
    refine U_one (i := 10) (by kernel_rfl) rfl (fun K hK => ?_)
    go_simp
    (with_reducible refine (rCmp h8 Bv (SzQ.fit (szQ_int (by omega))) (SzQ.fit (SzQ.mul su sn))).mono ?_)
    rintro e w29 ⟨rfl, hb⟩
    replace hs := bStep hs hb
    replace B0 := B0.mono hb
    replace Blk := Blk.mono hb
    replace hu := hu.mono hb
    replace B7 := B7.mono hb
    replace h8 := h8.mono hb
    replace h9 := h9.mono hb
    replace Bv := Bv.mono hb
    replace B1 := cellK B1 hb
    replace B2 := cellK B2 hb
    replace B3 := cellK B3 hb
    clear hb
    rw [← C0.out]
    try go_wp2_with fail
    refine hK.out _ _ ⟨B1, B2, B3⟩ (fun hH => ?_)
    clear hK K
    try simp only [LY]
    refine U_tk 11 47 ?_ ?_ hH ?_
    rotate_left
    ·(intro w B5; (try dsimp only at B5); go_simp; try with_reducible rfl)
    simp only [LY]
    refine U_tk 12 48 ?_ ?_ hH ?_
    rotate_left
    ·(intro w B5; (try dsimp only at B5); go_simp; try with_reducible rfl)
    simp only [LY]
    refine U_tu 13 49 hH ?_
    simp only [LY]
    refine U_tu 14 50 hH ?_
    simp only [LY]
    refine U_tu 15 51 hH ?_
    simp only [LY]
    refine U_tu 16 52 hH ?_
    simp only [LY]
    refine U_tu 17 53 hH ?_
    simp only [LY]
    refine U_tu 18 54 hH ?_
    simp only [LY]
    refine U_tu 19 55 hH ?_
    simp only [LY]
    refine U_tu 20 56 hH ?_
    simp only [LY]
    refine U_tu 21 57 hH ?_
    simp only [LY]
    refine U_tu 22 58 hH ?_
    simp only [LY]
    refine U_tu 23 59 hH ?_
    simp only [LY]
    clear hH
    refine U_one (i := 24) (by kernel_rfl) rfl (fun K hK => ?_)
    go_simp
    refine hK.out _ _ ⟨B1, B2, B3⟩ (fun hH => ?_)
    clear hK K
    try simp only [LY]
    refine U_tu 25 61 hH ?_
    simp only [LY]
    refine U_tu 26 62 hH ?_
    simp only [LY]
    refine U_tk 27 63 ?_ ?_ hH ?_
    rotate_left
    ·(intro w B5; (try dsimp only at B5); go_simp; try with_reducible rfl)
    simp only [LY]
    clear hH
    refine U_endN (by kernel_rfl) ?_
    clear B1 B2 B3
    go_wp2
    go_roundw
    case rel => exact ⟨k + 1, by omega, by go_num, (congrArg _ ((bqF_no1 (show ¬ enQ L (u * n) (nthQ L k) from by unfold enQ; rw [Cb.out]; exact Cq.out)).trans Cm.out).symm), hs, B0, Blk, hu⟩
    all_goals first | (simp [intOf]; done) | (simp [intOf]; omega)
  ·have q3d : ((k : Int) < (L.length : Int)) = False := eq_false (by omega)
   obtain rfl : k = L.length := by omega
   obtain ⟨qb0, Db⟩ := HQB.out
   rw [Cm.out] at qb0 Db
   obtain ⟨bn, Cz⟩ : ∃ b : Nat, bq = (b : Int) := ⟨bq.toNat, by omega⟩
   subst Cz
   rw [Int.toNat_natCast] at Db
   have HQB1 := Lib.hid Db
   clear Db
   have BI4a : bn < L.length := by omega
   have BI4b : ((bn : Int) : Int) < (L.length : Int) := by omega
   obtain ⟨D8, D6, Da, D7, D3, D5, D4, Cw, Cx, Cy, B7, le5⟩ := rowR_at (HL.out.mono RC.kept hs) (show bn < L.length by omega)
   have B9 : wr.cell? ⟨w.heap.size + 1, 0, none⟩ = some (.bool false) := Blk.at 0 rfl
   have Ba : wr.cell? ⟨w.heap.size + 1, 1, none⟩ = some (.slice none 0 0) := Blk.at 1 rfl
   have Bb : wr.cell? ⟨w.heap.size + 1, 2, none⟩ = some (.slice none 0 0) := Blk.at 2 rfl
   have fk := Blk.free
   have Lk : w.heap.size + 1 < wr.heap.size := Blk.lt
   go_wp2
   clear B9 Ba Bb fk Lk le5 Cw Cx Cy
   refine bodyPost.abs ?_
   intro w24 hW
   have hG : Gr [w.heap.size + 1] wr w24 := by rw [hW]; exact (Gr.refl _ _).set.set.set
   have Bz := hs.size
   have lk := Blk.lt
   have B6 : Below w.heap.size wr w24 := hG.below1 hs.size (by first | omega | assumption)
   have hk : KeepD wr w24 := hG.keep ⟨⟨_, Blk.ty, by decide⟩, True.intro⟩
   have Bp : Bx w24 (w.heap.size + 1) 41 #[.bool D8, .slice D6 Da D7, .slice D3 D5 D4] := by rw [hW]; exact Blk.set3
   replace hs := hs.trans B6
   replace B0 := hG.bx B0 (notMem1 (by omega))
   replace Blk := Bp
   clear Bp
   replace hu := hu.keep hk
   replace B7 := B7.keep hk
   clear hW hG hk B6 Bz lk
   have B9 : w24.cell? ⟨w.heap.size + 1, 0, none⟩ = some (.bool D8) := Blk.at 0 rfl
   have Ba : w24.cell? ⟨w.heap.size + 1, 1, none⟩ = some (.slice D6 Da D7) := Blk.at 1 rfl
   have Bb : w24.cell? ⟨w.heap.size + 1, 2, none⟩ = some (.slice D3 D5 D4) := Blk.at 2 rfl
   exact bodyPost_ret (v := .tuple #[.agg #[.bool D8, .slice D6 Da D7, .slice D3 D5 D4], .int .i64 0]) (by simp [results, Tryz.results12, go_sem, B9, Ba, Bb]) rfl ⟨_, rfl, B7.of_eq (HQB1.out.trans HQ.out), hs⟩
end Go.Proofs.YtlmemilmhdhgbaaGreat
