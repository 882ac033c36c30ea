/-
  allow: Quantile, Outlier; Mean where it fails.
-/
import Derived.Test.YtlmemilmhdhgbaaGreatPkOrdO
import Derived.Test.YtlmemilmhdhgbaaGreatPkQntO
set_option linter.unusedSimpArgs false
set_option linter.unusedVariables false
set_option maxRecDepth 100000
set_option maxHeartbeats 8000000
namespace Go.Proofs.YtlmemilmhdhgbaaGreat
open Go.RowKit Dg
attribute [local go_sem ↓] Go.wp_at_zero Go.wp_at_succ
theorem al_wholeS (m : Int) (w : World) (h0 : 0 ≤ m) (h1 : m ≤ 4294967295) : Calls Tryz.prog 35 #[.int .i64 (IntKind.i64.wrap m)] w (RetP w ((m : Int) : Rat)) := by
 rw [IntWalk.i64_in m (by omega)]; exact al_whole m w h0 h1
theorem al_Quantile_few {v vu : Value} {L : List Rat} {u : Rat} (w : World) (hl : Rows 3 34 PC w v L) (hu : PV w vu u) (su : SzQ 1 u) (g1 : ¬ (1 ≤ L.length ∧ L.length ≤ 64)) : Calls Tryz.prog 11 #[v, vu] w (RetPE w 0 4) := by
 obtain ⟨aL, kL, rfl, hl1, hl2, -⟩ := hl.toI.slice
 have HL := Lib.hid hl
 clear hl
 obtain ⟨C6, C0, C4, C2, Bt, By, Bv, rfl⟩ := hu.shape
 have hs := Below.refl w.heap.size w
 go_enter Tryz.func11, Tryz.ntmps11
 go_wp2_with fail
 refine Calls.abs ?_
 intro w1 hW
 have hG : Gr [] w w1 := by rw [hW]; exact (Gr.refl _ _).alloc.alloc
 have Bh : Below w.heap.size w w1 := hG.below0 hs.size
 have hk : KeepD w w1 := hG.keep True.intro
 have Dl : w.heap.size ≤ w.heap.size := hs.size
 have B0 : Bx w1 (w.heap.size) 34 #[.bool C6, .slice C0 C4 C2, .slice Bt By Bv] := by rw [hW]; exact ((Bx.new0 _ _ _).alloc _)
 have Blk : Bx w1 (w.heap.size + 1) 34 #[.bool false, .slice none 0 0, .slice none 0 0] := by rw [hW]; exact (Bx.new0 _ _ _)
 replace hs := hs.trans Bh
 replace hu := hu.keep hk
 clear hW hG hk Bh
 have Dk : w.heap.size + 1 < w1.heap.size := Blk.lt
 with_reducible refine (al_cvL_all (e := 4) _ (HL.out.mono PC.kept hs) (if_pos (by omega))).mono ?_
 rintro e w2 ⟨rfl, hb⟩
 replace hs := bStep hs hb
 replace B0 := B0.mono hb
 replace Blk := Blk.mono hb
 replace hu := hu.mono hb
 clear hb
 have Bn : w2.cell? ⟨w.heap.size + 1, 0, none⟩ = some (.bool false) := Blk.at 0 rfl
 have Bo : w2.cell? ⟨w.heap.size + 1, 1, none⟩ = some (.slice none 0 0) := Blk.at 1 rfl
 have Bp : w2.cell? ⟨w.heap.size + 1, 2, none⟩ = some (.slice none 0 0) := Blk.at 2 rfl
 have fk := Blk.free
 have Lk : w.heap.size + 1 < w2.heap.size := Blk.lt
 go_wp2
 clear Bn Bo Bp fk Lk
 refine bodyPost.abs ?_
 intro w3 hW
 have hG : Gr [w.heap.size + 1] w2 w3 := by rw [hW]; exact (Gr.refl _ _).set.set.set
 have C7 := hs.size
 have lk := Blk.lt
 have Bh : Below w.heap.size w2 w3 := hG.below1 hs.size (by first | omega | assumption)
 have hk : KeepD w2 w3 := hG.keep ⟨⟨_, Blk.ty, by decide⟩, True.intro⟩
 have Br : Bx w3 (w.heap.size + 1) 34 #[.bool false, .slice none 0 0, .slice none 0 0] := by rw [hW]; exact Blk.set3
 replace hs := hs.trans Bh
 replace B0 := hG.bx B0 (notMem1 (by omega))
 replace Blk := Br
 clear Br
 replace hu := hu.keep hk
 clear hW hG hk Bh C7 lk
 have Bn : w3.cell? ⟨w.heap.size + 1, 0, none⟩ = some (.bool false) := Blk.at 0 rfl
 have Bo : w3.cell? ⟨w.heap.size + 1, 1, none⟩ = some (.slice none 0 0) := Blk.at 1 rfl
 have Bp : w3.cell? ⟨w.heap.size + 1, 2, none⟩ = some (.slice none 0 0) := Blk.at 2 rfl
 exact bodyPost_ret (v := .tuple #[.agg #[.bool false, .slice none 0 0, .slice none 0 0], .int .i64 4]) (by simp [results, Tryz.results11, go_sem, Bn, Bo, Bp]) rfl ⟨_, rfl, (PV.zero _), hs⟩
theorem al_Quantile_arg {v vu : Value} {L : List Rat} {u : Rat} (w : World) (hl : Rows 3 34 PC w v L) (hu : PV w vu u) (su : SzQ 1 u) (g1 : 1 ≤ L.length) (g20 : L.length ≤ 64) (hc : ¬ (0 ≤ u ∧ u ≤ 1)) : Calls Tryz.prog 11 #[v, vu] w (RetPE w 0 1) := by
 obtain ⟨aL, kL, rfl, hl1, hl2, -⟩ := hl.toI.slice
 have HL := Lib.hid hl
 clear hl
 obtain ⟨C6, C0, C4, C2, Bt, By, Bv, rfl⟩ := hu.shape
 have HC := Lib.hid hc
 clear hc
 have hs := Below.refl w.heap.size w
 go_enter Tryz.func11, Tryz.ntmps11
 go_wp2_with fail
 refine Calls.abs ?_
 intro w1 hW
 have hG : Gr [] w w1 := by rw [hW]; exact (Gr.refl _ _).alloc.alloc
 have Bh : Below w.heap.size w w1 := hG.below0 hs.size
 have hk : KeepD w w1 := hG.keep True.intro
 have Dl : w.heap.size ≤ w.heap.size := hs.size
 have B0 : Bx w1 (w.heap.size) 34 #[.bool C6, .slice C0 C4 C2, .slice Bt By Bv] := by rw [hW]; exact ((Bx.new0 _ _ _).alloc _)
 have Blk : Bx w1 (w.heap.size + 1) 34 #[.bool false, .slice none 0 0, .slice none 0 0] := by rw [hW]; exact (Bx.new0 _ _ _)
 replace hs := hs.trans Bh
 replace hu := hu.keep hk
 clear hW hG hk Bh
 have Dk : w.heap.size + 1 < w1.heap.size := Blk.lt
 with_reducible refine (al_cvL_all (e := 0) _ (HL.out.mono PC.kept hs) (if_neg (by omega))).mono ?_
 rintro e w2 ⟨rfl, hb⟩
 replace hs := bStep hs hb
 replace B0 := B0.mono hb
 replace Blk := Blk.mono hb
 replace hu := hu.mono hb
 clear hb
 have B2 : w2.cell? ⟨w.heap.size, 0, none⟩ = some (.bool C6) := B0.at 0 rfl
 have B3 : w2.cell? ⟨w.heap.size, 1, none⟩ = some (.slice C0 C4 C2) := B0.at 1 rfl
 have B4 : w2.cell? ⟨w.heap.size, 2, none⟩ = some (.slice Bt By Bv) := B0.at 2 rfl
 have Cl : w.heap.size < w2.heap.size := B0.lt
 go_wp2_with fail
 clear B2 B3 B4 Cl
 with_reducible refine (al_isChance _ _ _ hu (SzQ.mid su) rfl).mono ?_
 rintro e w3 ⟨rfl, hb⟩
 replace hs := bStep hs hb
 replace B0 := B0.mono hb
 replace Blk := Blk.mono hb
 replace hu := hu.mono hb
 clear hb
 obtain ⟨b1, Ca⟩ : ∃ b : Bool, b = decide (0 ≤ u ∧ u ≤ 1) := ⟨_, rfl⟩
 rw [← Ca]
 replace Ca := Lib.hid Ca
 have q2 : ¬ (0 ≤ u ∧ u ≤ 1) := HC.out
 obtain rfl : b1 = false := by rw [Ca.out]; exact decide_eq_false q2
 have q2H := Lib.hid q2
 clear q2
 have Bn : w3.cell? ⟨w.heap.size + 1, 0, none⟩ = some (.bool false) := Blk.at 0 rfl
 have Bo : w3.cell? ⟨w.heap.size + 1, 1, none⟩ = some (.slice none 0 0) := Blk.at 1 rfl
 have Bp : w3.cell? ⟨w.heap.size + 1, 2, none⟩ = some (.slice none 0 0) := Blk.at 2 rfl
 have fk := Blk.free
 have Lk : w.heap.size + 1 < w3.heap.size := Blk.lt
 go_wp2
 clear Bn Bo Bp fk Lk
 refine bodyPost.abs ?_
 intro w4 hW
 have hG : Gr [w.heap.size + 1] w3 w4 := by rw [hW]; exact (Gr.refl _ _).set.set.set
 have C7 := hs.size
 have lk := Blk.lt
 have Bh : Below w.heap.size w3 w4 := hG.below1 hs.size (by first | omega | assumption)
 have hk : KeepD w3 w4 := hG.keep ⟨⟨_, Blk.ty, by decide⟩, True.intro⟩
 have Br : Bx w4 (w.heap.size + 1) 34 #[.bool false, .slice none 0 0, .slice none 0 0] := by rw [hW]; exact Blk.set3
 replace hs := hs.trans Bh
 replace B0 := hG.bx B0 (notMem1 (by omega))
 replace Blk := Br
 clear Br
 replace hu := hu.keep hk
 clear hW hG hk Bh C7 lk
 have Bn : w4.cell? ⟨w.heap.size + 1, 0, none⟩ = some (.bool false) := Blk.at 0 rfl
 have Bo : w4.cell? ⟨w.heap.size + 1, 1, none⟩ = some (.slice none 0 0) := Blk.at 1 rfl
 have Bp : w4.cell? ⟨w.heap.size + 1, 2, none⟩ = some (.slice none 0 0) := Blk.at 2 rfl
 exact bodyPost_ret (v := .tuple #[.agg #[.bool false, .slice none 0 0, .slice none 0 0], .int .i64 1]) (by simp [results, Tryz.results11, go_sem, Bn, Bo, Bp]) rfl ⟨_, rfl, (PV.zero _), hs⟩
theorem al_Quantile_ok {v vu : Value} {L : List Rat} {u : Rat} (w : World) (hl : Rows 3 34 PC w v L) (hu : PV w vu u) (su : SzQ 1 u) (g1 : 1 ≤ L.length) (g20 : L.length ≤ 64) (hc : 0 ≤ u ∧ u ≤ 1) (hz : ∀ i, i < L.length → SzQ 1 (nthQ L i)) {q : Rat} (hq : qtQ L u = q) : Calls Tryz.prog 11 #[v, vu] w (RetPE w q 0) := by
 obtain ⟨aL, kL, rfl, hl1, hl2, -⟩ := hl.toI.slice
 have HL := Lib.hid hl
 clear hl
 obtain ⟨C6, C0, C4, C2, Bt, By, Bv, rfl⟩ := hu.shape
 obtain ⟨S, hS⟩ : ∃ S, srtQ L = S := ⟨_, rfl⟩
 have lS1 : S.length ≤ L.length := by rw [← hS, srtQ_len]; exact Nat.le_refl _
 have lS2 : L.length ≤ S.length := by rw [← hS, srtQ_len]; exact Nat.le_refl _
 have HSZ := Lib.hid (show ∀ i, i < S.length → SzQ 1 (nthQ S i) from fun i hi => hS ▸ srt_sz hz (hS.symm ▸ hi))
 have HZL := Lib.hid (show ∀ i, i < L.length → SzQ 100000 (nthQ L i) from fun i hi => (hz i hi).mono (by omega))
 have HS := Lib.hid hS
 obtain ⟨n, hn⟩ : ∃ n : Rat, ((L.length : Int) : Rat) = n := ⟨_, rfl⟩
 have sn : SzQ 1 n := hn ▸ szQ_int (by omega)
 obtain ⟨N, hN⟩ : ∃ N, L.length = N + 1 := ⟨L.length - 1, by omega⟩
 have lN1 : L.length ≤ N + 1 := Nat.le_of_eq hN
 have lN2 : N + 1 ≤ L.length := Nat.le_of_eq hN.symm
 have hq2 : qtD S (u * n) N = q := by rw [← hq, ← hS, ← hn]; unfold qtQ; rw [show L.length - 1 = N by omega]
 have HN := Lib.hid hn
 have HQ := Lib.hid hq2
 have HC := Lib.hid hc
 clear hS hz hn hN hq2 hq hc
 have hs := Below.refl w.heap.size w
 go_enter Tryz.func11, Tryz.ntmps11
 go_wp2_with fail
 refine Calls.abs ?_
 intro w1 hW
 have hG : Gr [] w w1 := by rw [hW]; exact (Gr.refl _ _).alloc.alloc
 have Bh : Below w.heap.size w w1 := hG.below0 hs.size
 have hk : KeepD w w1 := hG.keep True.intro
 have Dl : w.heap.size ≤ w.heap.size := hs.size
 have B0 : Bx w1 (w.heap.size) 34 #[.bool C6, .slice C0 C4 C2, .slice Bt By Bv] := by rw [hW]; exact ((Bx.new0 _ _ _).alloc _)
 have Blk : Bx w1 (w.heap.size + 1) 34 #[.bool false, .slice none 0 0, .slice none 0 0] := by rw [hW]; exact (Bx.new0 _ _ _)
 replace hs := hs.trans Bh
 replace hu := hu.keep hk
 clear hW hG hk Bh
 have Dk : w.heap.size + 1 < w1.heap.size := Blk.lt
 with_reducible refine (al_cvL_all (e := 0) _ (HL.out.mono PC.kept hs) (if_neg (by omega))).mono ?_
 rintro e w2 ⟨rfl, hb⟩
 replace hs := bStep hs hb
 replace B0 := B0.mono hb
 replace Blk := Blk.mono hb
 replace hu := hu.mono hb
 clear hb
 have B2 : w2.cell? ⟨w.heap.size, 0, none⟩ = some (.bool C6) := B0.at 0 rfl
 have B3 : w2.cell? ⟨w.heap.size, 1, none⟩ = some (.slice C0 C4 C2) := B0.at 1 rfl
 have B4 : w2.cell? ⟨w.heap.size, 2, none⟩ = some (.slice Bt By Bv) := B0.at 2 rfl
 have Cl : w.heap.size < w2.heap.size := B0.lt
 go_wp2_with fail
 clear B2 B3 B4 Cl
 with_reducible refine (al_isChance _ _ _ hu (SzQ.mid su) rfl).mono ?_
 rintro e w3 ⟨rfl, hb⟩
 replace hs := bStep hs hb
 replace B0 := B0.mono hb
 replace Blk := Blk.mono hb
 replace hu := hu.mono hb
 clear hb
 obtain ⟨b1, Ca⟩ : ∃ b : Bool, b = decide (0 ≤ u ∧ u ≤ 1) := ⟨_, rfl⟩
 rw [← Ca]
 replace Ca := Lib.hid Ca
 have q2 : 0 ≤ u ∧ u ≤ 1 := HC.out
 obtain rfl : b1 = true := by rw [Ca.out]; exact decide_eq_true q2
 have q2H := Lib.hid q2
 clear q2
 go_upto_region 6 with fail
 go_cut [7] (fun kv0 wz => ∃ Bj C5 Bz C3 C1 Bs Bw Bu, kv0 = .pointer (some ⟨Bj, 0, none⟩) ∧ w.heap.size ≤ Bj ∧ Bj ≠ w.heap.size ∧ Bj ≠ (w.heap.size + 1) ∧ Bx wz Bj 34 #[.bool C5, .slice Bz C3 C1, .slice Bs Bw Bu] ∧ Below w.heap.size w wz ∧ Bx wz (w.heap.size) 34 #[.bool C6, .slice C0 C4 C2, .slice Bt By Bv] ∧ Bx wz (w.heap.size + 1) 34 #[.bool false, .slice none 0 0, .slice none 0 0] ∧ PV wz (.agg #[.bool C6, .slice C0 C4 C2, .slice Bt By Bv]) (u) ∧ PV wz (.agg #[.bool C5, .slice Bz C3 C1, .slice Bs Bw Bu]) (u * n))
 case first =>
  refine U_region (S := fun w' => w'.cell? ⟨w.heap.size, 0, none⟩ = some (.bool C6) ∧ w'.cell? ⟨w.heap.size, 1, none⟩ = some (.slice C0 C4 C2) ∧ w'.cell? ⟨w.heap.size, 2, none⟩ = some (.slice Bt By Bv)) (by kernel_rfl) 6 ?_
  refine AnyU.abs ?_
  intro w4 hW
  have hb : Below w3.heap.size w3 w4 := by rw [hW]; exact bDrew _
  replace hs := bStep hs hb
  replace B0 := B0.mono hb
  replace Blk := Blk.mono hb
  replace hu := hu.mono hb
  clear hb hW
  have B2 : w4.cell? ⟨w.heap.size, 0, none⟩ = some (.bool C6) := B0.at 0 rfl
  have B3 : w4.cell? ⟨w.heap.size, 1, none⟩ = some (.slice C0 C4 C2) := B0.at 1 rfl
  have B4 : w4.cell? ⟨w.heap.size, 2, none⟩ = some (.slice Bt By Bv) := B0.at 2 rfl
  have hH := (show w4.cell? ⟨w.heap.size, 0, none⟩ = some (.bool C6) ∧ w4.cell? ⟨w.heap.size, 1, none⟩ = some (.slice C0 C4 C2) ∧ w4.cell? ⟨w.heap.size, 2, none⟩ = some (.slice Bt By Bv) from ⟨B2, B3, B4⟩)
  refine U_tt 0 ?_ ?_ hH ?_
  rotate_left
  ·(intro w B5; (try dsimp only at B5); go_simp; try with_reducible rfl)
  try simp only [LY]
  refine U_tt 1 ?_ ?_ hH ?_
  rotate_left
  ·(intro w B5; (try dsimp only at B5); go_simp; try with_reducible rfl)
  try simp only [LY]
  refine U_tt 2 ?_ ?_ hH ?_
  rotate_left
  ·(intro w B5; (try dsimp only at B5); go_simp; try with_reducible rfl)
  try simp only [LY]
  refine U_two (i := 3) (j := 5) (by kernel_rfl) rfl rfl (fun K hK => ?_) (fun K hK => ?_)
  ·clear hH
   go_simp
   (with_reducible refine (al_wholeN HN.out _ (by omega)).mono ?_)
   rintro e w5 ⟨_, rfl, h3, hb⟩
   obtain ⟨sh3, ah3, nh3, ch3, Ah3, Nh3, Ch3, rfl⟩ := h3.shape
   replace hs := bStep hs hb
   replace B0 := B0.mono hb
   replace Blk := Blk.mono hb
   replace hu := hu.mono hb
   replace B2 := cellK B2 hb
   replace B3 := cellK B3 hb
   replace B4 := cellK B4 hb
   clear hb
   try go_wp2_with fail
   refine hK.out _ _ ⟨B2, B3, B4⟩ (fun hH => ?_)
   clear hK K
   try simp only [LY]
   refine U_two (i := 4) (j := 5) (by kernel_rfl) rfl rfl (fun K hK => ?_) (fun K hK => ?_)
   ·clear hH
    go_simp
    (with_reducible refine (pMul hu h3 (SzQ.fit su) (SzQ.fit sn)).mono ?_)
    rintro e w6 ⟨_, rfl, h4, hb⟩
    obtain ⟨C5, Bz, C3, C1, Bs, Bw, Bu, rfl⟩ := h4.shape
    replace hs := bStep hs hb
    replace B0 := B0.mono hb
    replace Blk := Blk.mono hb
    replace hu := hu.mono hb
    replace h3 := h3.mono hb
    replace B2 := cellK B2 hb
    replace B3 := cellK B3 hb
    replace B4 := cellK B4 hb
    clear hb
    try go_wp2_with fail
    refine hK.out _ _ ⟨B2, B3, B4⟩ (fun hH => ?_)
    clear hK K
    try simp only [LY]
    clear hH
    refine U_one (i := 5) (by kernel_rfl) rfl (fun K hK => ?_)
    go_simp
    generalize hWn : (w6.alloc (.cells #[.bool false, .slice none 0 0, .slice none 0 0] 34)) = w7
    have hb : Below w6.heap.size w6 w7 := by rw [← hWn]; exact (Below.refl _ _).alloc (Nat.le_refl _) _
    have B1 : Bx w7 (w6.heap.size) 34 #[.bool false, .slice none 0 0, .slice none 0 0] := by rw [← hWn]; exact Bx.new _ _ _
    have C9 : w.heap.size ≠ w6.heap.size := by have := B0.lt; omega
    have Cp : w.heap.size + 1 ≠ w6.heap.size := by have := Blk.lt; omega
    have C8 : w.heap.size ≤ w6.heap.size := hs.size
    replace hs := bStep hs hb
    replace B0 := B0.mono hb
    replace Blk := Blk.mono hb
    replace hu := hu.mono hb
    replace h3 := h3.mono hb
    replace h4 := h4.mono hb
    replace B2 := cellK B2 hb
    replace B3 := cellK B3 hb
    replace B4 := cellK B4 hb
    clear hb hWn
    refine hK.out _ _ ⟨B2, B3, B4⟩ (fun hH => ?_)
    clear hK K
    try simp only [LY]
    clear hH
    have B9 : w7.cell? ⟨w6.heap.size, 0, none⟩ = some (.bool false) := B1.at 0 rfl
    have Ba : w7.cell? ⟨w6.heap.size, 1, none⟩ = some (.slice none 0 0) := B1.at 1 rfl
    have Bb : w7.cell? ⟨w6.heap.size, 2, none⟩ = some (.slice none 0 0) := B1.at 2 rfl
    have Dj := B1.free
    have Di : w6.heap.size < w7.heap.size := B1.lt
    refine U_last (by kernel_rfl) rfl (by kernel_rfl) (fun K hK => ?_)
    go_simp
    refine hK.out _ _ ?_
    clear hK K
    intro w8 hW
    have hG : Gr [w6.heap.size] w7 w8 := by rw [hW]; exact (Gr.refl _ _).set.set.set
    have C7 := hs.size
    have Cc := B1.lt
    have Bh : Below w.heap.size w7 w8 := hG.below1 hs.size (by first | omega | assumption)
    have hk : KeepD w7 w8 := hG.keep ⟨⟨_, B1.ty, by decide⟩, True.intro⟩
    have Bq : Bx w8 (w6.heap.size) 34 #[.bool C5, .slice Bz C3 C1, .slice Bs Bw Bu] := by rw [hW]; exact B1.set3
    replace hs := hs.trans Bh
    replace B0 := hG.bx B0 (notMem1 (by omega))
    replace Blk := hG.bx Blk (notMem1 (by omega))
    replace B1 := Bq
    clear Bq
    replace hu := hu.keep hk
    replace h3 := h3.keep hk
    replace h4 := h4.keep hk
    clear hW hG hk Bh C7 Cc
    try simp only [LY]
    clear B2 B3 B4
    go_wp2_with fail
    go_meet
    exact ⟨w6.heap.size, _, _, _, _, _, _, _, rfl, (by first | exact C8 | omega), (by omega), (by omega), B1, hs, B0, Blk, hu, h4⟩
   ·clear hH
    go_simp
    generalize hWn : (w5.alloc (.cells #[.bool false, .slice none 0 0, .slice none 0 0] 34)) = w6
    have hb : Below w5.heap.size w5 w6 := by rw [← hWn]; exact (Below.refl _ _).alloc (Nat.le_refl _) _
    have B1 : Bx w6 (w5.heap.size) 34 #[.bool false, .slice none 0 0, .slice none 0 0] := by rw [← hWn]; exact Bx.new _ _ _
    have C9 : w.heap.size ≠ w5.heap.size := by have := B0.lt; omega
    have Cp : w.heap.size + 1 ≠ w5.heap.size := by have := Blk.lt; omega
    have C8 : w.heap.size ≤ w5.heap.size := hs.size
    replace hs := bStep hs hb
    replace B0 := B0.mono hb
    replace Blk := Blk.mono hb
    replace hu := hu.mono hb
    replace h3 := h3.mono hb
    replace B2 := cellK B2 hb
    replace B3 := cellK B3 hb
    replace B4 := cellK B4 hb
    clear hb hWn
    refine hK.out _ _ ⟨B2, B3, B4⟩ (fun hH => ?_)
    clear hK K
    try simp only [LY]
    clear hH
    refine U_one (i := 4) (by kernel_rfl) rfl (fun K hK => ?_)
    go_simp
    (with_reducible refine (pMul hu h3 (SzQ.fit su) (SzQ.fit sn)).mono ?_)
    rintro e w7 ⟨_, rfl, h4, hb⟩
    obtain ⟨C5, Bz, C3, C1, Bs, Bw, Bu, rfl⟩ := h4.shape
    replace hs := bStep hs hb
    replace B0 := B0.mono hb
    replace Blk := Blk.mono hb
    replace B1 := B1.mono hb
    replace hu := hu.mono hb
    replace h3 := h3.mono hb
    replace B2 := cellK B2 hb
    replace B3 := cellK B3 hb
    replace B4 := cellK B4 hb
    clear hb
    try go_wp2_with fail
    refine hK.out _ _ ⟨B2, B3, B4⟩ (fun hH => ?_)
    clear hK K
    try simp only [LY]
    clear hH
    have B9 : w7.cell? ⟨w5.heap.size, 0, none⟩ = some (.bool false) := B1.at 0 rfl
    have Ba : w7.cell? ⟨w5.heap.size, 1, none⟩ = some (.slice none 0 0) := B1.at 1 rfl
    have Bb : w7.cell? ⟨w5.heap.size, 2, none⟩ = some (.slice none 0 0) := B1.at 2 rfl
    have Dj := B1.free
    have Di : w5.heap.size < w7.heap.size := B1.lt
    refine U_last (by kernel_rfl) rfl (by kernel_rfl) (fun K hK => ?_)
    go_simp
    refine hK.out _ _ ?_
    clear hK K
    intro w8 hW
    have hG : Gr [w5.heap.size] w7 w8 := by rw [hW]; exact (Gr.refl _ _).set.set.set
    have C7 := hs.size
    have Cc := B1.lt
    have Bh : Below w.heap.size w7 w8 := hG.below1 hs.size (by first | omega | assumption)
    have hk : KeepD w7 w8 := hG.keep ⟨⟨_, B1.ty, by decide⟩, True.intro⟩
    have Bq : Bx w8 (w5.heap.size) 34 #[.bool C5, .slice Bz C3 C1, .slice Bs Bw Bu] := by rw [hW]; exact B1.set3
    replace hs := hs.trans Bh
    replace B0 := hG.bx B0 (notMem1 (by omega))
    replace Blk := hG.bx Blk (notMem1 (by omega))
    replace B1 := Bq
    clear Bq
    replace hu := hu.keep hk
    replace h3 := h3.keep hk
    replace h4 := h4.keep hk
    clear hW hG hk Bh C7 Cc
    try simp only [LY]
    clear B2 B3 B4
    go_wp2_with fail
    go_meet
    exact ⟨w5.heap.size, _, _, _, _, _, _, _, rfl, (by first | exact C8 | omega), (by omega), (by omega), B1, hs, B0, Blk, hu, h4⟩
  ·clear hH
   go_simp
   generalize hWn : (w4.alloc (.cells #[.bool false, .slice none 0 0, .slice none 0 0] 34)) = w5
   have hb : Below w4.heap.size w4 w5 := by rw [← hWn]; exact (Below.refl _ _).alloc (Nat.le_refl _) _
   have B1 : Bx w5 (w4.heap.size) 34 #[.bool false, .slice none 0 0, .slice none 0 0] := by rw [← hWn]; exact Bx.new _ _ _
   have C9 : w.heap.size ≠ w4.heap.size := by have := B0.lt; omega
   have Cp : w.heap.size + 1 ≠ w4.heap.size := by have := Blk.lt; omega
   have C8 : w.heap.size ≤ w4.heap.size := hs.size
   replace hs := bStep hs hb
   replace B0 := B0.mono hb
   replace Blk := Blk.mono hb
   replace hu := hu.mono hb
   replace B2 := cellK B2 hb
   replace B3 := cellK B3 hb
   replace B4 := cellK B4 hb
   clear hb hWn
   refine hK.out _ _ ⟨B2, B3, B4⟩ (fun hH => ?_)
   clear hK K
   try simp only [LY]
   clear hH
   refine U_one (i := 3) (by kernel_rfl) rfl (fun K hK => ?_)
   go_simp
   (with_reducible refine (al_wholeN HN.out _ (by omega)).mono ?_)
   rintro e w6 ⟨_, rfl, h3, hb⟩
   obtain ⟨sh3, ah3, nh3, ch3, Ah3, Nh3, Ch3, rfl⟩ := h3.shape
   replace hs := bStep hs hb
   replace B0 := B0.mono hb
   replace Blk := Blk.mono hb
   replace B1 := B1.mono hb
   replace hu := hu.mono hb
   replace B2 := cellK B2 hb
   replace B3 := cellK B3 hb
   replace B4 := cellK B4 hb
   clear hb
   try go_wp2_with fail
   refine hK.out _ _ ⟨B2, B3, B4⟩ (fun hH => ?_)
   clear hK K
   try simp only [LY]
   clear hH
   refine U_one (i := 4) (by kernel_rfl) rfl (fun K hK => ?_)
   go_simp
   (with_reducible refine (pMul hu h3 (SzQ.fit su) (SzQ.fit sn)).mono ?_)
   rintro e w7 ⟨_, rfl, h4, hb⟩
   obtain ⟨C5, Bz, C3, C1, Bs, Bw, Bu, rfl⟩ := h4.shape
   replace hs := bStep hs hb
   replace B0 := B0.mono hb
   replace Blk := Blk.mono hb
   replace B1 := B1.mono hb
   replace hu := hu.mono hb
   replace h3 := h3.mono hb
   replace B2 := cellK B2 hb
   replace B3 := cellK B3 hb
   replace B4 := cellK B4 hb
   clear hb
   try go_wp2_with fail
   refine hK.out _ _ ⟨B2, B3, B4⟩ (fun hH => ?_)
   clear hK K
   try simp only [LY]
   clear hH
   have B9 : w7.cell? ⟨w4.heap.size, 0, none⟩ = some (.bool false) := B1.at 0 rfl
   have Ba : w7.cell? ⟨w4.heap.size, 1, none⟩ = some (.slice none 0 0) := B1.at 1 rfl
   have Bb : w7.cell? ⟨w4.heap.size, 2, none⟩ = some (.slice none 0 0) := B1.at 2 rfl
   have Dj := B1.free
   have Di : w4.heap.size < w7.heap.size := B1.lt
   refine U_last (by kernel_rfl) rfl (by kernel_rfl) (fun K hK => ?_)
   go_simp
   refine hK.out _ _ ?_
   clear hK K
   intro w8 hW
   have hG : Gr [w4.heap.size] w7 w8 := by rw [hW]; exact (Gr.refl _ _).set.set.set
   have C7 := hs.size
   have Cc := B1.lt
   have Bh : Below w.heap.size w7 w8 := hG.below1 hs.size (by first | omega | assumption)
   have hk : KeepD w7 w8 := hG.keep ⟨⟨_, B1.ty, by decide⟩, True.intro⟩
   have Bq : Bx w8 (w4.heap.size) 34 #[.bool C5, .slice Bz C3 C1, .slice Bs Bw Bu] := by rw [hW]; exact B1.set3
   replace hs := hs.trans Bh
   replace B0 := hG.bx B0 (notMem1 (by omega))
   replace Blk := hG.bx Blk (notMem1 (by omega))
   replace B1 := Bq
   clear Bq
   replace hu := hu.keep hk
   replace h3 := h3.keep hk
   replace h4 := h4.keep hk
   clear hW hG hk Bh C7 Cc
   try simp only [LY]
   clear B2 B3 B4
   go_wp2_with fail
   go_meet
   exact ⟨w4.heap.size, _, _, _, _, _, _, _, rfl, (by first | exact C8 | omega), (by omega), (by omega), B1, hs, B0, Blk, hu, h4⟩
 case rest =>
  clear hs B0 Blk hu
  obtain ⟨Bj, C5, Bz, C3, C1, Bs, Bw, Bu, rfl, Du, Dm, Dt, B1, hs, B0, Blk, hu, h4⟩ := hcut
  go_wp2_with fail
  with_reducible refine (al_sorted _ (HL.out.mono PC.kept hs) g1 (by omega) HZL.out).mono ?_
  rintro e w4 ⟨_, rfl, Bl, hb⟩
  rw [HS.out] at Bl
  obtain ⟨Bc, Bd, khS5, rfl, hS51, hS52, -⟩ := Bl.open_ (by omega)
  replace hs := bStep hs hb
  replace B0 := B0.mono hb
  replace Blk := Blk.mono hb
  replace B1 := B1.mono hb
  replace hu := hu.mono hb
  replace h4 := h4.mono hb
  clear hb
  go_wp2
  go_loopw [9] (fun s9 wq => ∃ k : Nat, k ≤ N ∧ s9 = .int .i64 k ∧ Below w.heap.size w wq ∧ Bx wq (w.heap.size) 34 #[.bool C6, .slice C0 C4 C2, .slice Bt By Bv] ∧ Bx wq (w.heap.size + 1) 34 #[.bool false, .slice none 0 0, .slice none 0 0] ∧ Bx wq (Bj) 34 #[.bool C5, .slice Bz C3 C1, .slice Bs Bw Bu] ∧ PV wq (.agg #[.bool C6, .slice C0 C4 C2, .slice Bt By Bv]) (u) ∧ PV wq (.agg #[.bool C5, .slice Bz C3 C1, .slice Bs Bw Bu]) (u * n) ∧ Rows 3 34 PC wq (.slice (some ⟨Bc, Bd, none⟩) S.length khS5) S ∧ (qtD S (u * n) N = qtD S (u * n) k)) (fun s9 _ => (intOf s9).toNat)
  case atStart => exact ⟨N, Nat.le_refl _, (congrArg _ (by omega)), hs, B0, Blk, B1, hu, h4, Bl, rfl⟩
  case round =>
   clear B0 Blk B1 hu h4 Bl hs
   obtain ⟨k, k_le, rfl, hs, B0, Blk, B1, hu, h4, Bl, HI⟩ := hrel
   replace HI := Lib.hid HI
   by_cases q6 : 0 < k
   ·have q6d : ((0 : Int) < (k : Int)) = True := eq_true (by omega)
    go_upto_region 11 with fail
    have SW7a := IntWalk.i64_in ((k : Int) - 1) (by omega)
    have SW7b : (0 : Int) ≤ (k : Int) - 1 := by omega
    have SW7c : ((k : Int) - 1).toNat = (k - 1) := by omega
    have SW7d : (k : Int) - 1 < (S.length : Int) := by omega
    have SW7e : (1 : Int) ≤ (k : Int) := by omega
    have SW7f : (k : Int) < (S.length : Int) + 1 := by omega
    have BI8a : (k - 1) < S.length := by omega
    have BI8b : ((k : Int) - 1 : Int) < (S.length : Int) := by omega
    obtain ⟨D1, Cx, D4, Cz, Cr, Cv, Ct, Be, Bf, Bg, Bm, le9⟩ := rowP_at Bl (show (k - 1) < S.length by omega)
    have BI10a : k < S.length := by omega
    have BI10b : ((k : Int) : Int) < (S.length : Int) := by omega
    obtain ⟨Cj, Ch, Ck, Ci, Ce, Cg, Cf, B6, B7, B8, Bk, le11⟩ := rowP_at Bl (show k < S.length by omega)
    obtain ⟨b12, Cd⟩ : ∃ b : Bool, b = decide (nthQ S (k - 1) = nthQ S k) := ⟨_, rfl⟩
    replace Cd := Lib.hid Cd
    by_cases q13 : nthQ S (k - 1) = nthQ S k
    ·obtain rfl : b12 = true := by rw [Cd.out]; exact decide_eq_true q13
     have De := Lib.hid q13
     clear q13
     refine U_region (S := fun w' => w'.cell? ⟨Bc, Bd + (k - 1) * 3, none⟩ = some (.bool D1) ∧ w'.cell? ⟨Bc, Bd + (k - 1) * 3 + 1, none⟩ = some (.slice Cx D4 Cz) ∧ w'.cell? ⟨Bc, Bd + (k - 1) * 3 + 2, none⟩ = some (.slice Cr Cv Ct) ∧ w'.cell? ⟨Bc, Bd + k * 3, none⟩ = some (.bool Cj) ∧ w'.cell? ⟨Bc, Bd + k * 3 + 1, none⟩ = some (.slice Ch Ck Ci) ∧ w'.cell? ⟨Bc, Bd + k * 3 + 2, none⟩ = some (.slice Ce Cg Cf)) (by kernel_rfl) 21 ?_
     refine AnyU.abs ?_
     intro Bi hW
     have hb : Below wr.heap.size wr Bi := by rw [hW]; exact bDrew _
     replace hs := bStep hs hb
     replace B0 := B0.mono hb
     replace Blk := Blk.mono hb
     replace B1 := B1.mono hb
     replace hu := hu.mono hb
     replace h4 := h4.mono hb
     replace Bm := Bm.mono hb
     replace Bk := Bk.mono hb
     replace Bl := rowsJ PC.kept _ _ _ Bl hb
     replace Be := cellK Be hb
     replace Bf := cellK Bf hb
     replace Bg := cellK Bg hb
     replace B6 := cellK B6 hb
     replace B7 := cellK B7 hb
     replace B8 := cellK B8 hb
     clear hb hW
     have hH := (show Bi.cell? ⟨Bc, Bd + (k - 1) * 3, none⟩ = some (.bool D1) ∧ Bi.cell? ⟨Bc, Bd + (k - 1) * 3 + 1, none⟩ = some (.slice Cx D4 Cz) ∧ Bi.cell? ⟨Bc, Bd + (k - 1) * 3 + 2, none⟩ = some (.slice Cr Cv Ct) ∧ Bi.cell? ⟨Bc, Bd + k * 3, none⟩ = some (.bool Cj) ∧ Bi.cell? ⟨Bc, Bd + k * 3 + 1, none⟩ = some (.slice Ch Ck Ci) ∧ Bi.cell? ⟨Bc, Bd + k * 3 + 2, none⟩ = some (.slice Ce Cg Cf) from ⟨Be, Bf, Bg, B6, B7, B8⟩)
     refine U_tk 0 34 ?_ ?_ hH ?_
     rotate_left
     ·(intro w B5; (try dsimp only at B5); go_simp; try with_reducible rfl)
     simp only [LY]
     refine U_tk 1 35 ?_ ?_ hH ?_
     rotate_left
     ·(intro w B5; (try dsimp only at B5); go_simp; try with_reducible rfl)
     simp only [LY]
     refine U_tk 2 36 ?_ ?_ hH ?_
     rotate_left
     ·(intro w B5; (try dsimp only at B5); go_simp; try with_reducible rfl)
     simp only [LY]
     refine U_tk 3 37 ?_ ?_ hH ?_
     rotate_left
     ·(intro w B5; (try dsimp only at B5); go_simp; try with_reducible rfl)
     simp only [LY]
     refine U_tk 4 38 ?_ ?_ hH ?_
     rotate_left
     ·(intro w B5; (try dsimp only at B5); go_simp; try with_reducible rfl)
     simp only [LY]
     refine U_tk 5 39 ?_ ?_ hH ?_
     rotate_left
     ·(intro w B5; (try dsimp only at B5); go_simp; try with_reducible rfl)
     simp only [LY]
     refine U_tk 6 40 ?_ ?_ hH ?_
     rotate_left
     ·(intro w B5; (try dsimp only at B5); go_simp; try with_reducible rfl)
     simp only [LY]
     refine U_tk 7 41 ?_ ?_ hH ?_
     rotate_left
     ·(intro w B5; (try dsimp only at B5); go_simp; try with_reducible rfl)
     simp only [LY]
     refine U_tk 8 42 ?_ ?_ hH ?_
     rotate_left
     ·(intro w B5; (try dsimp only at B5); go_simp; try with_reducible rfl)
     simp only [LY]
     clear hH
     refine U_one (i := 9) (by kernel_rfl) rfl (fun K hK => ?_)
     go_simp
     (with_reducible refine (p_Same_calls _ _ _ _ _ Bm Bk).mono ?_)
     rintro e w26 ⟨rfl, hb⟩
     replace hs := bStep hs hb
     replace B0 := B0.mono hb
     replace Blk := Blk.mono hb
     replace B1 := B1.mono hb
     replace hu := hu.mono hb
     replace h4 := h4.mono hb
     replace Bm := Bm.mono hb
     replace Bk := Bk.mono hb
     replace Bl := rowsJ PC.kept _ _ _ Bl hb
     replace Be := cellK Be hb
     replace Bf := cellK Bf hb
     replace Bg := cellK Bg hb
     replace B6 := cellK B6 hb
     replace B7 := cellK B7 hb
     replace B8 := cellK B8 hb
     clear hb
     rw [← Cd.out]
     try go_wp2_with fail
     refine hK.out _ _ ⟨Be, Bf, Bg, B6, B7, B8⟩ (fun hH => ?_)
     clear hK K
     try simp only [LY]
     refine U_tk 10 44 ?_ ?_ hH ?_
     rotate_left
     ·(intro w B5; (try dsimp only at B5); go_simp; try with_reducible rfl)
     simp only [LY]
     refine U_tk 11 45 ?_ ?_ hH ?_
     rotate_left
     ·(intro w B5; (try dsimp only at B5); go_simp; try with_reducible rfl)
     simp only [LY]
     refine U_tu 12 46 hH ?_
     simp only [LY]
     refine U_tu 13 47 hH ?_
     simp only [LY]
     refine U_tu 14 48 hH ?_
     simp only [LY]
     refine U_tu 15 49 hH ?_
     simp only [LY]
     refine U_tu 17 51 hH ?_
     simp only [LY]
     clear hH
     refine U_one (i := 16) (by kernel_rfl) rfl (fun K hK => ?_)
     go_simp
     refine hK.out _ _ ⟨Be, Bf, Bg, B6, B7, B8⟩ (fun hH => ?_)
     clear hK K
     try simp only [LY]
     clear hH
     refine U_one (i := 18) (by kernel_rfl) rfl (fun K hK => ?_)
     go_simp
     refine hK.out _ _ ⟨Be, Bf, Bg, B6, B7, B8⟩ (fun hH => ?_)
     clear hK K
     try simp only [LY]
     refine U_tu 19 53 hH ?_
     simp only [LY]
     refine U_tk 20 54 ?_ ?_ hH ?_
     rotate_left
     ·(intro w B5; (try dsimp only at B5); go_simp; try with_reducible rfl)
     simp only [LY]
     clear hH
     refine U_endN (by kernel_rfl) ?_
     clear Be Bf Bg B6 B7 B8
     go_wp2
     go_roundw
     case rel => exact ⟨k - 1, by omega, congrArg _ (by omega), hs, B0, Blk, B1, hu, h4, Bl, (HI.out.trans (qtD_same (by omega) De.out))⟩
     all_goals first | (simp [intOf]; done) | (simp [intOf]; omega)
    ·obtain rfl : b12 = false := by rw [Cd.out]; exact decide_eq_false q13
     have De := Lib.hid q13
     clear q13
     obtain ⟨D5, Cb⟩ : ∃ s : Int, s = sgQ (((((S.length : Int) - (k : Int) : Int) : Rat)) - (u * n)) := ⟨_, rfl⟩
     replace Cb := Lib.hid Cb
     refine U_region (S := fun w' => w'.cell? ⟨Bj, 0, none⟩ = some (.bool C5) ∧ w'.cell? ⟨Bj, 1, none⟩ = some (.slice Bz C3 C1) ∧ w'.cell? ⟨Bj, 2, none⟩ = some (.slice Bs Bw Bu) ∧ w'.cell? ⟨Bc, Bd + (k - 1) * 3, none⟩ = some (.bool D1) ∧ w'.cell? ⟨Bc, Bd + (k - 1) * 3 + 1, none⟩ = some (.slice Cx D4 Cz) ∧ w'.cell? ⟨Bc, Bd + (k - 1) * 3 + 2, none⟩ = some (.slice Cr Cv Ct) ∧ w'.cell? ⟨Bc, Bd + k * 3, none⟩ = some (.bool Cj) ∧ w'.cell? ⟨Bc, Bd + k * 3 + 1, none⟩ = some (.slice Ch Ck Ci) ∧ w'.cell? ⟨Bc, Bd + k * 3 + 2, none⟩ = some (.slice Ce Cg Cf)) (by kernel_rfl) 21 ?_
     refine AnyU.abs ?_
     intro Bi hW
     have hb : Below wr.heap.size wr Bi := by rw [hW]; exact bDrew _
     replace hs := bStep hs hb
     replace B0 := B0.mono hb
     replace Blk := Blk.mono hb
     replace B1 := B1.mono hb
     replace hu := hu.mono hb
     replace h4 := h4.mono hb
     replace Bm := Bm.mono hb
     replace Bk := Bk.mono hb
     replace Bl := rowsJ PC.kept _ _ _ Bl hb
     replace Be := cellK Be hb
     replace Bf := cellK Bf hb
     replace Bg := cellK Bg hb
     replace B6 := cellK B6 hb
     replace B7 := cellK B7 hb
     replace B8 := cellK B8 hb
     clear hb hW
     have B9 : Bi.cell? ⟨Bj, 0, none⟩ = some (.bool C5) := B1.at 0 rfl
     have Ba : Bi.cell? ⟨Bj, 1, none⟩ = some (.slice Bz C3 C1) := B1.at 1 rfl
     have Bb : Bi.cell? ⟨Bj, 2, none⟩ = some (.slice Bs Bw Bu) := B1.at 2 rfl
     have hH := (show Bi.cell? ⟨Bj, 0, none⟩ = some (.bool C5) ∧ Bi.cell? ⟨Bj, 1, none⟩ = some (.slice Bz C3 C1) ∧ Bi.cell? ⟨Bj, 2, none⟩ = some (.slice Bs Bw Bu) ∧ Bi.cell? ⟨Bc, Bd + (k - 1) * 3, none⟩ = some (.bool D1) ∧ Bi.cell? ⟨Bc, Bd + (k - 1) * 3 + 1, none⟩ = some (.slice Cx D4 Cz) ∧ Bi.cell? ⟨Bc, Bd + (k - 1) * 3 + 2, none⟩ = some (.slice Cr Cv Ct) ∧ Bi.cell? ⟨Bc, Bd + k * 3, none⟩ = some (.bool Cj) ∧ Bi.cell? ⟨Bc, Bd + k * 3 + 1, none⟩ = some (.slice Ch Ck Ci) ∧ Bi.cell? ⟨Bc, Bd + k * 3 + 2, none⟩ = some (.slice Ce Cg Cf) from ⟨B9, Ba, Bb, Be, Bf, Bg, B6, B7, B8⟩)
     refine U_tk 0 34 ?_ ?_ hH ?_
     rotate_left
     ·(intro w B5; (try dsimp only at B5); go_simp; try with_reducible rfl)
     simp only [LY]
     refine U_tk 1 35 ?_ ?_ hH ?_
     rotate_left
     ·(intro w B5; (try dsimp only at B5); go_simp; try with_reducible rfl)
     simp only [LY]
     refine U_tk 2 36 ?_ ?_ hH ?_
     rotate_left
     ·(intro w B5; (try dsimp only at B5); go_simp; try with_reducible rfl)
     simp only [LY]
     refine U_tk 3 37 ?_ ?_ hH ?_
     rotate_left
     ·(intro w B5; (try dsimp only at B5); go_simp; try with_reducible rfl)
     simp only [LY]
     refine U_tk 4 38 ?_ ?_ hH ?_
     rotate_left
     ·(intro w B5; (try dsimp only at B5); go_simp; try with_reducible rfl)
     simp only [LY]
     refine U_tk 5 39 ?_ ?_ hH ?_
     rotate_left
     ·(intro w B5; (try dsimp only at B5); go_simp; try with_reducible rfl)
     simp only [LY]
     refine U_tk 6 40 ?_ ?_ hH ?_
     rotate_left
     ·(intro w B5; (try dsimp only at B5); go_simp; try with_reducible rfl)
     simp only [LY]
     refine U_tk 7 41 ?_ ?_ hH ?_
     rotate_left
     ·(intro w B5; (try dsimp only at B5); go_simp; try with_reducible rfl)
     simp only [LY]
     refine U_tk 8 42 ?_ ?_ hH ?_
     rotate_left
     ·(intro w B5; (try dsimp only at B5); go_simp; try with_reducible rfl)
     simp only [LY]
     clear hH
     refine U_one (i := 9) (by kernel_rfl) rfl (fun K hK => ?_)
     go_simp
     (with_reducible refine (p_Same_calls _ _ _ _ _ Bm Bk).mono ?_)
     rintro e w26 ⟨rfl, hb⟩
     replace hs := bStep hs hb
     replace B0 := B0.mono hb
     replace Blk := Blk.mono hb
     replace B1 := B1.mono hb
     replace hu := hu.mono hb
     replace h4 := h4.mono hb
     replace Bm := Bm.mono hb
     replace Bk := Bk.mono hb
     replace Bl := rowsJ PC.kept _ _ _ Bl hb
     replace B9 := cellK B9 hb
     replace Ba := cellK Ba hb
     replace Bb := cellK Bb hb
     replace Be := cellK Be hb
     replace Bf := cellK Bf hb
     replace Bg := cellK Bg hb
     replace B6 := cellK B6 hb
     replace B7 := cellK B7 hb
     replace B8 := cellK B8 hb
     clear hb
     rw [← Cd.out]
     try go_wp2_with fail
     refine hK.out _ _ ⟨B9, Ba, Bb, Be, Bf, Bg, B6, B7, B8⟩ (fun hH => ?_)
     clear hK K
     try simp only [LY]
     refine U_tk 10 44 ?_ ?_ hH ?_
     rotate_left
     ·(intro w B5; (try dsimp only at B5); go_simp; try with_reducible rfl)
     simp only [LY]
     refine U_tk 11 45 ?_ ?_ hH ?_
     rotate_left
     ·(intro w B5; (try dsimp only at B5); go_simp; try with_reducible rfl)
     simp only [LY]
     refine U_tk 12 46 ?_ ?_ hH ?_
     rotate_left
     ·(intro w B5; (try dsimp only at B5); go_simp; try with_reducible rfl)
     simp only [LY]
     refine U_tk 13 47 ?_ ?_ hH ?_
     rotate_left
     ·(intro w B5; (try dsimp only at B5); go_simp; try with_reducible rfl)
     simp only [LY]
     refine U_tk 14 48 ?_ ?_ hH ?_
     rotate_left
     ·(intro w B5; (try dsimp only at B5); go_simp; try with_reducible rfl)
     simp only [LY]
     refine U_tk 15 49 ?_ ?_ hH ?_
     rotate_left
     ·(intro w B5; (try dsimp only at B5); go_simp; try with_reducible rfl)
     simp only [LY]
     refine U_tk 17 51 ?_ ?_ hH ?_
     rotate_left
     ·(intro w B5; (try dsimp only at B5); go_simp; try with_reducible rfl)
     simp only [LY]
     clear hH
     refine U_one (i := 16) (by kernel_rfl) rfl (fun K hK => ?_)
     go_simp
     (with_reducible refine (al_wholeS ((S.length : Int) - (k : Int)) _ (by omega) (by omega)).mono ?_)
     rintro e w27 ⟨_, rfl, Co, hb⟩
     obtain ⟨sh14, ah14, nh14, ch14, Ah14, Nh14, Ch14, rfl⟩ := Co.shape
     replace hs := bStep hs hb
     replace B0 := B0.mono hb
     replace Blk := Blk.mono hb
     replace B1 := B1.mono hb
     replace hu := hu.mono hb
     replace h4 := h4.mono hb
     replace Bm := Bm.mono hb
     replace Bk := Bk.mono hb
     replace Bl := rowsJ PC.kept _ _ _ Bl hb
     replace B9 := cellK B9 hb
     replace Ba := cellK Ba hb
     replace Bb := cellK Bb hb
     replace Be := cellK Be hb
     replace Bf := cellK Bf hb
     replace Bg := cellK Bg hb
     replace B6 := cellK B6 hb
     replace B7 := cellK B7 hb
     replace B8 := cellK B8 hb
     clear hb
     try go_wp2_with fail
     refine hK.out _ _ ⟨B9, Ba, Bb, Be, Bf, Bg, B6, B7, B8⟩ (fun hH => ?_)
     clear hK K
     try simp only [LY]
     clear hH
     refine U_one (i := 18) (by kernel_rfl) rfl (fun K hK => ?_)
     go_simp
     (with_reducible refine (pCmp Co h4 (SzQ.fit (szQ_int (by omega))) (SzQ.fit (SzQ.mul su sn))).mono ?_)
     rintro e Cm ⟨rfl, hb⟩
     replace hs := bStep hs hb
     replace B0 := B0.mono hb
     replace Blk := Blk.mono hb
     replace B1 := B1.mono hb
     replace hu := hu.mono hb
     replace h4 := h4.mono hb
     replace Bm := Bm.mono hb
     replace Bk := Bk.mono hb
     replace Co := Co.mono hb
     replace Bl := rowsJ PC.kept _ _ _ Bl hb
     replace B9 := cellK B9 hb
     replace Ba := cellK Ba hb
     replace Bb := cellK Bb hb
     replace Be := cellK Be hb
     replace Bf := cellK Bf hb
     replace Bg := cellK Bg hb
     replace B6 := cellK B6 hb
     replace B7 := cellK B7 hb
     replace B8 := cellK B8 hb
     clear hb
     rw [← Cb.out]
     try go_wp2_with fail
     refine hK.out _ _ ⟨B9, Ba, Bb, Be, Bf, Bg, B6, B7, B8⟩ (fun hH => ?_)
     clear hK K
     try simp only [LY]
     refine U_tk 19 53 ?_ ?_ hH ?_
     rotate_left
     ·(intro w B5; (try dsimp only at B5); go_simp; try with_reducible rfl)
     simp only [LY]
     refine U_tk 20 54 ?_ ?_ hH ?_
     rotate_left
     ·(intro w B5; (try dsimp only at B5); go_simp; try with_reducible rfl)
     simp only [LY]
     clear hH
     refine U_endN (by kernel_rfl) ?_
     clear B9 Ba Bb Be Bf Bg B6 B7 B8
     by_cases q16 : u * n ≤ (((S.length : Int) - (k : Int) : Int) : Rat)
     ·have Dh : 0 ≤ D5 := by have h := sq_ge ((((S.length : Int) - (k : Int) : Int) : Rat)) (u * n); rw [← Cb.out] at h; exact h.2 q16
      have Df := Lib.hid q16
      clear q16
      have q16d : decide (0 ≤ D5) = true := decide_eq_true Dh
      obtain ⟨D0, Cw, D3, Cy, Cq, Cu, Cs, Dq, Dr, Ds, D2, le17⟩ := rowP_at Bl (show k < S.length by omega)
      have Bn : Cm.cell? ⟨w.heap.size + 1, 0, none⟩ = some (.bool false) := Blk.at 0 rfl
      have Bo : Cm.cell? ⟨w.heap.size + 1, 1, none⟩ = some (.slice none 0 0) := Blk.at 1 rfl
      have Bp : Cm.cell? ⟨w.heap.size + 1, 2, none⟩ = some (.slice none 0 0) := Blk.at 2 rfl
      have fk := Blk.free
      have Lk : w.heap.size + 1 < Cm.heap.size := Blk.lt
      go_wp2
      clear Bn Bo Bp fk Lk le9 le11 le17 Dq Dr Ds
      clear Bl
      refine bodyPost.abs ?_
      intro Cn hW
      have hG : Gr [w.heap.size + 1] Cm Cn := by rw [hW]; exact (Gr.refl _ _).set.set.set
      have C7 := hs.size
      have lk := Blk.lt
      have Bh : Below w.heap.size Cm Cn := hG.below1 hs.size (by first | omega | assumption)
      have hk : KeepD Cm Cn := hG.keep ⟨⟨_, Blk.ty, by decide⟩, True.intro⟩
      have Br : Bx Cn (w.heap.size + 1) 34 #[.bool D0, .slice Cw D3 Cy, .slice Cq Cu Cs] := by rw [hW]; exact Blk.set3
      replace hs := hs.trans Bh
      replace B0 := hG.bx B0 (notMem1 (by omega))
      replace B1 := hG.bx B1 (notMem1 (by omega))
      replace Blk := Br
      clear Br
      replace hu := hu.keep hk
      replace h4 := h4.keep hk
      replace Bm := Bm.keep hk
      replace Bk := Bk.keep hk
      replace Co := Co.keep hk
      replace D2 := D2.keep hk
      clear hW hG hk Bh C7 lk
      have Bn : Cn.cell? ⟨w.heap.size + 1, 0, none⟩ = some (.bool D0) := Blk.at 0 rfl
      have Bo : Cn.cell? ⟨w.heap.size + 1, 1, none⟩ = some (.slice Cw D3 Cy) := Blk.at 1 rfl
      have Bp : Cn.cell? ⟨w.heap.size + 1, 2, none⟩ = some (.slice Cq Cu Cs) := Blk.at 2 rfl
      exact bodyPost_ret (v := .tuple #[.agg #[.bool D0, .slice Cw D3 Cy, .slice Cq Cu Cs], .int .i64 0]) (by simp [results, Tryz.results11, go_sem, Bn, Bo, Bp]) rfl ⟨_, rfl, D2.of_eq (by rw [← HQ.out, HI.out]; exact (qtD_yes (by omega) De.out Df.out).symm), hs⟩
     ·have Dh : ¬ (0 ≤ D5) := by have h := sq_ge ((((S.length : Int) - (k : Int) : Int) : Rat)) (u * n); rw [← Cb.out] at h; exact fun h1 => q16 (h.1 h1)
      have Df := Lib.hid q16
      clear q16
      have q16d : decide (0 ≤ D5) = false := decide_eq_false Dh
      go_wp2
      go_roundw
      case rel => exact ⟨k - 1, by omega, congrArg _ (by omega), hs, B0, Blk, B1, hu, h4, Bl, (HI.out.trans (qtD_few (by omega) Df.out))⟩
      all_goals first | (simp [intOf]; done) | (simp [intOf]; omega)
   ·have q6d : ((0 : Int) < (k : Int)) = False := eq_false (by omega)
    obtain rfl : k = 0 := by omega
    have BI7a : 0 < S.length := by omega
    have BI7b : (0 : Int) < (S.length : Int) := by omega
    obtain ⟨Db, D9, Dd, Da, D6, D8, D7, Dn, Do, Dp, Dc, le8⟩ := rowP_at Bl (show 0 < S.length by omega)
    simp only [Nat.zero_mul, Nat.add_zero] at Dn Do Dp
    have Bn : wr.cell? ⟨w.heap.size + 1, 0, none⟩ = some (.bool false) := Blk.at 0 rfl
    have Bo : wr.cell? ⟨w.heap.size + 1, 1, none⟩ = some (.slice none 0 0) := Blk.at 1 rfl
    have Bp : wr.cell? ⟨w.heap.size + 1, 2, none⟩ = some (.slice none 0 0) := Blk.at 2 rfl
    have fk := Blk.free
    have Lk : w.heap.size + 1 < wr.heap.size := Blk.lt
    go_wp2
    clear Bn Bo Bp fk Lk le8 Dn Do Dp
    clear Bl
    refine bodyPost.abs ?_
    intro Bi hW
    have hG : Gr [w.heap.size + 1] wr Bi := by rw [hW]; exact (Gr.refl _ _).set.set.set
    have C7 := hs.size
    have lk := Blk.lt
    have Bh : Below w.heap.size wr Bi := hG.below1 hs.size (by first | omega | assumption)
    have hk : KeepD wr Bi := hG.keep ⟨⟨_, Blk.ty, by decide⟩, True.intro⟩
    have Br : Bx Bi (w.heap.size + 1) 34 #[.bool Db, .slice D9 Dd Da, .slice D6 D8 D7] := by rw [hW]; exact Blk.set3
    replace hs := hs.trans Bh
    replace B0 := hG.bx B0 (notMem1 (by omega))
    replace B1 := hG.bx B1 (notMem1 (by omega))
    replace Blk := Br
    clear Br
    replace hu := hu.keep hk
    replace h4 := h4.keep hk
    replace Dc := Dc.keep hk
    clear hW hG hk Bh C7 lk
    have Bn : Bi.cell? ⟨w.heap.size + 1, 0, none⟩ = some (.bool Db) := Blk.at 0 rfl
    have Bo : Bi.cell? ⟨w.heap.size + 1, 1, none⟩ = some (.slice D9 Dd Da) := Blk.at 1 rfl
    have Bp : Bi.cell? ⟨w.heap.size + 1, 2, none⟩ = some (.slice D6 D8 D7) := Blk.at 2 rfl
    exact bodyPost_ret (v := .tuple #[.agg #[.bool Db, .slice D9 Dd Da, .slice D6 D8 D7], .int .i64 0]) (by simp [results, Tryz.results11, go_sem, Bn, Bo, Bp]) rfl ⟨_, rfl, Dc.of_eq (by rw [← HQ.out, HI.out]; rfl), hs⟩
end Go.Proofs.YtlmemilmhdhgbaaGreat
namespace Go.Proofs.YtlmemilmhdhgbaaGreat
open Go.RowKit Dg
attribute [local go_sem ↓] Go.wp_at_zero Go.wp_at_succ
theorem al_Mean_bad {v : Value} {L : List Rat} (w : World) (hl : Rows 3 34 PC w v L) (g1 : ¬ (1 ≤ L.length ∧ L.length ≤ 64)) : Calls Tryz.prog 13 #[v] w (Ret3 (fun w v => PV w v 0) (fun w v => PV w v 0) (fun _ v => v = .int .i64 4) w) := by
 obtain ⟨aL, kL, rfl, hl1, hl2, -⟩ := hl.toI.slice
 have HL := Lib.hid hl
 clear hl
 have hs := Below.refl w.heap.size w
 go_enter Tryz.func13, Tryz.ntmps13
 go_wp2_with fail
 refine Calls.abs ?_
 intro w1 hW
 have hG : Gr [] w w1 := by rw [hW]; exact (Gr.refl _ _).alloc.alloc
 have Bf : Below w.heap.size w w1 := hG.below0 hs.size
 have hk : KeepD w w1 := hG.keep True.intro
 have Cj : w.heap.size ≤ w.heap.size := hs.size
 have B2 : Bx w1 (w.heap.size) 34 #[.bool false, .slice none 0 0, .slice none 0 0] := by rw [hW]; exact ((Bx.new0 _ _ _).alloc _)
 have B1 : Bx w1 (w.heap.size + 1) 34 #[.bool false, .slice none 0 0, .slice none 0 0] := by rw [hW]; exact (Bx.new0 _ _ _)
 replace hs := hs.trans Bf
 clear hW hG hk Bf
 have Ci : w.heap.size + 1 < w1.heap.size := B1.lt
 with_reducible refine (al_cvL_all (e := 4) _ (HL.out.mono PC.kept hs) (if_pos (by omega))).mono ?_
 rintro e w2 ⟨rfl, hb⟩
 replace hs := bStep hs hb
 replace B2 := B2.mono hb
 replace B1 := B1.mono hb
 clear hb
 have Bl : w2.cell? ⟨w.heap.size, 0, none⟩ = some (.bool false) := B2.at 0 rfl
 have Bm : w2.cell? ⟨w.heap.size, 1, none⟩ = some (.slice none 0 0) := B2.at 1 rfl
 have Bn : w2.cell? ⟨w.heap.size, 2, none⟩ = some (.slice none 0 0) := B2.at 2 rfl
 have Cq := B2.free
 have Cp : w.heap.size < w2.heap.size := B2.lt
 have Bh : w2.cell? ⟨w.heap.size + 1, 0, none⟩ = some (.bool false) := B1.at 0 rfl
 have Bi : w2.cell? ⟨w.heap.size + 1, 1, none⟩ = some (.slice none 0 0) := B1.at 1 rfl
 have Bj : w2.cell? ⟨w.heap.size + 1, 2, none⟩ = some (.slice none 0 0) := B1.at 2 rfl
 have Cl := B1.free
 have Ck : w.heap.size + 1 < w2.heap.size := B1.lt
 go_wp2
 clear Bl Bm Bn Bh Bi Bj Cq Cl Cp Ck
 refine bodyPost.abs ?_
 intro w3 hW
 have hG : Gr [w.heap.size, w.heap.size + 1] w2 w3 := by rw [hW]; exact (Gr.refl _ _).set.set.set.set.set.set
 have hsz := hs.size
 have Cr := B2.lt
 have Cn := B1.lt
 have Bf : Below w.heap.size w2 w3 := hG.below2 hs.size (by first | omega | assumption) (by first | omega | assumption)
 have hk : KeepD w2 w3 := hG.keep ⟨⟨_, B2.ty, by decide⟩, ⟨_, B1.ty, by decide⟩, True.intro⟩
 have Ca : Bx w3 (w.heap.size) 34 #[.bool false, .slice none 0 0, .slice none 0 0] := by rw [hW]; exact (Bx.far (Bx.far (Bx.far (Bx.set (Bx.set (Bx.set B2 0 _ rfl) 1 _ rfl) 2 _ rfl) (by dsimp only; omega) _) (by dsimp only; omega) _) (by dsimp only; omega) _)
 have Bw : Bx w3 (w.heap.size + 1) 34 #[.bool false, .slice none 0 0, .slice none 0 0] := by rw [hW]; exact (Bx.set (Bx.set (Bx.set (Bx.far (Bx.far (Bx.far B1 (by dsimp only; omega) _) (by dsimp only; omega) _) (by dsimp only; omega) _) 0 _ rfl) 1 _ rfl) 2 _ rfl)
 replace hs := hs.trans Bf
 replace B2 := Ca
 clear Ca
 replace B1 := Bw
 clear Bw
 clear hW hG hk Bf hsz Cr Cn
 have Bl : w3.cell? ⟨w.heap.size, 0, none⟩ = some (.bool false) := B2.at 0 rfl
 have Bm : w3.cell? ⟨w.heap.size, 1, none⟩ = some (.slice none 0 0) := B2.at 1 rfl
 have Bn : w3.cell? ⟨w.heap.size, 2, none⟩ = some (.slice none 0 0) := B2.at 2 rfl
 have Bh : w3.cell? ⟨w.heap.size + 1, 0, none⟩ = some (.bool false) := B1.at 0 rfl
 have Bi : w3.cell? ⟨w.heap.size + 1, 1, none⟩ = some (.slice none 0 0) := B1.at 1 rfl
 have Bj : w3.cell? ⟨w.heap.size + 1, 2, none⟩ = some (.slice none 0 0) := B1.at 2 rfl
 exact bodyPost_ret (v := .tuple #[.agg #[.bool false, .slice none 0 0, .slice none 0 0], .agg #[.bool false, .slice none 0 0, .slice none 0 0], .int .i64 4]) (by simp [results, Tryz.results13, go_sem, Bl, Bm, Bn, Bh, Bi, Bj]) rfl ⟨_, _, _, rfl, (PV.zero _), (PV.zero _), rfl, hs⟩
def outV (L : List Rat) (mo : Rat) : Int := if mo * varQ L < nthQ (sqK L (meanQ L) L.length) (mxF (sqK L (meanQ L) L.length) L.length) then (mxF (sqK L (meanQ L) L.length) L.length : Nat) else -1
theorem al_Outlier_few {v vu : Value} {L : List Rat} {mo : Rat} (w : World) (hl : Rows 3 34 PC w v L) (hu : PV w vu mo) (su : SzQ 1 mo) (g1 : ¬ (1 ≤ L.length ∧ L.length ≤ 64)) : Calls Tryz.prog 15 #[v, vu] w (RetV w (.tuple #[.int .i64 0, .int .i64 4])) := by
 obtain ⟨aL, kL, rfl, hl1, hl2, -⟩ := hl.toI.slice
 have HL := Lib.hid hl
 clear hl
 obtain ⟨Bu, Br, Bt, Bs, Bo, Bq, Bp, rfl⟩ := hu.shape
 have HC := Lib.hid (True.intro)
 have hs := Below.refl w.heap.size w
 go_enter Tryz.func15, Tryz.ntmps15
 go_wp2_with fail
 refine Calls.abs ?_
 intro w1 hW
 have hG : Gr [] w w1 := by rw [hW]; exact (Gr.refl _ _).alloc
 have Bf : Below w.heap.size w w1 := hG.below0 hs.size
 have hk : KeepD w w1 := hG.keep True.intro
 have Cj : w.heap.size ≤ w.heap.size := hs.size
 have B0 : Bx w1 (w.heap.size) 34 #[.bool Bu, .slice Br Bt Bs, .slice Bo Bq Bp] := by rw [hW]; exact (Bx.new0 _ _ _)
 replace hs := hs.trans Bf
 replace hu := hu.keep hk
 clear hW hG hk Bf
 have Ci : w.heap.size < w1.heap.size := B0.lt
 with_reducible refine (al_cvL_all (e := 4) _ (HL.out.mono PC.kept hs) (if_pos (by omega))).mono ?_
 rintro e w2 ⟨rfl, hb⟩
 replace hs := bStep hs hb
 replace B0 := B0.mono hb
 replace hu := hu.mono hb
 clear hb
 go_wp2
 go_ret2
 exact ⟨rfl, hs⟩
theorem al_Outlier_arg {v vu : Value} {L : List Rat} {mo : Rat} (w : World) (hl : Rows 3 34 PC w v L) (hu : PV w vu mo) (su : SzQ 1 mo) (g1 : 1 ≤ L.length) (g20 : L.length ≤ 64) (hc : mo < 0) : Calls Tryz.prog 15 #[v, vu] w (RetV w (.tuple #[.int .i64 0, .int .i64 1])) := by
 obtain ⟨aL, kL, rfl, hl1, hl2, -⟩ := hl.toI.slice
 have HL := Lib.hid hl
 clear hl
 obtain ⟨Bu, Br, Bt, Bs, Bo, Bq, Bp, rfl⟩ := hu.shape
 have HC := Lib.hid hc
 clear hc
 have hs := Below.refl w.heap.size w
 go_enter Tryz.func15, Tryz.ntmps15
 go_wp2_with fail
 refine Calls.abs ?_
 intro w1 hW
 have hG : Gr [] w w1 := by rw [hW]; exact (Gr.refl _ _).alloc
 have Bf : Below w.heap.size w w1 := hG.below0 hs.size
 have hk : KeepD w w1 := hG.keep True.intro
 have Cj : w.heap.size ≤ w.heap.size := hs.size
 have B0 : Bx w1 (w.heap.size) 34 #[.bool Bu, .slice Br Bt Bs, .slice Bo Bq Bp] := by rw [hW]; exact (Bx.new0 _ _ _)
 replace hs := hs.trans Bf
 replace hu := hu.keep hk
 clear hW hG hk Bf
 have Ci : w.heap.size < w1.heap.size := B0.lt
 with_reducible refine (al_cvL_all (e := 0) _ (HL.out.mono PC.kept hs) (if_neg (by omega))).mono ?_
 rintro e w2 ⟨rfl, hb⟩
 replace hs := bStep hs hb
 replace B0 := B0.mono hb
 replace hu := hu.mono hb
 clear hb
 have B3 : w2.cell? ⟨w.heap.size, 0, none⟩ = some (.bool Bu) := B0.at 0 rfl
 have B4 : w2.cell? ⟨w.heap.size, 1, none⟩ = some (.slice Br Bt Bs) := B0.at 1 rfl
 have B5 : w2.cell? ⟨w.heap.size, 2, none⟩ = some (.slice Bo Bq Bp) := B0.at 2 rfl
 have Ch : w.heap.size < w2.heap.size := B0.lt
 go_wp2_with fail
 clear B3 B4 B5 Ch
 with_reducible refine (pSign hu).mono ?_
 rintro e w3 ⟨rfl, hb⟩
 replace hs := bStep hs hb
 replace B0 := B0.mono hb
 replace hu := hu.mono hb
 clear hb
 obtain ⟨Co, Bk⟩ : ∃ s : Int, s = sgQ mo := ⟨_, rfl⟩
 rw [← Bk]
 replace Bk := Lib.hid Bk
 have q2 : mo < 0 := HC.out
 have q2_ : Co < 0 := by have h := s1_lt mo; rw [← Bk.out] at h; exact h.2 q2
 have q2H := Lib.hid q2
 clear q2
 have q2d : decide (Co < 0) = true := decide_eq_true q2_
 go_wp2
 go_ret2
 exact ⟨rfl, hs⟩
theorem al_Outlier_ok {v vu : Value} {L : List Rat} {mo : Rat} (w : World) (hl : Rows 3 34 PC w v L) (hu : PV w vu mo) (su : SzQ 1 mo) (g1 : 1 ≤ L.length) (g20 : L.length ≤ 20) (hc : ¬ mo < 0) (hz : ∀ i, i < L.length → SzQ 1 (nthQ L i)) {r : Int} (hr : outV L mo = r) : Calls Tryz.prog 15 #[v, vu] w (RetV w (.tuple #[.int .i64 r, .int .i64 0])) := by
 obtain ⟨aL, kL, rfl, hl1, hl2, -⟩ := hl.toI.slice
 have HL := Lib.hid hl
 clear hl
 obtain ⟨Bu, Br, Bt, Bs, Bo, Bq, Bp, rfl⟩ := hu.shape
 obtain ⟨m, hm⟩ : ∃ m, meanQ L = m := ⟨_, rfl⟩
 obtain ⟨va, hva⟩ : ∃ m, varQ L = m := ⟨_, rfl⟩
 have sm : SzQ (20 * 1 + 101) m := hm ▸ mean_sz hz g1 g20
 obtain ⟨S, hS⟩ : ∃ S, sqK L m L.length = S := ⟨_, rfl⟩
 have lS : S.length = L.length := by rw [← hS, sqK_len L m (Nat.le_refl _)]
 have lS1 : S.length ≤ L.length := Nat.le_of_eq lS
 have lS2 : L.length ≤ S.length := Nat.le_of_eq lS.symm
 have sS : ∀ i, i < S.length → SzQ 300 (nthQ S i) := fun i hi => hS ▸ (sqK_sz hz sm (by omega)).mono (by omega)
 have hv2 : sumQ S S.length / ((S.length : Int) : Rat) = va := by subst hva hm hS; rfl
 have sva : SzQ 7000 va := by
  have := mean_sz sS (by omega) (by omega)
  rw [show meanQ S = va from hv2] at this
  exact this.mono (by omega)
 obtain ⟨A0, Cv⟩ : ∃ a : Nat, mxF S S.length = a := ⟨_, rfl⟩
 have hr2 : (if mo * va < nthQ S A0 then (A0 : Int) else -1) = r := by
  rw [← hr]; unfold outV
  rw [hva, hm, hS, ← lS, Cv]
 have HA0 := Lib.hid Cv
 have HR := Lib.hid hr2
 have HC := Lib.hid hc
 have HZ := Lib.hid hz
 have HM := Lib.hid (show sumQ L L.length / ((L.length : Int) : Rat) = m from hm)
 have HV := Lib.hid hv2
 have HS := Lib.hid hS
 have Cu := Lib.hid sS
 clear hz hm hva lS hS sS hv2 Cv hr2 hr hc
 have hs := Below.refl w.heap.size w
 go_enter Tryz.func15, Tryz.ntmps15
 go_wp2_with fail
 refine Calls.abs ?_
 intro w1 hW
 have hG : Gr [] w w1 := by rw [hW]; exact (Gr.refl _ _).alloc
 have Bf : Below w.heap.size w w1 := hG.below0 hs.size
 have hk : KeepD w w1 := hG.keep True.intro
 have Cj : w.heap.size ≤ w.heap.size := hs.size
 have B0 : Bx w1 (w.heap.size) 34 #[.bool Bu, .slice Br Bt Bs, .slice Bo Bq Bp] := by rw [hW]; exact (Bx.new0 _ _ _)
 replace hs := hs.trans Bf
 replace hu := hu.keep hk
 clear hW hG hk Bf
 have Ci : w.heap.size < w1.heap.size := B0.lt
 with_reducible refine (al_cvL_all (e := 0) _ (HL.out.mono PC.kept hs) (if_neg (by omega))).mono ?_
 rintro e w2 ⟨rfl, hb⟩
 replace hs := bStep hs hb
 replace B0 := B0.mono hb
 replace hu := hu.mono hb
 clear hb
 have B3 : w2.cell? ⟨w.heap.size, 0, none⟩ = some (.bool Bu) := B0.at 0 rfl
 have B4 : w2.cell? ⟨w.heap.size, 1, none⟩ = some (.slice Br Bt Bs) := B0.at 1 rfl
 have B5 : w2.cell? ⟨w.heap.size, 2, none⟩ = some (.slice Bo Bq Bp) := B0.at 2 rfl
 have Ch : w.heap.size < w2.heap.size := B0.lt
 go_wp2_with fail
 clear B3 B4 B5 Ch
 with_reducible refine (pSign hu).mono ?_
 rintro e w3 ⟨rfl, hb⟩
 replace hs := bStep hs hb
 replace B0 := B0.mono hb
 replace hu := hu.mono hb
 clear hb
 obtain ⟨Co, Bk⟩ : ∃ s : Int, s = sgQ mo := ⟨_, rfl⟩
 rw [← Bk]
 replace Bk := Lib.hid Bk
 have q2 : ¬ (mo < 0) := HC.out
 have q2_ : ¬ (Co < 0) := by have h := s1_lt mo; rw [← Bk.out] at h; exact fun h1 => q2 (h.1 h1)
 have q2H := Lib.hid q2
 clear q2
 have q2d : decide (Co < 0) = false := decide_eq_false q2_
 go_wp2_with fail
 with_reducible refine (al_squares _ (HL.out.mono PC.kept hs) g1 g20 (K := 1) (by decide) HZ.out HM.out sm).mono ?_
 rintro e w4 ⟨_, rfl, B7, hb⟩
 rw [HS.out] at B7
 obtain ⟨Bd, Be, khq3, rfl, hq31, hq32, -⟩ := B7.open_ (by omega)
 replace hs := bStep hs hb
 replace B0 := B0.mono hb
 replace hu := hu.mono hb
 clear hb
 go_wp2
 go_loopw [8, 23] (fun s8 s23 wq => ∃ k : Nat, k ≤ S.length ∧ s23 = .int .i64 k ∧ s8 = .int .i64 (((mxF S k : Nat) : Int)) ∧ Below w.heap.size w wq ∧ Bx wq (w.heap.size) 34 #[.bool Bu, .slice Br Bt Bs, .slice Bo Bq Bp] ∧ PV wq (.agg #[.bool Bu, .slice Br Bt Bs, .slice Bo Bq Bp]) (mo) ∧ Rows 3 34 PC wq (.slice (some ⟨Bd, Be, none⟩) S.length khq3) S) (fun s8 s23 _ => S.length - (intOf s23).toNat)
 case atStart => exact ⟨0, Nat.zero_le _, rfl, rfl, hs, B0, hu, B7⟩
 case round =>
  clear B0 hu B7 hs
  obtain ⟨k, k_le, rfl, rfl, hs, B0, hu, B7⟩ := hrel
  obtain ⟨ax, Cm⟩ : ∃ a : Nat, mxF S k = a := ⟨_, rfl⟩
  rw [Cm]
  have hax : ax ≤ k := Cm ▸ mxF_lt S k
  have hax2 : 0 < k → ax < k := fun h_ => Cm ▸ mxF_le S k h_
  have Ct := Lib.hid Cm
  clear Cm
  by_cases q4 : k < S.length
  ·have q4d : ((k : Int) < (S.length : Int)) = True := eq_true (by omega)
   have BI5a : k < S.length := by omega
   have BI5b : ((k : Int) : Int) < (S.length : Int) := by omega
   obtain ⟨C6, C4, C7, C5, By, C3, Bz, B9, Ba, Bb, B8, Cw⟩ := rowP_at B7 (show k < S.length by omega)
   go_upto_region 11 with fail
   clear Cw B9 Ba Bb
   refine Code.abs ?_
   intro Bc hW
   have hG : Gr [] wr Bc := by rw [hW]; exact (Gr.refl _ _).alloc
   have Bf : Below w.heap.size wr Bc := hG.below0 hs.size
   have hk : KeepD wr Bc := hG.keep True.intro
   have sz_w25 : w.heap.size ≤ wr.heap.size := hs.size
   have D4 : w.heap.size < wr.heap.size := B0.lt
   have Cc : Bx Bc (wr.heap.size) 34 #[.bool C6, .slice C4 C7 C5, .slice By C3 Bz] := by rw [hW]; exact (Bx.new0 _ _ _)
   replace hs := hs.trans Bf
   replace B7 := rowsJ PC.kept _ _ _ B7 (hG.below0 (Nat.le_refl _))
   replace B0 := hG.bx B0 notMem0
   replace hu := hu.keep hk
   replace B8 := B8.keep hk
   clear hW hG hk Bf
   have hz_w25 : wr.heap.size < Bc.heap.size := Cc.lt
   have BI7a : ax < S.length := by omega
   have BI7b : ((ax : Int) : Int) < (S.length : Int) := by omega
   obtain ⟨D2, D0, D3, D1, Cx, Cz, Cy, C0, C1, C2, Cg, le8⟩ := rowP_at B7 (show ax < S.length by omega)
   obtain ⟨Cb, Bg⟩ : ∃ s : Int, s = sgQ ((nthQ S k) - (nthQ S ax)) := ⟨_, rfl⟩
   replace Bg := Lib.hid Bg
   refine U_region (S := fun w' => w'.cell? ⟨wr.heap.size, 0, none⟩ = some (.bool C6) ∧ w'.cell? ⟨wr.heap.size, 1, none⟩ = some (.slice C4 C7 C5) ∧ w'.cell? ⟨wr.heap.size, 2, none⟩ = some (.slice By C3 Bz) ∧ w'.cell? ⟨Bd, Be + ax * 3, none⟩ = some (.bool D2) ∧ w'.cell? ⟨Bd, Be + ax * 3 + 1, none⟩ = some (.slice D0 D3 D1) ∧ w'.cell? ⟨Bd, Be + ax * 3 + 2, none⟩ = some (.slice Cx Cz Cy)) (by kernel_rfl) 7 ?_
   refine AnyU.abs ?_
   intro Bv hW
   have hb : Below Bc.heap.size Bc Bv := by rw [hW]; exact bDrew _
   replace hs := bStep hs hb
   replace B0 := B0.mono hb
   replace Cc := Cc.mono hb
   replace hu := hu.mono hb
   replace B8 := B8.mono hb
   replace Cg := Cg.mono hb
   replace B7 := rowsJ PC.kept _ _ _ B7 hb
   replace C0 := cellK C0 hb
   replace C1 := cellK C1 hb
   replace C2 := cellK C2 hb
   clear hb hW
   have Cd : Bv.cell? ⟨wr.heap.size, 0, none⟩ = some (.bool C6) := Cc.at 0 rfl
   have Ce : Bv.cell? ⟨wr.heap.size, 1, none⟩ = some (.slice C4 C7 C5) := Cc.at 1 rfl
   have Cf : Bv.cell? ⟨wr.heap.size, 2, none⟩ = some (.slice By C3 Bz) := Cc.at 2 rfl
   have hH := (show Bv.cell? ⟨wr.heap.size, 0, none⟩ = some (.bool C6) ∧ Bv.cell? ⟨wr.heap.size, 1, none⟩ = some (.slice C4 C7 C5) ∧ Bv.cell? ⟨wr.heap.size, 2, none⟩ = some (.slice By C3 Bz) ∧ Bv.cell? ⟨Bd, Be + ax * 3, none⟩ = some (.bool D2) ∧ Bv.cell? ⟨Bd, Be + ax * 3 + 1, none⟩ = some (.slice D0 D3 D1) ∧ Bv.cell? ⟨Bd, Be + ax * 3 + 2, none⟩ = some (.slice Cx Cz Cy) from ⟨Cd, Ce, Cf, C0, C1, C2⟩)
   refine U_tk 0 28 ?_ ?_ hH ?_
   rotate_left
   ·(intro w B6; (try dsimp only at B6); go_simp; try with_reducible rfl)
   simp only [LY]
   refine U_tk 1 29 ?_ ?_ hH ?_
   rotate_left
   ·(intro w B6; (try dsimp only at B6); go_simp; try with_reducible rfl)
   simp only [LY]
   refine U_tk 2 30 ?_ ?_ hH ?_
   rotate_left
   ·(intro w B6; (try dsimp only at B6); go_simp; try with_reducible rfl)
   simp only [LY]
   refine U_tk 3 31 ?_ ?_ hH ?_
   rotate_left
   ·(intro w B6; (try dsimp only at B6); go_simp; try with_reducible rfl)
   simp only [LY]
   refine U_tk 4 32 ?_ ?_ hH ?_
   rotate_left
   ·(intro w B6; (try dsimp only at B6); go_simp; try with_reducible rfl)
   simp only [LY]
   clear hH
   refine U_one (i := 5) (by kernel_rfl) rfl (fun K hK => ?_)
   go_simp
   (with_reducible refine (pCmp B8 Cg (SzQ.fit (Cu.out k (by omega))) (SzQ.fit (Cu.out ax (by omega)))).mono ?_)
   rintro e w27 ⟨rfl, hb⟩
   replace hs := bStep hs hb
   replace B0 := B0.mono hb
   replace Cc := Cc.mono hb
   replace hu := hu.mono hb
   replace B8 := B8.mono hb
   replace Cg := Cg.mono hb
   replace B7 := rowsJ PC.kept _ _ _ B7 hb
   replace Cd := cellK Cd hb
   replace Ce := cellK Ce hb
   replace Cf := cellK Cf hb
   replace C0 := cellK C0 hb
   replace C1 := cellK C1 hb
   replace C2 := cellK C2 hb
   clear hb
   rw [← Bg.out]
   try go_wp2_with fail
   refine hK.out _ _ ⟨Cd, Ce, Cf, C0, C1, C2⟩ (fun hH => ?_)
   clear hK K
   try simp only [LY]
   refine U_tk 6 34 ?_ ?_ hH ?_
   rotate_left
   ·(intro w B6; (try dsimp only at B6); go_simp; try with_reducible rfl)
   simp only [LY]
   clear hH
   refine U_endN (by kernel_rfl) ?_
   clear Cd Ce Cf C0 C1 C2
   by_cases q10 : nthQ S ax < nthQ S k
   ·have C9 : 0 < Cb := by have h := sq_gt (nthQ S k) (nthQ S ax); rw [← Bg.out] at h; exact h.2 q10
    have C8 := Lib.hid q10
    clear q10
    have Cs : decide (0 < Cb) = true := decide_eq_true C9
    go_wp2
    go_roundw
    case rel => exact ⟨k + 1, by omega, by go_num, (congrArg (fun z : Nat => Value.int .i64 (z : Int)) (by rw [mxF_yes (by rw [Ct.out]; exact C8.out)])), hs, B0, hu, B7⟩
    all_goals first | (simp [intOf]; done) | (simp [intOf]; omega)
   ·have C9 : ¬ (0 < Cb) := by have h := sq_gt (nthQ S k) (nthQ S ax); rw [← Bg.out] at h; exact fun h1 => q10 (h.1 h1)
    have C8 := Lib.hid q10
    clear q10
    have Cs : decide (0 < Cb) = false := decide_eq_false C9
    go_wp2
    go_roundw
    case rel => exact ⟨k + 1, by omega, by go_num, (congrArg (fun z : Nat => Value.int .i64 (z : Int)) (by rw [mxF_no (by rw [Ct.out]; exact C8.out)]; exact Ct.out.symm)), hs, B0, hu, B7⟩
    all_goals first | (simp [intOf]; done) | (simp [intOf]; omega)
  ·have q4d : ((k : Int) < (S.length : Int)) = False := eq_false (by omega)
   obtain rfl : k = S.length := by omega
   obtain rfl : ax = A0 := Ct.out.symm.trans HA0.out
   have Cv : ax < S.length := hax2 (by omega)
   go_upto_region 14 with fail
   have BI5a : ax < S.length := by omega
   have BI5b : ((ax : Int) : Int) < (S.length : Int) := by omega
   obtain ⟨C6, C4, C7, C5, By, C3, Bz, B9, Ba, Bb, B8, Cw⟩ := rowP_at B7 (show ax < S.length by omega)
   obtain ⟨Cb, Bg⟩ : ∃ s : Int, s = sgQ ((nthQ S ax) - (mo * va)) := ⟨_, rfl⟩
   replace Bg := Lib.hid Bg
   refine U_region (S := fun w' => w'.cell? ⟨w.heap.size, 0, none⟩ = some (.bool Bu) ∧ w'.cell? ⟨w.heap.size, 1, none⟩ = some (.slice Br Bt Bs) ∧ w'.cell? ⟨w.heap.size, 2, none⟩ = some (.slice Bo Bq Bp) ∧ w'.cell? ⟨Bd, Be + ax * 3, none⟩ = some (.bool C6) ∧ w'.cell? ⟨Bd, Be + ax * 3 + 1, none⟩ = some (.slice C4 C7 C5) ∧ w'.cell? ⟨Bd, Be + ax * 3 + 2, none⟩ = some (.slice By C3 Bz)) (by kernel_rfl) 10 ?_
   refine AnyU.abs ?_
   intro Bc hW
   have hb : Below wr.heap.size wr Bc := by rw [hW]; exact bDrew _
   replace hs := bStep hs hb
   replace B0 := B0.mono hb
   replace hu := hu.mono hb
   replace B8 := B8.mono hb
   replace B7 := rowsJ PC.kept _ _ _ B7 hb
   replace B9 := cellK B9 hb
   replace Ba := cellK Ba hb
   replace Bb := cellK Bb hb
   clear hb hW
   have B3 : Bc.cell? ⟨w.heap.size, 0, none⟩ = some (.bool Bu) := B0.at 0 rfl
   have B4 : Bc.cell? ⟨w.heap.size, 1, none⟩ = some (.slice Br Bt Bs) := B0.at 1 rfl
   have B5 : Bc.cell? ⟨w.heap.size, 2, none⟩ = some (.slice Bo Bq Bp) := B0.at 2 rfl
   have hH := (show Bc.cell? ⟨w.heap.size, 0, none⟩ = some (.bool Bu) ∧ Bc.cell? ⟨w.heap.size, 1, none⟩ = some (.slice Br Bt Bs) ∧ Bc.cell? ⟨w.heap.size, 2, none⟩ = some (.slice Bo Bq Bp) ∧ Bc.cell? ⟨Bd, Be + ax * 3, none⟩ = some (.bool C6) ∧ Bc.cell? ⟨Bd, Be + ax * 3 + 1, none⟩ = some (.slice C4 C7 C5) ∧ Bc.cell? ⟨Bd, Be + ax * 3 + 2, none⟩ = some (.slice By C3 Bz) from ⟨B3, B4, B5, B9, Ba, Bb⟩)
   refine U_tk 0 37 ?_ ?_ hH ?_
   rotate_left
   ·(intro w B6; (try dsimp only at B6); go_simp; try with_reducible rfl)
   simp only [LY]
   refine U_tk 1 38 ?_ ?_ hH ?_
   rotate_left
   ·(intro w B6; (try dsimp only at B6); go_simp; try with_reducible rfl)
   simp only [LY]
   refine U_tk 2 39 ?_ ?_ hH ?_
   rotate_left
   ·(intro w B6; (try dsimp only at B6); go_simp; try with_reducible rfl)
   simp only [LY]
   refine U_tk 3 40 ?_ ?_ hH ?_
   rotate_left
   ·(intro w B6; (try dsimp only at B6); go_simp; try with_reducible rfl)
   simp only [LY]
   refine U_tk 4 41 ?_ ?_ hH ?_
   rotate_left
   ·(intro w B6; (try dsimp only at B6); go_simp; try with_reducible rfl)
   simp only [LY]
   refine U_tk 5 42 ?_ ?_ hH ?_
   rotate_left
   ·(intro w B6; (try dsimp only at B6); go_simp; try with_reducible rfl)
   simp only [LY]
   clear hH
   refine U_one (i := 6) (by kernel_rfl) rfl (fun K hK => ?_)
   go_simp
   (with_reducible refine (al_mean _ B7 (by omega) (by omega) (K := 300) (by decide) Cu.out HV.out).mono ?_)
   rintro e Bv ⟨_, rfl, h7, hb⟩
   obtain ⟨sh7, ah7, nh7, ch7, Ah7, Nh7, Ch7, rfl⟩ := h7.shape
   replace hs := bStep hs hb
   replace B0 := B0.mono hb
   replace hu := hu.mono hb
   replace B8 := B8.mono hb
   replace B7 := rowsJ PC.kept _ _ _ B7 hb
   replace B3 := cellK B3 hb
   replace B4 := cellK B4 hb
   replace B5 := cellK B5 hb
   replace B9 := cellK B9 hb
   replace Ba := cellK Ba hb
   replace Bb := cellK Bb hb
   clear hb
   try go_wp2_with fail
   refine hK.out _ _ ⟨B3, B4, B5, B9, Ba, Bb⟩ (fun hH => ?_)
   clear hK K
   try simp only [LY]
   clear hH
   refine U_one (i := 7) (by kernel_rfl) rfl (fun K hK => ?_)
   go_simp
   (with_reducible refine (pMul hu h7 (SzQ.fit su) (SzQ.fit sva)).mono ?_)
   rintro e w27 ⟨_, rfl, h8, hb⟩
   obtain ⟨sh8, ah8, nh8, ch8, Ah8, Nh8, Ch8, rfl⟩ := h8.shape
   replace hs := bStep hs hb
   replace B0 := B0.mono hb
   replace hu := hu.mono hb
   replace B8 := B8.mono hb
   replace h7 := h7.mono hb
   replace B7 := rowsJ PC.kept _ _ _ B7 hb
   replace B3 := cellK B3 hb
   replace B4 := cellK B4 hb
   replace B5 := cellK B5 hb
   replace B9 := cellK B9 hb
   replace Ba := cellK Ba hb
   replace Bb := cellK Bb hb
   clear hb
   try go_wp2_with fail
   refine hK.out _ _ ⟨B3, B4, B5, B9, Ba, Bb⟩ (fun hH => ?_)
   clear hK K
   try simp only [LY]
   clear hH
   refine U_one (i := 8) (by kernel_rfl) rfl (fun K hK => ?_)
   go_simp
   (with_reducible refine (pCmp B8 h8 (SzQ.fit (Cu.out ax (by omega))) (SzQ.fit (SzQ.mul su sva))).mono ?_)
   rintro e w28 ⟨rfl, hb⟩
   replace hs := bStep hs hb
   replace B0 := B0.mono hb
   replace hu := hu.mono hb
   replace B8 := B8.mono hb
   replace h7 := h7.mono hb
   replace h8 := h8.mono hb
   replace B7 := rowsJ PC.kept _ _ _ B7 hb
   replace B3 := cellK B3 hb
   replace B4 := cellK B4 hb
   replace B5 := cellK B5 hb
   replace B9 := cellK B9 hb
   replace Ba := cellK Ba hb
   replace Bb := cellK Bb hb
   clear hb
   rw [← Bg.out]
   try go_wp2_with fail
   refine hK.out _ _ ⟨B3, B4, B5, B9, Ba, Bb⟩ (fun hH => ?_)
   clear hK K
   try simp only [LY]
   refine U_tk 9 46 ?_ ?_ hH ?_
   rotate_left
   ·(intro w B6; (try dsimp only at B6); go_simp; try with_reducible rfl)
   simp only [LY]
   clear hH
   refine U_endN (by kernel_rfl) ?_
   clear B3 B4 B5 B9 Ba Bb
   by_cases q10 : mo * va < nthQ S ax
   ·have C9 : 0 < Cb := by have h := sq_gt (nthQ S ax) (mo * va); rw [← Bg.out] at h; exact h.2 q10
    have C8 := Lib.hid q10
    clear q10
    have Cs : decide (0 < Cb) = true := decide_eq_true C9
    go_wp2
    clear Cw
    go_ret2
    exact ⟨by rw [← HR.out, if_pos C8.out]; rfl, hs⟩
   ·have C9 : ¬ (0 < Cb) := by have h := sq_gt (nthQ S ax) (mo * va); rw [← Bg.out] at h; exact fun h1 => q10 (h.1 h1)
    have C8 := Lib.hid q10
    clear q10
    have Cs : decide (0 < Cb) = false := decide_eq_false C9
    go_wp2
    clear Cw
    go_ret2
    exact ⟨by rw [← HR.out, if_neg C8.out]; rfl, hs⟩
end Go.Proofs.YtlmemilmhdhgbaaGreat
