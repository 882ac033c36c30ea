/-
  allow: Quantile, Outlier; Mean where it fails.
-/
import Derived.Test.YtmnipggjjcmjkaaPkOrdO
import Derived.Test.YtmnipggjjcmjkaaPkQntO
set_option linter.unusedSimpArgs false
set_option linter.unusedVariables false
set_option maxRecDepth 100000
set_option maxHeartbeats 8000000
namespace Go.Proofs.Ytmnipggjjcmjkaa
open Go.RowKit Dg
attribute [local go_sem ↓] Go.wp_at_zero Go.wp_at_succ
theorem al_wholeS (m : Int) (w : World) (h0 : 0 ≤ m) (h1 : m ≤ 4294967295) : Calls Try.prog 53 #[.int .i64 (IntKind.i64.wrap m)] w (RetP w ((m : Int) : Rat)) := by
 rw [IntWalk.i64_in m (by omega)]; exact al_whole m w h0 h1
theorem al_Quantile_ok {v vu : Value} {L : List Rat} {u : Rat} (w : World) (hl : Rows 3 26 PC w v L) (hu : PV w vu u) (su : SzQ 1 u) (g1 : 1 ≤ L.length) (g20 : L.length ≤ 64) (hc : 0 ≤ u ∧ u ≤ 1) (hz : ∀ i, i < L.length → SzQ 1 (nthQ L i)) {q : Rat} (hq : qtQ L u = q) : Calls Try.prog 31 #[v, vu] w (RetPE w q 0) := by
 obtain ⟨aL, kL, rfl, hl1, hl2, -⟩ := hl.toI.slice
 have HL := Lib.hid hl
 clear hl
 obtain ⟨shu, ahu, nhu, chu, Ahu, Nhu, Chu, rfl⟩ := hu.shape
 obtain ⟨S, hS⟩ : ∃ S, srtQ L = S := ⟨_, rfl⟩
 have lS1 : S.length ≤ L.length := by rw [← hS, srtQ_len]; exact Nat.le_refl _
 have lS2 : L.length ≤ S.length := by rw [← hS, srtQ_len]; exact Nat.le_refl _
 have HSZ := Lib.hid (show ∀ i, i < S.length → SzQ 1 (nthQ S i) from fun i hi => hS ▸ srt_sz hz (hS.symm ▸ hi))
 have HZL := Lib.hid (show ∀ i, i < L.length → SzQ 100000 (nthQ L i) from fun i hi => (hz i hi).mono (by omega))
 have HS := Lib.hid hS
 obtain ⟨n, hn⟩ : ∃ n : Rat, ((L.length : Int) : Rat) = n := ⟨_, rfl⟩
 have sn : SzQ 1 n := hn ▸ szQ_int (by omega)
 obtain ⟨N, hN⟩ : ∃ N, L.length = N + 1 := ⟨L.length - 1, by omega⟩
 have lN1 : L.length ≤ N + 1 := Nat.le_of_eq hN
 have lN2 : N + 1 ≤ L.length := Nat.le_of_eq hN.symm
 have hq2 : qtD S (u * n) N = q := by rw [← hq, ← hS, ← hn]; unfold qtQ; rw [show L.length - 1 = N by omega]
 have HN := Lib.hid hn
 have HQ := Lib.hid hq2
 have HC := Lib.hid hc
 clear hS hz hn hN hq2 hq hc
 have hs := Below.refl w.heap.size w
 go_enter Try.func31, Try.ntmps31
 go_wp2_with fail
 refine Calls.abs ?_
 intro w1 hW
 have hG : Gr [] w w1 := by rw [hW]; exact (Gr.refl _ _).alloc.alloc
 have hbw : Below w.heap.size w w1 := hG.below0 hs.size
 have hk : KeepD w w1 := hG.keep True.intro
 have sz_w1 : w.heap.size ≤ w.heap.size := hs.size
 have B0 : Bx w1 (w.heap.size) 26 #[.bool shu, .slice ahu nhu chu, .slice Ahu Nhu Chu] := by rw [hW]; exact ((Bx.new0 _ _ _).alloc _)
 have Blk : Bx w1 (w.heap.size + 1) 26 #[.bool false, .slice none 0 0, .slice none 0 0] := by rw [hW]; exact (Bx.new0 _ _ _)
 replace hs := hs.trans hbw
 replace hu := hu.keep hk
 clear hW hG hk hbw
 have hz_w1 : w.heap.size + 1 < w1.heap.size := Blk.lt
 with_reducible refine (al_cvL_all (e := 0) _ (HL.out.mono PC.kept hs) (if_neg (by omega))).mono ?_
 rintro e w2 ⟨rfl, hb⟩
 replace hs := bStep hs hb
 replace B0 := B0.mono hb
 replace Blk := Blk.mono hb
 replace hu := hu.mono hb
 clear hb
 have B2 : w2.cell? ⟨w.heap.size, 0, none⟩ = some (.bool shu) := B0.at 0 rfl
 have B3 : w2.cell? ⟨w.heap.size, 1, none⟩ = some (.slice ahu nhu chu) := B0.at 1 rfl
 have B4 : w2.cell? ⟨w.heap.size, 2, none⟩ = some (.slice Ahu Nhu Chu) := B0.at 2 rfl
 have Lshare : w.heap.size < w2.heap.size := B0.lt
 go_wp2_with fail
 clear B2 B3 B4 Lshare
 with_reducible refine (al_isChance _ _ _ hu (SzQ.mid su) rfl).mono ?_
 rintro e w3 ⟨rfl, hb⟩
 replace hs := bStep hs hb
 replace B0 := B0.mono hb
 replace Blk := Blk.mono hb
 replace hu := hu.mono hb
 clear hb
 obtain ⟨b1, Hb1⟩ : ∃ b : Bool, b = decide (0 ≤ u ∧ u ≤ 1) := ⟨_, rfl⟩
 rw [← Hb1]
 replace Hb1 := Lib.hid Hb1
 have q2 : 0 ≤ u ∧ u ≤ 1 := HC.out
 obtain rfl : b1 = true := by rw [Hb1.out]; exact decide_eq_true q2
 have q2H := Lib.hid q2
 clear q2
 go_upto_region 6 with fail
 go_cut [7] (fun kv0 wz => ∃ gneed sh4 ah4 nh4 ch4 Ah4 Nh4 Ch4, kv0 = .pointer (some ⟨gneed, 0, none⟩) ∧ w.heap.size ≤ gneed ∧ gneed ≠ w.heap.size ∧ gneed ≠ (w.heap.size + 1) ∧ Bx wz gneed 26 #[.bool sh4, .slice ah4 nh4 ch4, .slice Ah4 Nh4 Ch4] ∧ Below w.heap.size w wz ∧ Bx wz (w.heap.size) 26 #[.bool shu, .slice ahu nhu chu, .slice Ahu Nhu Chu] ∧ Bx wz (w.heap.size + 1) 26 #[.bool false, .slice none 0 0, .slice none 0 0] ∧ PV wz (.agg #[.bool shu, .slice ahu nhu chu, .slice Ahu Nhu Chu]) (u) ∧ PV wz (.agg #[.bool sh4, .slice ah4 nh4 ch4, .slice Ah4 Nh4 Ch4]) (u * n))
 case first =>
  refine U_region (S := fun w' => w'.cell? ⟨w.heap.size, 0, none⟩ = some (.bool shu) ∧ w'.cell? ⟨w.heap.size, 1, none⟩ = some (.slice ahu nhu chu) ∧ w'.cell? ⟨w.heap.size, 2, none⟩ = some (.slice Ahu Nhu Chu)) (by kernel_rfl) 6 ?_
  refine AnyU.abs ?_
  intro w4 hW
  have hb : Below w3.heap.size w3 w4 := by rw [hW]; exact bDrew _
  replace hs := bStep hs hb
  replace B0 := B0.mono hb
  replace Blk := Blk.mono hb
  replace hu := hu.mono hb
  clear hb hW
  have B2 : w4.cell? ⟨w.heap.size, 0, none⟩ = some (.bool shu) := B0.at 0 rfl
  have B3 : w4.cell? ⟨w.heap.size, 1, none⟩ = some (.slice ahu nhu chu) := B0.at 1 rfl
  have B4 : w4.cell? ⟨w.heap.size, 2, none⟩ = some (.slice Ahu Nhu Chu) := B0.at 2 rfl
  have hH := (show w4.cell? ⟨w.heap.size, 0, none⟩ = some (.bool shu) ∧ w4.cell? ⟨w.heap.size, 1, none⟩ = some (.slice ahu nhu chu) ∧ w4.cell? ⟨w.heap.size, 2, none⟩ = some (.slice Ahu Nhu Chu) from ⟨B2, B3, B4⟩)
  refine U_tt 0 ?_ ?_ hH ?_
  rotate_left
  ·(intro w hSw; (try dsimp only at hSw); go_simp; try with_reducible rfl)
  try simp only [LY]
  refine U_tt 1 ?_ ?_ hH ?_
  rotate_left
  ·(intro w hSw; (try dsimp only at hSw); go_simp; try with_reducible rfl)
  try simp only [LY]
  refine U_tt 2 ?_ ?_ hH ?_
  rotate_left
  ·(intro w hSw; (try dsimp only at hSw); go_simp; try with_reducible rfl)
  try simp only [LY]
  refine U_two (i := 3) (j := 5) (by kernel_rfl) rfl rfl (fun K hK => ?_) (fun K hK => ?_)
  ·clear hH
   go_simp
   (with_reducible refine (al_wholeN HN.out _ (by omega)).mono ?_)
   rintro e w5 ⟨_, rfl, h3, hb⟩
   obtain ⟨sh3, ah3, nh3, ch3, Ah3, Nh3, Ch3, rfl⟩ := h3.shape
   replace hs := bStep hs hb
   replace B0 := B0.mono hb
   replace Blk := Blk.mono hb
   replace hu := hu.mono hb
   replace B2 := cellK B2 hb
   replace B3 := cellK B3 hb
   replace B4 := cellK B4 hb
   clear hb
   try go_wp2_with fail
   refine hK.out _ _ ⟨B2, B3, B4⟩ (fun hH => ?_)
   clear hK K
   try simp only [LY]
   refine U_two (i := 4) (j := 5) (by kernel_rfl) rfl rfl (fun K hK => ?_) (fun K hK => ?_)
   ·clear hH
    go_simp
    (with_reducible refine (pMul hu h3 (SzQ.fit su) (SzQ.fit sn)).mono ?_)
    rintro e w6 ⟨_, rfl, h4, hb⟩
    obtain ⟨sh4, ah4, nh4, ch4, Ah4, Nh4, Ch4, rfl⟩ := h4.shape
    replace hs := bStep hs hb
    replace B0 := B0.mono hb
    replace Blk := Blk.mono hb
    replace hu := hu.mono hb
    replace h3 := h3.mono hb
    replace B2 := cellK B2 hb
    replace B3 := cellK B3 hb
    replace B4 := cellK B4 hb
    clear hb
    try go_wp2_with fail
    refine hK.out _ _ ⟨B2, B3, B4⟩ (fun hH => ?_)
    clear hK K
    try simp only [LY]
    clear hH
    refine U_one (i := 5) (by kernel_rfl) rfl (fun K hK => ?_)
    go_simp
    generalize hWn : (w6.alloc (.cells #[.bool false, .slice none 0 0, .slice none 0 0] 26)) = w7
    have hb : Below w6.heap.size w6 w7 := by rw [← hWn]; exact (Below.refl _ _).alloc (Nat.le_refl _) _
    have B1 : Bx w7 (w6.heap.size) 26 #[.bool false, .slice none 0 0, .slice none 0 0] := by rw [← hWn]; exact Bx.new _ _ _
    have nshare_need : w.heap.size ≠ w6.heap.size := by have := B0.lt; omega
    have nk_need : w.heap.size + 1 ≠ w6.heap.size := by have := Blk.lt; omega
    have sz_need : w.heap.size ≤ w6.heap.size := hs.size
    replace hs := bStep hs hb
    replace B0 := B0.mono hb
    replace Blk := Blk.mono hb
    replace hu := hu.mono hb
    replace h3 := h3.mono hb
    replace h4 := h4.mono hb
    replace B2 := cellK B2 hb
    replace B3 := cellK B3 hb
    replace B4 := cellK B4 hb
    clear hb hWn
    refine hK.out _ _ ⟨B2, B3, B4⟩ (fun hH => ?_)
    clear hK K
    try simp only [LY]
    clear hH
    have B8 : w7.cell? ⟨w6.heap.size, 0, none⟩ = some (.bool false) := B1.at 0 rfl
    have B9 : w7.cell? ⟨w6.heap.size, 1, none⟩ = some (.slice none 0 0) := B1.at 1 rfl
    have Ba : w7.cell? ⟨w6.heap.size, 2, none⟩ = some (.slice none 0 0) := B1.at 2 rfl
    have fneed := B1.free
    have Lneed : w6.heap.size < w7.heap.size := B1.lt
    refine U_last (by kernel_rfl) rfl (by kernel_rfl) (fun K hK => ?_)
    go_simp
    refine hK.out _ _ ?_
    clear hK K
    intro w8 hW
    have hG : Gr [w6.heap.size] w7 w8 := by rw [hW]; exact (Gr.refl _ _).set.set.set
    have hsz := hs.size
    have lneed := B1.lt
    have hbw : Below w.heap.size w7 w8 := hG.below1 hs.size (by first | omega | assumption)
    have hk : KeepD w7 w8 := hG.keep ⟨⟨_, B1.ty, by decide⟩, True.intro⟩
    have Bl1need : Bx w8 (w6.heap.size) 26 #[.bool sh4, .slice ah4 nh4 ch4, .slice Ah4 Nh4 Ch4] := by rw [hW]; exact B1.set3
    replace hs := hs.trans hbw
    replace B0 := hG.bx B0 (notMem1 (by omega))
    replace Blk := hG.bx Blk (notMem1 (by omega))
    replace B1 := Bl1need
    clear Bl1need
    replace hu := hu.keep hk
    replace h3 := h3.keep hk
    replace h4 := h4.keep hk
    clear hW hG hk hbw hsz lneed
    try simp only [LY]
    clear B2 B3 B4
    go_wp2_with fail
    go_meet
    exact ⟨w6.heap.size, _, _, _, _, _, _, _, rfl, (by first | exact sz_need | omega), (by omega), (by omega), B1, hs, B0, Blk, hu, h4⟩
   ·clear hH
    go_simp
    generalize hWn : (w5.alloc (.cells #[.bool false, .slice none 0 0, .slice none 0 0] 26)) = w6
    have hb : Below w5.heap.size w5 w6 := by rw [← hWn]; exact (Below.refl _ _).alloc (Nat.le_refl _) _
    have B1 : Bx w6 (w5.heap.size) 26 #[.bool false, .slice none 0 0, .slice none 0 0] := by rw [← hWn]; exact Bx.new _ _ _
    have nshare_need : w.heap.size ≠ w5.heap.size := by have := B0.lt; omega
    have nk_need : w.heap.size + 1 ≠ w5.heap.size := by have := Blk.lt; omega
    have sz_need : w.heap.size ≤ w5.heap.size := hs.size
    replace hs := bStep hs hb
    replace B0 := B0.mono hb
    replace Blk := Blk.mono hb
    replace hu := hu.mono hb
    replace h3 := h3.mono hb
    replace B2 := cellK B2 hb
    replace B3 := cellK B3 hb
    replace B4 := cellK B4 hb
    clear hb hWn
    refine hK.out _ _ ⟨B2, B3, B4⟩ (fun hH => ?_)
    clear hK K
    try simp only [LY]
    clear hH
    refine U_one (i := 4) (by kernel_rfl) rfl (fun K hK => ?_)
    go_simp
    (with_reducible refine (pMul hu h3 (SzQ.fit su) (SzQ.fit sn)).mono ?_)
    rintro e w7 ⟨_, rfl, h4, hb⟩
    obtain ⟨sh4, ah4, nh4, ch4, Ah4, Nh4, Ch4, rfl⟩ := h4.shape
    replace hs := bStep hs hb
    replace B0 := B0.mono hb
    replace Blk := Blk.mono hb
    replace B1 := B1.mono hb
    replace hu := hu.mono hb
    replace h3 := h3.mono hb
    replace B2 := cellK B2 hb
    replace B3 := cellK B3 hb
    replace B4 := cellK B4 hb
    clear hb
    try go_wp2_with fail
    refine hK.out _ _ ⟨B2, B3, B4⟩ (fun hH => ?_)
    clear hK K
    try simp only [LY]
    clear hH
    have B8 : w7.cell? ⟨w5.heap.size, 0, none⟩ = some (.bool false) := B1.at 0 rfl
    have B9 : w7.cell? ⟨w5.heap.size, 1, none⟩ = some (.slice none 0 0) := B1.at 1 rfl
    have Ba : w7.cell? ⟨w5.heap.size, 2, none⟩ = some (.slice none 0 0) := B1.at 2 rfl
    have fneed := B1.free
    have Lneed : w5.heap.size < w7.heap.size := B1.lt
    refine U_last (by kernel_rfl) rfl (by kernel_rfl) (fun K hK => ?_)
    go_simp
    refine hK.out _ _ ?_
    clear hK K
    intro w8 hW
    have hG : Gr [w5.heap.size] w7 w8 := by rw [hW]; exact (Gr.refl _ _).set.set.set
    have hsz := hs.size
    have lneed := B1.lt
    have hbw : Below w.heap.size w7 w8 := hG.below1 hs.size (by first | omega | assumption)
    have hk : KeepD w7 w8 := hG.keep ⟨⟨_, B1.ty, by decide⟩, True.intro⟩
    have Bl1need : Bx w8 (w5.heap.size) 26 #[.bool sh4, .slice ah4 nh4 ch4, .slice Ah4 Nh4 Ch4] := by rw [hW]; exact B1.set3
    replace hs := hs.trans hbw
    replace B0 := hG.bx B0 (notMem1 (by omega))
    replace Blk := hG.bx Blk (notMem1 (by omega))
    replace B1 := Bl1need
    clear Bl1need
    replace hu := hu.keep hk
    replace h3 := h3.keep hk
    replace h4 := h4.keep hk
    clear hW hG hk hbw hsz lneed
    try simp only [LY]
    clear B2 B3 B4
    go_wp2_with fail
    go_meet
    exact ⟨w5.heap.size, _, _, _, _, _, _, _, rfl, (by first | exact sz_need | omega), (by omega), (by omega), B1, hs, B0, Blk, hu, h4⟩
  ·clear hH
   go_simp
   generalize hWn : (w4.alloc (.cells #[.bool false, .slice none 0 0, .slice none 0 0] 26)) = w5
   have hb : Below w4.heap.size w4 w5 := by rw [← hWn]; exact (Below.refl _ _).alloc (Nat.le_refl _) _
   have B1 : Bx w5 (w4.heap.size) 26 #[.bool false, .slice none 0 0, .slice none 0 0] := by rw [← hWn]; exact Bx.new _ _ _
   have nshare_need : w.heap.size ≠ w4.heap.size := by have := B0.lt; omega
   have nk_need : w.heap.size + 1 ≠ w4.heap.size := by have := Blk.lt; omega
   have sz_need : w.heap.size ≤ w4.heap.size := hs.size
   replace hs := bStep hs hb
   replace B0 := B0.mono hb
   replace Blk := Blk.mono hb
   replace hu := hu.mono hb
   replace B2 := cellK B2 hb
   replace B3 := cellK B3 hb
   replace B4 := cellK B4 hb
   clear hb hWn
   refine hK.out _ _ ⟨B2, B3, B4⟩ (fun hH => ?_)
   clear hK K
   try simp only [LY]
   clear hH
   refine U_one (i := 3) (by kernel_rfl) rfl (fun K hK => ?_)
   go_simp
   (with_reducible refine (al_wholeN HN.out _ (by omega)).mono ?_)
   rintro e w6 ⟨_, rfl, h3, hb⟩
   obtain ⟨sh3, ah3, nh3, ch3, Ah3, Nh3, Ch3, rfl⟩ := h3.shape
   replace hs := bStep hs hb
   replace B0 := B0.mono hb
   replace Blk := Blk.mono hb
   replace B1 := B1.mono hb
   replace hu := hu.mono hb
   replace B2 := cellK B2 hb
   replace B3 := cellK B3 hb
   replace B4 := cellK B4 hb
   clear hb
   try go_wp2_with fail
   refine hK.out _ _ ⟨B2, B3, B4⟩ (fun hH => ?_)
   clear hK K
   try simp only [LY]
   clear hH
   refine U_one (i := 4) (by kernel_rfl) rfl (fun K hK => ?_)
   go_simp
   (with_reducible refine (pMul hu h3 (SzQ.fit su) (SzQ.fit sn)).mono ?_)
   rintro e w7 ⟨_, rfl, h4, hb⟩
   obtain ⟨sh4, ah4, nh4, ch4, Ah4, Nh4, Ch4, rfl⟩ := h4.shape
   replace hs := bStep hs hb
   replace B0 := B0.mono hb
   replace Blk := Blk.mono hb
   replace B1 := B1.mono hb
   replace hu := hu.mono hb
   replace h3 := h3.mono hb
   replace B2 := cellK B2 hb
   replace B3 := cellK B3 hb
   replace B4 := cellK B4 hb
   clear hb
   try go_wp2_with fail
   refine hK.out _ _ ⟨B2, B3, B4⟩ (fun hH => ?_)
   clear hK K
   try simp only [LY]
   clear hH
   have B8 : w7.cell? ⟨w4.heap.size, 0, none⟩ = some (.bool false) := B1.at 0 rfl
   have B9 : w7.cell? ⟨w4.heap.size, 1, none⟩ = some (.slice none 0 0) := B1.at 1 rfl
   have Ba : w7.cell? ⟨w4.heap.size, 2, none⟩ = some (.slice none 0 0) := B1.at 2 rfl
   have fneed := B1.free
   have Lneed : w4.heap.size < w7.heap.size := B1.lt
   refine U_last (by kernel_rfl) rfl (by kernel_rfl) (fun K hK => ?_)
   go_simp
   refine hK.out _ _ ?_
   clear hK K
   intro w8 hW
   have hG : Gr [w4.heap.size] w7 w8 := by rw [hW]; exact (Gr.refl _ _).set.set.set
   have hsz := hs.size
   have lneed := B1.lt
   have hbw : Below w.heap.size w7 w8 := hG.below1 hs.size (by first | omega | assumption)
   have hk : KeepD w7 w8 := hG.keep ⟨⟨_, B1.ty, by decide⟩, True.intro⟩
   have Bl1need : Bx w8 (w4.heap.size) 26 #[.bool sh4, .slice ah4 nh4 ch4, .slice Ah4 Nh4 Ch4] := by rw [hW]; exact B1.set3
   replace hs := hs.trans hbw
   replace B0 := hG.bx B0 (notMem1 (by omega))
   replace Blk := hG.bx Blk (notMem1 (by omega))
   replace B1 := Bl1need
   clear Bl1need
   replace hu := hu.keep hk
   replace h3 := h3.keep hk
   replace h4 := h4.keep hk
   clear hW hG hk hbw hsz lneed
   try simp only [LY]
   clear B2 B3 B4
   go_wp2_with fail
   go_meet
   exact ⟨w4.heap.size, _, _, _, _, _, _, _, rfl, (by first | exact sz_need | omega), (by omega), (by omega), B1, hs, B0, Blk, hu, h4⟩
 case rest =>
  clear hs B0 Blk hu
  obtain ⟨gneed, sh4, ah4, nh4, ch4, Ah4, Nh4, Ch4, rfl, hg_need, ng_need_share, ng_need_k, B1, hs, B0, Blk, hu, h4⟩ := hcut
  go_wp2_with fail
  with_reducible refine (al_sorted _ (HL.out.mono PC.kept hs) g1 (by omega) HZL.out).mono ?_
  rintro e w4 ⟨_, rfl, hS5, hb⟩
  rw [HS.out] at hS5
  obtain ⟨bhS5, ohS5, khS5, rfl, hS51, hS52, -⟩ := hS5.open_ (by omega)
  replace hs := bStep hs hb
  replace B0 := B0.mono hb
  replace Blk := Blk.mono hb
  replace B1 := B1.mono hb
  replace hu := hu.mono hb
  replace h4 := h4.mono hb
  clear hb
  go_wp2
  go_loopw [9] (fun s9 wq => ∃ k : Nat, k ≤ N ∧ s9 = .int .i64 k ∧ Below w.heap.size w wq ∧ Bx wq (w.heap.size) 26 #[.bool shu, .slice ahu nhu chu, .slice Ahu Nhu Chu] ∧ Bx wq (w.heap.size + 1) 26 #[.bool false, .slice none 0 0, .slice none 0 0] ∧ Bx wq (gneed) 26 #[.bool sh4, .slice ah4 nh4 ch4, .slice Ah4 Nh4 Ch4] ∧ PV wq (.agg #[.bool shu, .slice ahu nhu chu, .slice Ahu Nhu Chu]) (u) ∧ PV wq (.agg #[.bool sh4, .slice ah4 nh4 ch4, .slice Ah4 Nh4 Ch4]) (u * n) ∧ Rows 3 26 PC wq (.slice (some ⟨bhS5, ohS5, none⟩) S.length khS5) S ∧ (qtD S (u * n) N = qtD S (u * n) k)) (fun s9 _ => (intOf s9).toNat)
  case atStart => exact ⟨N, Nat.le_refl _, (congrArg _ (by omega)), hs, B0, Blk, B1, hu, h4, hS5, rfl⟩
  case round =>
   clear B0 Blk B1 hu h4 hS5 hs
   obtain ⟨k, k_le, rfl, hs, B0, Blk, B1, hu, h4, hS5, HI⟩ := hrel
   replace HI := Lib.hid HI
   by_cases q6 : 0 < k
   ·have q6d : ((0 : Int) < (k : Int)) = True := eq_true (by omega)
    go_upto_region 11 with fail
    have SW7a := IntWalk.i64_in ((k : Int) - 1) (by omega)
    have SW7b : (0 : Int) ≤ (k : Int) - 1 := by omega
    have SW7c : ((k : Int) - 1).toNat = (k - 1) := by omega
    have SW7d : (k : Int) - 1 < (S.length : Int) := by omega
    have SW7e : (1 : Int) ≤ (k : Int) := by omega
    have SW7f : (k : Int) < (S.length : Int) + 1 := by omega
    have BI8a : (k - 1) < S.length := by omega
    have BI8b : ((k : Int) - 1 : Int) < (S.length : Int) := by omega
    obtain ⟨ge9a, ae9a, ne9a, ce9a, Ae9a, Ne9a, De9a, Bb, Bc, Bd, he9a, le9⟩ := rowP_at hS5 (show (k - 1) < S.length by omega)
    have BI10a : k < S.length := by omega
    have BI10b : ((k : Int) : Int) < (S.length : Int) := by omega
    obtain ⟨ge11a, ae11a, ne11a, ce11a, Ae11a, Ne11a, De11a, B5, B6, B7, he11a, le11⟩ := rowP_at hS5 (show k < S.length by omega)
    obtain ⟨b12, Hb12⟩ : ∃ b : Bool, b = decide (nthQ S (k - 1) = nthQ S k) := ⟨_, rfl⟩
    replace Hb12 := Lib.hid Hb12
    by_cases q13 : nthQ S (k - 1) = nthQ S k
    ·obtain rfl : b12 = true := by rw [Hb12.out]; exact decide_eq_true q13
     have q13H := Lib.hid q13
     clear q13
     refine U_region (S := fun w' => w'.cell? ⟨bhS5, ohS5 + (k - 1) * 3, none⟩ = some (.bool ge9a) ∧ w'.cell? ⟨bhS5, ohS5 + (k - 1) * 3 + 1, none⟩ = some (.slice ae9a ne9a ce9a) ∧ w'.cell? ⟨bhS5, ohS5 + (k - 1) * 3 + 2, none⟩ = some (.slice Ae9a Ne9a De9a) ∧ w'.cell? ⟨bhS5, ohS5 + k * 3, none⟩ = some (.bool ge11a) ∧ w'.cell? ⟨bhS5, ohS5 + k * 3 + 1, none⟩ = some (.slice ae11a ne11a ce11a) ∧ w'.cell? ⟨bhS5, ohS5 + k * 3 + 2, none⟩ = some (.slice Ae11a Ne11a De11a)) (by kernel_rfl) 21 ?_
     refine AnyU.abs ?_
     intro w25 hW
     have hb : Below wr.heap.size wr w25 := by rw [hW]; exact bDrew _
     replace hs := bStep hs hb
     replace B0 := B0.mono hb
     replace Blk := Blk.mono hb
     replace B1 := B1.mono hb
     replace hu := hu.mono hb
     replace h4 := h4.mono hb
     replace he9a := he9a.mono hb
     replace he11a := he11a.mono hb
     replace hS5 := rowsJ PC.kept _ _ _ hS5 hb
     replace Bb := cellK Bb hb
     replace Bc := cellK Bc hb
     replace Bd := cellK Bd hb
     replace B5 := cellK B5 hb
     replace B6 := cellK B6 hb
     replace B7 := cellK B7 hb
     clear hb hW
     have hH := (show w25.cell? ⟨bhS5, ohS5 + (k - 1) * 3, none⟩ = some (.bool ge9a) ∧ w25.cell? ⟨bhS5, ohS5 + (k - 1) * 3 + 1, none⟩ = some (.slice ae9a ne9a ce9a) ∧ w25.cell? ⟨bhS5, ohS5 + (k - 1) * 3 + 2, none⟩ = some (.slice Ae9a Ne9a De9a) ∧ w25.cell? ⟨bhS5, ohS5 + k * 3, none⟩ = some (.bool ge11a) ∧ w25.cell? ⟨bhS5, ohS5 + k * 3 + 1, none⟩ = some (.slice ae11a ne11a ce11a) ∧ w25.cell? ⟨bhS5, ohS5 + k * 3 + 2, none⟩ = some (.slice Ae11a Ne11a De11a) from ⟨Bb, Bc, Bd, B5, B6, B7⟩)
     refine U_tk 0 34 ?_ ?_ hH ?_
     rotate_left
     ·(intro w hSw; (try dsimp only at hSw); go_simp; try with_reducible rfl)
     simp only [LY]
     refine U_tk 1 35 ?_ ?_ hH ?_
     rotate_left
     ·(intro w hSw; (try dsimp only at hSw); go_simp; try with_reducible rfl)
     simp only [LY]
     refine U_tk 2 36 ?_ ?_ hH ?_
     rotate_left
     ·(intro w hSw; (try dsimp only at hSw); go_simp; try with_reducible rfl)
     simp only [LY]
     refine U_tk 3 37 ?_ ?_ hH ?_
     rotate_left
     ·(intro w hSw; (try dsimp only at hSw); go_simp; try with_reducible rfl)
     simp only [LY]
     refine U_tk 4 38 ?_ ?_ hH ?_
     rotate_left
     ·(intro w hSw; (try dsimp only at hSw); go_simp; try with_reducible rfl)
     simp only [LY]
     refine U_tk 5 39 ?_ ?_ hH ?_
     rotate_left
     ·(intro w hSw; (try dsimp only at hSw); go_simp; try with_reducible rfl)
     simp only [LY]
     refine U_tk 6 40 ?_ ?_ hH ?_
     rotate_left
     ·(intro w hSw; (try dsimp only at hSw); go_simp; try with_reducible rfl)
     simp only [LY]
     refine U_tk 7 41 ?_ ?_ hH ?_
     rotate_left
     ·(intro w hSw; (try dsimp only at hSw); go_simp; try with_reducible rfl)
     simp only [LY]
     refine U_tk 8 42 ?_ ?_ hH ?_
     rotate_left
     ·(intro w hSw; (try dsimp only at hSw); go_simp; try with_reducible rfl)
     simp only [LY]
     clear hH
     refine U_one (i := 9) (by kernel_rfl) rfl (fun K hK => ?_)
     go_simp
     (with_reducible refine (p_Same_calls _ _ _ _ _ he9a he11a).mono ?_)
     rintro e w26 ⟨rfl, hb⟩
     replace hs := bStep hs hb
     replace B0 := B0.mono hb
     replace Blk := Blk.mono hb
     replace B1 := B1.mono hb
     replace hu := hu.mono hb
     replace h4 := h4.mono hb
     replace he9a := he9a.mono hb
     replace he11a := he11a.mono hb
     replace hS5 := rowsJ PC.kept _ _ _ hS5 hb
     replace Bb := cellK Bb hb
     replace Bc := cellK Bc hb
     replace Bd := cellK Bd hb
     replace B5 := cellK B5 hb
     replace B6 := cellK B6 hb
     replace B7 := cellK B7 hb
     clear hb
     rw [← Hb12.out]
     try go_wp2_with fail
     refine hK.out _ _ ⟨Bb, Bc, Bd, B5, B6, B7⟩ (fun hH => ?_)
     clear hK K
     try simp only [LY]
     refine U_tk 10 44 ?_ ?_ hH ?_
     rotate_left
     ·(intro w hSw; (try dsimp only at hSw); go_simp; try with_reducible rfl)
     simp only [LY]
     refine U_tk 11 45 ?_ ?_ hH ?_
     rotate_left
     ·(intro w hSw; (try dsimp only at hSw); go_simp; try with_reducible rfl)
     simp only [LY]
     refine U_tu 12 46 hH ?_
     simp only [LY]
     refine U_tu 13 47 hH ?_
     simp only [LY]
     refine U_tu 14 48 hH ?_
     simp only [LY]
     refine U_tu 15 49 hH ?_
     simp only [LY]
     refine U_tu 17 51 hH ?_
     simp only [LY]
     clear hH
     refine U_one (i := 16) (by kernel_rfl) rfl (fun K hK => ?_)
     go_simp
     refine hK.out _ _ ⟨Bb, Bc, Bd, B5, B6, B7⟩ (fun hH => ?_)
     clear hK K
     try simp only [LY]
     clear hH
     refine U_one (i := 18) (by kernel_rfl) rfl (fun K hK => ?_)
     go_simp
     refine hK.out _ _ ⟨Bb, Bc, Bd, B5, B6, B7⟩ (fun hH => ?_)
     clear hK K
     try simp only [LY]
     refine U_tu 19 53 hH ?_
     simp only [LY]
     refine U_tk 20 54 ?_ ?_ hH ?_
     rotate_left
     ·(intro w hSw; (try dsimp only at hSw); go_simp; try with_reducible rfl)
     simp only [LY]
     clear hH
     refine U_endN (by kernel_rfl) ?_
     clear Bb Bc Bd B5 B6 B7
     go_wp2
     go_roundw
     case rel => exact ⟨k - 1, by omega, congrArg _ (by omega), hs, B0, Blk, B1, hu, h4, hS5, (HI.out.trans (qtD_same (by omega) q13H.out))⟩
     all_goals first | (simp [intOf]; done) | (simp [intOf]; omega)
    ·obtain rfl : b12 = false := by rw [Hb12.out]; exact decide_eq_false q13
     have q13H := Lib.hid q13
     clear q13
     obtain ⟨sg15, Hsg15⟩ : ∃ s : Int, s = sgQ (((((S.length : Int) - (k : Int) : Int) : Rat)) - (u * n)) := ⟨_, rfl⟩
     replace Hsg15 := Lib.hid Hsg15
     refine U_region (S := fun w' => w'.cell? ⟨gneed, 0, none⟩ = some (.bool sh4) ∧ w'.cell? ⟨gneed, 1, none⟩ = some (.slice ah4 nh4 ch4) ∧ w'.cell? ⟨gneed, 2, none⟩ = some (.slice Ah4 Nh4 Ch4) ∧ w'.cell? ⟨bhS5, ohS5 + (k - 1) * 3, none⟩ = some (.bool ge9a) ∧ w'.cell? ⟨bhS5, ohS5 + (k - 1) * 3 + 1, none⟩ = some (.slice ae9a ne9a ce9a) ∧ w'.cell? ⟨bhS5, ohS5 + (k - 1) * 3 + 2, none⟩ = some (.slice Ae9a Ne9a De9a) ∧ w'.cell? ⟨bhS5, ohS5 + k * 3, none⟩ = some (.bool ge11a) ∧ w'.cell? ⟨bhS5, ohS5 + k * 3 + 1, none⟩ = some (.slice ae11a ne11a ce11a) ∧ w'.cell? ⟨bhS5, ohS5 + k * 3 + 2, none⟩ = some (.slice Ae11a Ne11a De11a)) (by kernel_rfl) 21 ?_
     refine AnyU.abs ?_
     intro w25 hW
     have hb : Below wr.heap.size wr w25 := by rw [hW]; exact bDrew _
     replace hs := bStep hs hb
     replace B0 := B0.mono hb
     replace Blk := Blk.mono hb
     replace B1 := B1.mono hb
     replace hu := hu.mono hb
     replace h4 := h4.mono hb
     replace he9a := he9a.mono hb
     replace he11a := he11a.mono hb
     replace hS5 := rowsJ PC.kept _ _ _ hS5 hb
     replace Bb := cellK Bb hb
     replace Bc := cellK Bc hb
     replace Bd := cellK Bd hb
     replace B5 := cellK B5 hb
     replace B6 := cellK B6 hb
     replace B7 := cellK B7 hb
     clear hb hW
     have B8 : w25.cell? ⟨gneed, 0, none⟩ = some (.bool sh4) := B1.at 0 rfl
     have B9 : w25.cell? ⟨gneed, 1, none⟩ = some (.slice ah4 nh4 ch4) := B1.at 1 rfl
     have Ba : w25.cell? ⟨gneed, 2, none⟩ = some (.slice Ah4 Nh4 Ch4) := B1.at 2 rfl
     have hH := (show w25.cell? ⟨gneed, 0, none⟩ = some (.bool sh4) ∧ w25.cell? ⟨gneed, 1, none⟩ = some (.slice ah4 nh4 ch4) ∧ w25.cell? ⟨gneed, 2, none⟩ = some (.slice Ah4 Nh4 Ch4) ∧ w25.cell? ⟨bhS5, ohS5 + (k - 1) * 3, none⟩ = some (.bool ge9a) ∧ w25.cell? ⟨bhS5, ohS5 + (k - 1) * 3 + 1, none⟩ = some (.slice ae9a ne9a ce9a) ∧ w25.cell? ⟨bhS5, ohS5 + (k - 1) * 3 + 2, none⟩ = some (.slice Ae9a Ne9a De9a) ∧ w25.cell? ⟨bhS5, ohS5 + k * 3, none⟩ = some (.bool ge11a) ∧ w25.cell? ⟨bhS5, ohS5 + k * 3 + 1, none⟩ = some (.slice ae11a ne11a ce11a) ∧ w25.cell? ⟨bhS5, ohS5 + k * 3 + 2, none⟩ = some (.slice Ae11a Ne11a De11a) from ⟨B8, B9, Ba, Bb, Bc, Bd, B5, B6, B7⟩)
     refine U_tk 0 34 ?_ ?_ hH ?_
     rotate_left
     ·(intro w hSw; (try dsimp only at hSw); go_simp; try with_reducible rfl)
     simp only [LY]
     refine U_tk 1 35 ?_ ?_ hH ?_
     rotate_left
     ·(intro w hSw; (try dsimp only at hSw); go_simp; try with_reducible rfl)
     simp only [LY]
     refine U_tk 2 36 ?_ ?_ hH ?_
     rotate_left
     ·(intro w hSw; (try dsimp only at hSw); go_simp; try with_reducible rfl)
     simp only [LY]
     refine U_tk 3 37 ?_ ?_ hH ?_
     rotate_left
     ·(intro w hSw; (try dsimp only at hSw); go_simp; try with_reducible rfl)
     simp only [LY]
     refine U_tk 4 38 ?_ ?_ hH ?_
     rotate_left
     ·(intro w hSw; (try dsimp only at hSw); go_simp; try with_reducible rfl)
     simp only [LY]
     refine U_tk 5 39 ?_ ?_ hH ?_
     rotate_left
     ·(intro w hSw; (try dsimp only at hSw); go_simp; try with_reducible rfl)
     simp only [LY]
     refine U_tk 6 40 ?_ ?_ hH ?_
     rotate_left
     ·(intro w hSw; (try dsimp only at hSw); go_simp; try with_reducible rfl)
     simp only [LY]
     refine U_tk 7 41 ?_ ?_ hH ?_
     rotate_left
     ·(intro w hSw; (try dsimp only at hSw); go_simp; try with_reducible rfl)
     simp only [LY]
     refine U_tk 8 42 ?_ ?_ hH ?_
     rotate_left
     ·(intro w hSw; (try dsimp only at hSw); go_simp; try with_reducible rfl)
     simp only [LY]
     clear hH
     refine U_one (i := 9) (by kernel_rfl) rfl (fun K hK => ?_)
     go_simp
     (with_reducible refine (p_Same_calls _ _ _ _ _ he9a he11a).mono ?_)
     rintro e w26 ⟨rfl, hb⟩
     replace hs := bStep hs hb
     replace B0 := B0.mono hb
     replace Blk := Blk.mono hb
     replace B1 := B1.mono hb
     replace hu := hu.mono hb
     replace h4 := h4.mono hb
     replace he9a := he9a.mono hb
     replace he11a := he11a.mono hb
     replace hS5 := rowsJ PC.kept _ _ _ hS5 hb
     replace B8 := cellK B8 hb
     replace B9 := cellK B9 hb
     replace Ba := cellK Ba hb
     replace Bb := cellK Bb hb
     replace Bc := cellK Bc hb
     replace Bd := cellK Bd hb
     replace B5 := cellK B5 hb
     replace B6 := cellK B6 hb
     replace B7 := cellK B7 hb
     clear hb
     rw [← Hb12.out]
     try go_wp2_with fail
     refine hK.out _ _ ⟨B8, B9, Ba, Bb, Bc, Bd, B5, B6, B7⟩ (fun hH => ?_)
     clear hK K
     try simp only [LY]
     refine U_tk 10 44 ?_ ?_ hH ?_
     rotate_left
     ·(intro w hSw; (try dsimp only at hSw); go_simp; try with_reducible rfl)
     simp only [LY]
     refine U_tk 11 45 ?_ ?_ hH ?_
     rotate_left
     ·(intro w hSw; (try dsimp only at hSw); go_simp; try with_reducible rfl)
     simp only [LY]
     refine U_tk 12 46 ?_ ?_ hH ?_
     rotate_left
     ·(intro w hSw; (try dsimp only at hSw); go_simp; try with_reducible rfl)
     simp only [LY]
     refine U_tk 13 47 ?_ ?_ hH ?_
     rotate_left
     ·(intro w hSw; (try dsimp only at hSw); go_simp; try with_reducible rfl)
     simp only [LY]
     refine U_tk 14 48 ?_ ?_ hH ?_
     rotate_left
     ·(intro w hSw; (try dsimp only at hSw); go_simp; try with_reducible rfl)
     simp only [LY]
     refine U_tk 15 49 ?_ ?_ hH ?_
     rotate_left
     ·(intro w hSw; (try dsimp only at hSw); go_simp; try with_reducible rfl)
     simp only [LY]
     refine U_tk 17 51 ?_ ?_ hH ?_
     rotate_left
     ·(intro w hSw; (try dsimp only at hSw); go_simp; try with_reducible rfl)
     simp only [LY]
     clear hH
     refine U_one (i := 16) (by kernel_rfl) rfl (fun K hK => ?_)
     go_simp
     (with_reducible refine (al_wholeS ((S.length : Int) - (k : Int)) _ (by omega) (by omega)).mono ?_)
     rintro e w27 ⟨_, rfl, h14, hb⟩
     obtain ⟨sh14, ah14, nh14, ch14, Ah14, Nh14, Ch14, rfl⟩ := h14.shape
     replace hs := bStep hs hb
     replace B0 := B0.mono hb
     replace Blk := Blk.mono hb
     replace B1 := B1.mono hb
     replace hu := hu.mono hb
     replace h4 := h4.mono hb
     replace he9a := he9a.mono hb
     replace he11a := he11a.mono hb
     replace hS5 := rowsJ PC.kept _ _ _ hS5 hb
     replace B8 := cellK B8 hb
     replace B9 := cellK B9 hb
     replace Ba := cellK Ba hb
     replace Bb := cellK Bb hb
     replace Bc := cellK Bc hb
     replace Bd := cellK Bd hb
     replace B5 := cellK B5 hb
     replace B6 := cellK B6 hb
     replace B7 := cellK B7 hb
     clear hb
     try go_wp2_with fail
     refine hK.out _ _ ⟨B8, B9, Ba, Bb, Bc, Bd, B5, B6, B7⟩ (fun hH => ?_)
     clear hK K
     try simp only [LY]
     clear hH
     refine U_one (i := 18) (by kernel_rfl) rfl (fun K hK => ?_)
     go_simp
     (with_reducible refine (pCmp h14 h4 (SzQ.fit (szQ_int (by omega))) (SzQ.fit (SzQ.mul su sn))).mono ?_)
     rintro e w28 ⟨rfl, hb⟩
     replace hs := bStep hs hb
     replace B0 := B0.mono hb
     replace Blk := Blk.mono hb
     replace B1 := B1.mono hb
     replace hu := hu.mono hb
     replace h4 := h4.mono hb
     replace he9a := he9a.mono hb
     replace he11a := he11a.mono hb
     replace h14 := h14.mono hb
     replace hS5 := rowsJ PC.kept _ _ _ hS5 hb
     replace B8 := cellK B8 hb
     replace B9 := cellK B9 hb
     replace Ba := cellK Ba hb
     replace Bb := cellK Bb hb
     replace Bc := cellK Bc hb
     replace Bd := cellK Bd hb
     replace B5 := cellK B5 hb
     replace B6 := cellK B6 hb
     replace B7 := cellK B7 hb
     clear hb
     rw [← Hsg15.out]
     try go_wp2_with fail
     refine hK.out _ _ ⟨B8, B9, Ba, Bb, Bc, Bd, B5, B6, B7⟩ (fun hH => ?_)
     clear hK K
     try simp only [LY]
     refine U_tk 19 53 ?_ ?_ hH ?_
     rotate_left
     ·(intro w hSw; (try dsimp only at hSw); go_simp; try with_reducible rfl)
     simp only [LY]
     refine U_tk 20 54 ?_ ?_ hH ?_
     rotate_left
     ·(intro w hSw; (try dsimp only at hSw); go_simp; try with_reducible rfl)
     simp only [LY]
     clear hH
     refine U_endN (by kernel_rfl) ?_
     clear B8 B9 Ba Bb Bc Bd B5 B6 B7
     by_cases q16 : u * n ≤ (((S.length : Int) - (k : Int) : Int) : Rat)
     ·have q16_ : 0 ≤ sg15 := by have h := sq_ge ((((S.length : Int) - (k : Int) : Int) : Rat)) (u * n); rw [← Hsg15.out] at h; exact h.2 q16
      have q16H := Lib.hid q16
      clear q16
      have q16d : decide (0 ≤ sg15) = true := decide_eq_true q16_
      obtain ⟨ge17a, ae17a, ne17a, ce17a, Ae17a, Ne17a, De17a, Bk, Bl, Bm, he17a, le17⟩ := rowP_at hS5 (show k < S.length by omega)
      have Be : w28.cell? ⟨w.heap.size + 1, 0, none⟩ = some (.bool false) := Blk.at 0 rfl
      have Bf : w28.cell? ⟨w.heap.size + 1, 1, none⟩ = some (.slice none 0 0) := Blk.at 1 rfl
      have Bg : w28.cell? ⟨w.heap.size + 1, 2, none⟩ = some (.slice none 0 0) := Blk.at 2 rfl
      have fk := Blk.free
      have Lk : w.heap.size + 1 < w28.heap.size := Blk.lt
      go_wp2
      clear Be Bf Bg fk Lk le9 le11 le17 Bk Bl Bm
      clear hS5
      refine bodyPost.abs ?_
      intro w29 hW
      have hG : Gr [w.heap.size + 1] w28 w29 := by rw [hW]; exact (Gr.refl _ _).set.set.set
      have hsz := hs.size
      have lk := Blk.lt
      have hbw : Below w.heap.size w28 w29 := hG.below1 hs.size (by first | omega | assumption)
      have hk : KeepD w28 w29 := hG.keep ⟨⟨_, Blk.ty, by decide⟩, True.intro⟩
      have Bl1k : Bx w29 (w.heap.size + 1) 26 #[.bool ge17a, .slice ae17a ne17a ce17a, .slice Ae17a Ne17a De17a] := by rw [hW]; exact Blk.set3
      replace hs := hs.trans hbw
      replace B0 := hG.bx B0 (notMem1 (by omega))
      replace B1 := hG.bx B1 (notMem1 (by omega))
      replace Blk := Bl1k
      clear Bl1k
      replace hu := hu.keep hk
      replace h4 := h4.keep hk
      replace he9a := he9a.keep hk
      replace he11a := he11a.keep hk
      replace h14 := h14.keep hk
      replace he17a := he17a.keep hk
      clear hW hG hk hbw hsz lk
      have Be : w29.cell? ⟨w.heap.size + 1, 0, none⟩ = some (.bool ge17a) := Blk.at 0 rfl
      have Bf : w29.cell? ⟨w.heap.size + 1, 1, none⟩ = some (.slice ae17a ne17a ce17a) := Blk.at 1 rfl
      have Bg : w29.cell? ⟨w.heap.size + 1, 2, none⟩ = some (.slice Ae17a Ne17a De17a) := Blk.at 2 rfl
      exact bodyPost_ret (v := .tuple #[.agg #[.bool ge17a, .slice ae17a ne17a ce17a, .slice Ae17a Ne17a De17a], .int .i64 0]) (by simp [results, Try.results31, go_sem, Be, Bf, Bg]) rfl ⟨_, rfl, he17a.of_eq (by rw [← HQ.out, HI.out]; exact (qtD_yes (by omega) q13H.out q16H.out).symm), hs⟩
     ·have q16_ : ¬ (0 ≤ sg15) := by have h := sq_ge ((((S.length : Int) - (k : Int) : Int) : Rat)) (u * n); rw [← Hsg15.out] at h; exact fun h1 => q16 (h.1 h1)
      have q16H := Lib.hid q16
      clear q16
      have q16d : decide (0 ≤ sg15) = false := decide_eq_false q16_
      go_wp2
      go_roundw
      case rel => exact ⟨k - 1, by omega, congrArg _ (by omega), hs, B0, Blk, B1, hu, h4, hS5, (HI.out.trans (qtD_few (by omega) q16H.out))⟩
      all_goals first | (simp [intOf]; done) | (simp [intOf]; omega)
   ·have q6d : ((0 : Int) < (k : Int)) = False := eq_false (by omega)
    obtain rfl : k = 0 := by omega
    have BI7a : 0 < S.length := by omega
    have BI7b : (0 : Int) < (S.length : Int) := by omega
    obtain ⟨ge8a, ae8a, ne8a, ce8a, Ae8a, Ne8a, De8a, Bh, Bi, Bj, he8a, le8⟩ := rowP_at hS5 (show 0 < S.length by omega)
    simp only [Nat.zero_mul, Nat.add_zero] at Bh Bi Bj
    have Be : wr.cell? ⟨w.heap.size + 1, 0, none⟩ = some (.bool false) := Blk.at 0 rfl
    have Bf : wr.cell? ⟨w.heap.size + 1, 1, none⟩ = some (.slice none 0 0) := Blk.at 1 rfl
    have Bg : wr.cell? ⟨w.heap.size + 1, 2, none⟩ = some (.slice none 0 0) := Blk.at 2 rfl
    have fk := Blk.free
    have Lk : w.heap.size + 1 < wr.heap.size := Blk.lt
    go_wp2
    clear Be Bf Bg fk Lk le8 Bh Bi Bj
    clear hS5
    refine bodyPost.abs ?_
    intro w25 hW
    have hG : Gr [w.heap.size + 1] wr w25 := by rw [hW]; exact (Gr.refl _ _).set.set.set
    have hsz := hs.size
    have lk := Blk.lt
    have hbw : Below w.heap.size wr w25 := hG.below1 hs.size (by first | omega | assumption)
    have hk : KeepD wr w25 := hG.keep ⟨⟨_, Blk.ty, by decide⟩, True.intro⟩
    have Bl1k : Bx w25 (w.heap.size + 1) 26 #[.bool ge8a, .slice ae8a ne8a ce8a, .slice Ae8a Ne8a De8a] := by rw [hW]; exact Blk.set3
    replace hs := hs.trans hbw
    replace B0 := hG.bx B0 (notMem1 (by omega))
    replace B1 := hG.bx B1 (notMem1 (by omega))
    replace Blk := Bl1k
    clear Bl1k
    replace hu := hu.keep hk
    replace h4 := h4.keep hk
    replace he8a := he8a.keep hk
    clear hW hG hk hbw hsz lk
    have Be : w25.cell? ⟨w.heap.size + 1, 0, none⟩ = some (.bool ge8a) := Blk.at 0 rfl
    have Bf : w25.cell? ⟨w.heap.size + 1, 1, none⟩ = some (.slice ae8a ne8a ce8a) := Blk.at 1 rfl
    have Bg : w25.cell? ⟨w.heap.size + 1, 2, none⟩ = some (.slice Ae8a Ne8a De8a) := Blk.at 2 rfl
    exact bodyPost_ret (v := .tuple #[.agg #[.bool ge8a, .slice ae8a ne8a ce8a, .slice Ae8a Ne8a De8a], .int .i64 0]) (by simp [results, Try.results31, go_sem, Be, Bf, Bg]) rfl ⟨_, rfl, he8a.of_eq (by rw [← HQ.out, HI.out]; rfl), hs⟩
end Go.Proofs.Ytmnipggjjcmjkaa
namespace Go.Proofs.Ytmnipggjjcmjkaa
open Go.RowKit Dg
attribute [local go_sem ↓] Go.wp_at_zero Go.wp_at_succ
end Go.Proofs.Ytmnipggjjcmjkaa
