/-
  scan.Ring.
-/
import Derived.Test.YtkfekkhhfpkfaaaGreatRingHG
set_option linter.unusedSimpArgs false
set_option linter.unusedVariables false
set_option maxRecDepth 100000
set_option maxHeartbeats 16000000
namespace Go.Proofs.YtkfekkhhfpkfaaaGreat
open Go.RowKit Dg
attribute [local go_sem ↓] Go.wp_at_zero Go.wp_at_succ
theorem sc_Ring_ok (v : Value) (L : List Rat) (K : Nat) (w : World) (hl : Rows 3 32 PC w v L) (h2 : 2 ≤ L.length) (h5 : L.length ≤ 5) (hz : ∀ i, i < L.length → SzQ 1 (nthQ L i)) (hap : allPos L = true) (k1 : 1 ≤ K) (k6 : K ≤ 6) :
  Calls Tryz.prog 10 #[v, .int .i64 K] w (Ret4 (fun w v => Rows 3 32 PC w v (rgBks L K)) (fun w v => Rows 3 32 PC w v (rgThs L K)) (fun w v => PV w v (rgIns L K)) (fun _ v => v = .int .i64 0) w) := by
 obtain ⟨bhl, ohl, khl, rfl, hl1, hl2, -⟩ := hl.open_ (by omega)
 have hs := Below.refl w.heap.size w
 have hp := nthQ_pos hap
 have HL := Lib.hid hl
 have HZ := Lib.hid hz
 have HAP := Lib.hid hap
 have HRS := Lib.hid (fun i hi => rgR_sz hz hp (i := i) hi)
 have HPN := Lib.hid (fun i (hi : i < L.length) => (fun e => by have := hp i hi; rw [e] at this; exact Rat.lt_irrefl this : nthQ L i ≠ 0))
 have HWS := Lib.hid (fun t (ht : t ≤ 6) i => rgW_sz hz hp ht i)
 have HSD := Lib.hid (fun k i => sdF_sz (fun i => rgW_sz hz hp k6 i) k i)
 have HBS := Lib.hid (fun t (ht : t ≤ 6) i (hi : i + 1 < L.length) => rgBk_sz hz hp ht hi)
 have HIN := Lib.hid (rgIn_sz hz hp k6)
 have HI2 := Lib.hid (fun i k (hk : k ≤ 2) (hi : i + 1 < L.length) => rgI2_sz hz hp k6 h5 hk hi)
 clear hz hap hp
 obtain ⟨i0, hi, hz0, hz1, hz2⟩ := info_parts ring_info
 go_enter Tryz.func10, Tryz.ntmps10
 have q1 : ¬ (L.length < 2) := by omega
 have q1d : ((L.length : Int) < 2) = False := eq_false (by omega)
 have q2 : ¬ (12 < L.length) := by omega
 have q2d : ((12 : Int) < (L.length : Int)) = False := eq_false (by omega)
 go_wp2_with fail
 refine Calls.abs ?_
 intro w1 hW
 have hG : Gr [] w w1 := by rw [hW]; exact (Gr.refl _ _).alloc
 have hbw : Below w.heap.size w w1 := hG.below0 hs.size
 have hk : KeepD w w1 := hG.keep True.intro
 have sz_w1 : w.heap.size ≤ w.heap.size := hs.size
 have nhl_w1 : bhl < w.heap.size := hl.lt (by omega)
 have B0 : Bx w1 (w.heap.size) 32 #[.bool false, .slice none 0 0, .slice none 0 0] := by rw [hW]; exact (Bx.new0 _ _ _)
 replace hs := hs.trans hbw
 replace hl := rowsJ PC.kept _ _ _ hl (hG.below0 (Nat.le_refl _))
 clear hW hG hk hbw
 have hz_w1 := B0.lt
 with_reducible refine (sc_above_true HAP.out (HL.out.mono PC.kept hs)).mono ?_
 rintro e w2 ⟨rfl, hb⟩
 replace hs := bStep hs hb
 replace B0 := B0.mono hb
 replace hl := rowsJ PC.kept _ _ _ hl hb
 clear hb
 have q3 : ¬ (K < 1) := by omega
 have q3d : ((K : Int) < 1) = False := eq_false (by omega)
 have q4 : ¬ (16 < K) := by omega
 have q4d : ((16 : Int) < (K : Int)) = False := eq_false (by omega)
 go_upto_region 5 with fail
 have HB0_5 := Lib.hid hs
 clear hs
 have hs := Below.refl w2.heap.size w2
 have nb_inside := B0.lt
 have Fhl := Lib.hid hl
 clear hl
 go_upto_region 6 with fail
 refine Code.abs ?_
 intro w3 hW
 have hG : Gr [] w2 w3 := by rw [hW]; exact (Gr.refl _ _).alloc
 have hbw : Below w2.heap.size w2 w3 := hG.below0 hs.size
 have hk : KeepD w2 w3 := hG.keep True.intro
 have sz_w3 : w2.heap.size ≤ w2.heap.size := hs.size
 have ninside_w3 := B0.lt
 have C7 : Bx w3 (w2.heap.size) 128 (Tryz.zeroCells128) := by rw [hW]; exact (Bx.new0 _ _ _)
 replace hs := hs.trans hbw
 replace B0 := hG.bx B0 notMem0
 clear hW hG hk hbw
 have hz_w3 := C7.lt
 have Vnow : VecR 128 3 PC w3 (w2.heap.size) (List.replicate 24 0) := vec_zero C7
 clear C7
 have Lv_now := Vnow.lt
 go_wp2_with fail
 with_reducible refine (sc_whole1 _).mono ?_
 rintro e w4 ⟨_, rfl, h6, hb⟩
 obtain ⟨sh6, ah6, nh6, ch6, Ah6, Nh6, Ch6, rfl⟩ := h6.shape
 replace hs := bStep hs hb
 replace B0 := B0.mono hb
 replace Vnow := VecR.mono PC.kept Vnow hb
 clear hb
 obtain ⟨n, m, ⟨hn1, hn2⟩, ⟨hm1, hm2⟩, wN, wM⟩ := ring_len h2 h5
 obtain ⟨gs8, as8, ns8, cs8, As8, Ns8, Ds8, Es80, Es81, Es82, hs8, ls8⟩ := vecP_at Vnow (show 0 < (List.replicate 24 (0 : Rat)).length by simp only [nowQ_len, nxQ_len, List.length_set, List.length_replicate]; omega)
 clear hs8
 simp only [Nat.zero_mul, Nat.zero_add] at Es80 Es81 Es82
 have fVnow := Vnow.free
 have LVnow := Vnow.lt
 go_wp2
 clear fVnow LVnow Es80 Es81 Es82 ls8
 refine Code.abs ?_
 intro w5 hW
 have hG : Gr [w2.heap.size] w4 w5 := by rw [hW]; exact (Gr.refl _ _).set.set.set
 have hsz := hs.size
 have hbw : Below w2.heap.size w4 w5 := hG.below1 hs.size (by first | omega | assumption)
 have hk : KeepD w4 w5 := hG.keep ⟨⟨_, Vnow.ty, by decide⟩, True.intro⟩
 have hty_ := Vnow.ty
 have V1now : VecR 128 3 PC w5 (w2.heap.size) ((List.replicate 24 (0 : Rat)).set 0 (1)) := by rw [hW]; exact Vnow.putW PC.kept (show 0 < (List.replicate 24 (0 : Rat)).length by simp only [nowQ_len, nxQ_len, List.length_set, List.length_replicate]; omega) (by decide) (by omega) (by omega) (by omega) ⟨_, _, _, rfl, h6⟩ (Gr.refl _ _)
 rw [now_zero L] at V1now
 replace hs := hs.trans hbw
 replace B0 := hG.bx B0 (notMem1 (by omega))
 replace Vnow := V1now
 clear V1now
 replace h6 := h6.keep hk
 clear hW hG hk hbw hsz hty_
 go_loopw [4, 5, 49] (fun s4 s5 s49 wq => ∃ t : Nat, t ≤ K ∧ s49 = .int .i64 t ∧ Below w2.heap.size w2 wq ∧ Bx wq (w.heap.size) 32 #[.bool false, .slice none 0 0, .slice none 0 0] ∧ PV wq (.agg #[.bool sh6, .slice ah6 nh6 ch6, .slice Ah6 Nh6 Ch6]) (1) ∧ OwnR w2.heap.size 32 3 PC wq s4 (rgBks L t) ∧ OwnR w2.heap.size 32 3 PC wq s5 (rgThs L t) ∧ (VecR 128 3 PC wq (w2.heap.size) (nowQ L t)) ∧ (Ap2 s4.ownBlock s5.ownBlock)) (fun s4 s5 s49 _ => K - (intOf s49).toNat)
 case atStart => exact ⟨0, Nat.zero_le _, rfl, hs, B0, h6, OwnR.nil _ _ _ _ _, OwnR.nil _ _ _ _ _, Vnow, Ap2.nil _⟩
 case round =>
  clear B0 h6 hs
  obtain ⟨t, k_le, rfl, hs, B0, h6, Oback, Othrough, Vnow, Aq_back_through⟩ := hrel
  obtain ⟨wo, hwo⟩ : ∃ x, x = wr := ⟨_, rfl⟩
  subst hwo
  replace Vnow := Lib.hid Vnow
  replace Vnow := Vnow.out
  have lb1 : (rgBks L t).length ≤ 6 := by rw [rgBks_len]; omega
  have lb2 : (rgThs L t).length ≤ 6 := by rw [rgThs_len]; omega
  by_cases q9 : t < K
  ·have q9d : ((t : Int) < (K : Int)) = True := eq_true (by omega)
   go_upto_region 11 with fail
   have nv10 := Vnow.lt
   refine Code.abs ?_
   intro w26 hW
   have hG : Gr [] wo w26 := by rw [hW]; exact (Gr.refl _ _).alloc
   have hbw : Below w2.heap.size wo w26 := hG.below0 hs.size
   have hk : KeepD wo w26 := hG.keep True.intro
   have sz_w26 : w2.heap.size ≤ wo.heap.size := hs.size
   have ninside_w26 := B0.lt
   have C6 : Bx w26 (wo.heap.size) 128 (Tryz.zeroCells128) := by rw [hW]; exact (Bx.new0 _ _ _)
   replace hs := hs.trans hbw
   replace Vnow := VecR.mono PC.kept Vnow (hG.below0 (Nat.le_refl _))
   replace B0 := hG.bx B0 notMem0
   replace h6 := h6.keep hk
   replace Oback := Oback.mono PC.kept (hG.below0 (Nat.le_refl _))
   replace Othrough := Othrough.mono PC.kept (hG.below0 (Nat.le_refl _))
   clear hW hG hk hbw
   have hz_w26 := C6.lt
   have Vnext : VecR 128 3 PC w26 (wo.heap.size) (List.replicate 24 0) := vec_zero C6
   clear C6
   have Lv_next := Vnext.lt
   go_wp2
   go_loopw [4, 5, 53] (fun s4 s5 s53 wq => ∃ i : Nat, i ≤ m ∧ s53 = .int .i64 i ∧ Below w2.heap.size w2 wq ∧ Bx wq (w.heap.size) 32 #[.bool false, .slice none 0 0, .slice none 0 0] ∧ PV wq (.agg #[.bool sh6, .slice ah6 nh6 ch6, .slice Ah6 Nh6 Ch6]) (1) ∧ VecR 128 3 PC wq (w2.heap.size) (nowQ L t) ∧ OwnR w2.heap.size 32 3 PC wq s4 (rgBks L (t + min i 1)) ∧ OwnR w2.heap.size 32 3 PC wq s5 (rgThs L (t + i / m)) ∧ (VecR 128 3 PC wq (wo.heap.size) (nxQ L t i)) ∧ (Ap2 s4.ownBlock s5.ownBlock)) (fun s4 s5 s53 _ => m - (intOf s53).toNat)
   case atStart => exact ⟨0, Nat.zero_le _, rfl, hs, B0, h6, Vnow, (by rw [show t + min 0 1 = t by omega]; exact Oback), (by rw [Nat.zero_div]; exact Othrough), (by rw [nxQ_zero]; exact Vnext), Aq_back_through⟩
   case round =>
    clear B0 h6 Vnow hs Oback Othrough
    obtain ⟨i, k_le, rfl, hs, B0, h6, Vnow, Oback, Othrough, Vnext, Aq_back_through⟩ := hrel
    replace Vnext := Lib.hid Vnext
    replace Vnext := Vnext.out
    have lb1 : (rgBks L (t + min i 1)).length ≤ 8 := by rw [rgBks_len]; omega
    have lb2 : (rgThs L (t + i / m)).length ≤ 8 := by have lb3 : i / m ≤ 1 := Nat.div_le_of_le_mul (by omega); rw [rgThs_len]; omega
    by_cases q11 : i < m
    ·have q11d : ((i : Int) < (m : Int)) = True := eq_true (by omega)
     go_upto_region 14 with fail
     have nVn_ := Vnext.lt
     have nVo_ := Vnow.lt
     have HB1_12 := Lib.hid hs
     clear hs
     have hs := Below.refl wr.heap.size wr
     have nb_inside := B0.lt
     have FVnow := Lib.hid Vnow
     clear Vnow
     have FVnext := Lib.hid Vnext
     clear Vnext
     have FOback := Lib.hid Oback
     clear Oback
     have FOthrough := Lib.hid Othrough
     clear Othrough
     go_upto_region 14 with fail
     have SW13d : (i : Int) < (12 : Int) := by omega
     obtain ⟨ge14, ae14, ne14, ce14, Ae14, Ne14, De14, Bi, Bp, Bq, he14, le14⟩ := vecP_at (VecR.mono PC.kept FVnow.out hs) (show i < (nowQ L t).length by rw [nowQ_len]; omega)
     rw [nowQ_at1 (by omega)] at he14
     have SW15d : (i : Int) < (12 : Int) := by omega
     obtain ⟨ge16, ae16, ne16, ce16, Ae16, Ne16, De16, Bj, Bk, Bl, he16, le16⟩ := vecP_at (VecR.mono PC.kept FVnow.out hs) (show (12 + i) < (nowQ L t).length by rw [nowQ_len]; omega)
     rw [nowQ_at2 (by omega)] at he16
     rw [show (12 + i) * 3 = 36 + i * 3 by omega] at Bj Bk Bl
     go_cut [12, 13] (fun kv0 kv1 wz => ∃ ga gb, kv0 = .pointer (some ⟨ga, 0, none⟩) ∧ kv1 = .pointer (some ⟨gb, 0, none⟩) ∧ wr.heap.size ≤ ga ∧ ga ≠ w.heap.size ∧ wr.heap.size ≤ gb ∧ gb ≠ w.heap.size ∧ ga ≠ gb ∧ Bx wz ga 32 #[.bool ge14, .slice ae14 ne14 ce14, .slice Ae14 Ne14 De14] ∧ Bx wz gb 32 #[.bool ge16, .slice ae16 ne16 ce16, .slice Ae16 Ne16 De16] ∧ Below wr.heap.size wr wz ∧ Bx wz (w.heap.size) 32 #[.bool false, .slice none 0 0, .slice none 0 0] ∧ PV wz (.agg #[.bool sh6, .slice ah6 nh6 ch6, .slice Ah6 Nh6 Ch6]) (1) ∧ PV wz (.agg #[.bool ge14, .slice ae14 ne14 ce14, .slice Ae14 Ne14 De14]) ((rgW L t).1 i) ∧ PV wz (.agg #[.bool ge16, .slice ae16 ne16 ce16, .slice Ae16 Ne16 De16]) ((rgW L t).2 i))
     case first => as_aux_lemma =>
      refine U_region (S := fun w' => w'.cell? ⟨w2.heap.size, i * 3, none⟩ = some (.bool ge14) ∧ w'.cell? ⟨w2.heap.size, i * 3 + 1, none⟩ = some (.slice ae14 ne14 ce14) ∧ w'.cell? ⟨w2.heap.size, i * 3 + 2, none⟩ = some (.slice Ae14 Ne14 De14) ∧ w'.cell? ⟨w2.heap.size, 36 + i * 3, none⟩ = some (.bool ge16) ∧ w'.cell? ⟨w2.heap.size, 36 + i * 3 + 1, none⟩ = some (.slice ae16 ne16 ce16) ∧ w'.cell? ⟨w2.heap.size, 36 + i * 3 + 2, none⟩ = some (.slice Ae16 Ne16 De16)) (by kernel_rfl) 11 ?_
      refine AnyU.abs ?_
      intro w47 hW
      have hb : Below wr.heap.size wr w47 := by rw [hW]; exact bDrew _
      replace hs := bStep hs hb
      replace B0 := B0.mono hb
      replace h6 := h6.mono hb
      replace he14 := he14.mono hb
      replace he16 := he16.mono hb
      replace Bi := cellK Bi hb
      replace Bp := cellK Bp hb
      replace Bq := cellK Bq hb
      replace Bj := cellK Bj hb
      replace Bk := cellK Bk hb
      replace Bl := cellK Bl hb
      clear hb hW
      obtain ⟨FP, HP⟩ : ∃ FP : World → Prop, ∀ W, FP W ↔ (Below wr.heap.size wr W ∧ Bx W (w.heap.size) 32 #[.bool false, .slice none 0 0, .slice none 0 0] ∧ PV W (.agg #[.bool sh6, .slice ah6 nh6 ch6, .slice Ah6 Nh6 Ch6]) (1) ∧ PV W (.agg #[.bool ge14, .slice ae14 ne14 ce14, .slice Ae14 Ne14 De14]) ((rgW L t).1 i) ∧ PV W (.agg #[.bool ge16, .slice ae16 ne16 ce16, .slice Ae16 Ne16 De16]) ((rgW L t).2 i) ∧ W.cell? ⟨w2.heap.size, i * 3, none⟩ = some (.bool ge14) ∧ W.cell? ⟨w2.heap.size, i * 3 + 1, none⟩ = some (.slice ae14 ne14 ce14) ∧ W.cell? ⟨w2.heap.size, i * 3 + 2, none⟩ = some (.slice Ae14 Ne14 De14) ∧ W.cell? ⟨w2.heap.size, 36 + i * 3, none⟩ = some (.bool ge16) ∧ W.cell? ⟨w2.heap.size, 36 + i * 3 + 1, none⟩ = some (.slice ae16 ne16 ce16) ∧ W.cell? ⟨w2.heap.size, 36 + i * 3 + 2, none⟩ = some (.slice Ae16 Ne16 De16)) := ⟨_, fun _ => Iff.rfl⟩
      have HM : ∀ W W', FP W → Below W.heap.size W W' → FP W' := by intro W W' h hb; obtain ⟨hs, B0, h6, he14, he16, Bi, Bp, Bq, Bj, Bk, Bl⟩ := (HP _).1 h; exact (HP _).2 ⟨bStep hs hb, B0.mono hb, h6.mono hb, he14.mono hb, he16.mono hb, cellK Bi hb, cellK Bp hb, cellK Bq hb, cellK Bj hb, cellK Bk hb, cellK Bl hb⟩
      have HC : ∀ W, FP W → W.cell? ⟨w2.heap.size, i * 3, none⟩ = some (.bool ge14) ∧ W.cell? ⟨w2.heap.size, i * 3 + 1, none⟩ = some (.slice ae14 ne14 ce14) ∧ W.cell? ⟨w2.heap.size, i * 3 + 2, none⟩ = some (.slice Ae14 Ne14 De14) ∧ W.cell? ⟨w2.heap.size, 36 + i * 3, none⟩ = some (.bool ge16) ∧ W.cell? ⟨w2.heap.size, 36 + i * 3 + 1, none⟩ = some (.slice ae16 ne16 ce16) ∧ W.cell? ⟨w2.heap.size, 36 + i * 3 + 2, none⟩ = some (.slice Ae16 Ne16 De16) := by intro W h; obtain ⟨hs, B0, h6, he14, he16, Bi, Bp, Bq, Bj, Bk, Bl⟩ := (HP _).1 h; exact ⟨Bi, Bp, Bq, Bj, Bk, Bl⟩
      obtain ⟨NE, HN⟩ : ∃ NE : Nat → Prop, ∀ g, NE g ↔ (w.heap.size ≠ g ∧ w2.heap.size ≠ g) := ⟨_, fun _ => Iff.rfl⟩
      have HE : ∀ W, FP W → NE W.heap.size := by intro W h; obtain ⟨hs, B0, h6, he14, he16, Bi, Bp, Bq, Bj, Bk, Bl⟩ := (HP _).1 h; exact (HN _).2 ⟨Nat.ne_of_lt B0.lt, Nat.ne_of_lt (block_lt_of_cell Bi)⟩
      have HG : ∀ W W' g, FP W → Gr [g] W W' → KeepD W W' → wr.heap.size ≤ g → NE g → FP W' := by intro W W' g h hG hk hg hn; obtain ⟨hs, B0, h6, he14, he16, Bi, Bp, Bq, Bj, Bk, Bl⟩ := (HP _).1 h; obtain ⟨e_inside, x0⟩ := (HN g).1 hn; exact (HP _).2 ⟨hs.trans (hG.below1 hs.size hg), hG.bx B0 (notMem1 e_inside), h6.keep hk, he14.keep hk, he16.keep hk, hG.cell Bi (notMem1 x0), hG.cell Bp (notMem1 x0), hG.cell Bq (notMem1 x0), hG.cell Bj (notMem1 x0), hG.cell Bk (notMem1 x0), hG.cell Bl (notMem1 x0)⟩
      have F : FP w47 := (HP _).2 ⟨hs, B0, h6, he14, he16, Bi, Bp, Bq, Bj, Bk, Bl⟩
      clear hs B0 h6 he14 he16 Bi Bp Bq Bj Bk Bl
      have hH := HC _ F
      refine U_takeD (i := 0) (d := 56) (v := ?_) rfl rfl (by kernel_rfl) (by kernel_rfl) (by kernel_rfl) (by kernel_rfl) (fun _ _ _ h => h) (Or.inl ⟨by rfl, ?_⟩) hH ?_
      rotate_left
      ·intro w hSw
       try dsimp only at hSw
       go_simp
       try with_reducible rfl
      simp only [LY]
      refine U_takeD (i := 1) (d := 57) (v := ?_) rfl rfl (by kernel_rfl) (by kernel_rfl) (by kernel_rfl) (by kernel_rfl) (fun _ _ _ h => h) (Or.inl ⟨by rfl, ?_⟩) hH ?_
      rotate_left
      ·intro w hSw
       try dsimp only at hSw
       go_simp
       try with_reducible rfl
      simp only [LY]
      refine U_takeD (i := 2) (d := 58) (v := ?_) rfl rfl (by kernel_rfl) (by kernel_rfl) (by kernel_rfl) (by kernel_rfl) (fun _ _ _ h => h) (Or.inl ⟨by rfl, ?_⟩) hH ?_
      rotate_left
      ·intro w hSw
       try dsimp only at hSw
       go_simp
       try with_reducible rfl
      simp only [LY]
      refine U_takeD (i := 3) (d := 59) (v := ?_) rfl rfl (by kernel_rfl) (by kernel_rfl) (by kernel_rfl) (by kernel_rfl) (fun _ _ _ h => h) (Or.inl ⟨by rfl, ?_⟩) hH ?_
      rotate_left
      ·intro w hSw
       try dsimp only at hSw
       go_simp
       try with_reducible rfl
      simp only [LY]
      refine U_takeD (i := 4) (d := 60) (v := ?_) rfl rfl (by kernel_rfl) (by kernel_rfl) (by kernel_rfl) (by kernel_rfl) (fun _ _ _ h => h) (Or.inl ⟨by rfl, ?_⟩) hH ?_
      rotate_left
      ·intro w hSw
       try dsimp only at hSw
       go_simp
       try with_reducible rfl
      simp only [LY]
      refine U_takeD (i := 5) (d := 61) (v := ?_) rfl rfl (by kernel_rfl) (by kernel_rfl) (by kernel_rfl) (by kernel_rfl) (fun _ _ _ h => h) (Or.inl ⟨by rfl, ?_⟩) hH ?_
      rotate_left
      ·intro w hSw
       try dsimp only at hSw
       go_simp
       try with_reducible rfl
      simp only [LY]
      refine U_takeD (i := 6) (d := 62) (v := ?_) rfl rfl (by kernel_rfl) (by kernel_rfl) (by kernel_rfl) (by kernel_rfl) (fun _ _ _ h => h) (Or.inl ⟨by rfl, ?_⟩) hH ?_
      rotate_left
      ·intro w hSw
       try dsimp only at hSw
       go_simp
       try with_reducible rfl
      simp only [LY]
      refine U_takeD (i := 7) (d := 63) (v := ?_) rfl rfl (by kernel_rfl) (by kernel_rfl) (by kernel_rfl) (by kernel_rfl) (fun _ _ _ h => h) (Or.inl ⟨by rfl, ?_⟩) hH ?_
      rotate_left
      ·intro w hSw
       try dsimp only at hSw
       go_simp
       try with_reducible rfl
      simp only [LY]
      clear hH
      refine U_letters ?_
      intro X a0 HX HA
      have key3 : ∀ (W : World) (g_a : Nat) (g_b : Nat), FP W → (wr.heap.size ≤ g_a) → (NE g_a) → (Bx W g_a 32 #[.bool false, .slice none 0 0, .slice none 0 0]) → (wr.heap.size ≤ g_b) → (NE g_b) → (Bx W g_b 32 #[.bool false, .slice none 0 0, .slice none 0 0]) → (g_a ≠ g_b) → X 2 #[true, true, true, true, true, true, true, true, true, true, false, false] ((a0.put (some 12) (.pointer (some ⟨g_a, 0, none⟩))).put (some 13) (.pointer (some ⟨g_b, 0, none⟩))) W := by
       intro W g_a g_b F sz_a ne_a Bla sz_b ne_b Blb m_a_b
       rw [← HX.out, ← HA.out]
       try simp only [LY]
       have C8 := Bla.a0
       have C9 := Bla.a1
       have Ca := Bla.a2
       have fa := Bla.free
       have La := Bla.lt
       refine U_one (i := 10) (by kernel_rfl) rfl (fun K hK => ?_)
       go_simp
       generalize hW_ : (((W.setCell ⟨g_a, 0, none⟩ (.bool ge14)).setCell ⟨g_a, 1, none⟩ (.slice ae14 ne14 ce14)).setCell ⟨g_a, 2, none⟩ (.slice Ae14 Ne14 De14)) = w48
       have hW := hW_.symm
       clear hW_
       have hG : Gr [g_a] W w48 := by rw [hW]; exact (Gr.refl _ _).set.set.set
       have hk : KeepD W w48 := hG.keep ⟨⟨_, Bla.ty, by decide⟩, True.intro⟩
       replace Bla : Bx w48 (g_a) 32 #[.bool ge14, .slice ae14 ne14 ce14, .slice Ae14 Ne14 De14] := by rw [hW]; exact Bla.set3
       replace F := HG _ _ _ F hG hk sz_a ne_a
       replace Blb := hG.bx Blb (notMem1 (by omega))
       clear hW hG hk
       refine hK.out _ _ (HC _ F) (fun hH => ?_)
       clear hK K
       try simp only [LY]
       clear hH
       have Cb := Blb.a0
       have Cc := Blb.a1
       have Cd := Blb.a2
       have fb := Blb.free
       have Lb := Blb.lt
       refine U_last (by kernel_rfl) rfl (by kernel_rfl) (fun K hK => ?_)
       go_simp
       refine hK.out _ _ ?_
       clear hK K
       intro w49 hW
       have hG : Gr [g_b] w48 w49 := by rw [hW]; exact (Gr.refl _ _).set.set.set
       have hk : KeepD w48 w49 := hG.keep ⟨⟨_, Blb.ty, by decide⟩, True.intro⟩
       replace Blb : Bx w49 (g_b) 32 #[.bool ge16, .slice ae16 ne16 ce16, .slice Ae16 Ne16 De16] := by rw [hW]; exact Blb.set3
       replace F := HG _ _ _ F hG hk sz_b ne_b
       replace Bla := hG.bx Bla (notMem1 (by omega))
       clear hW hG hk
       obtain ⟨hs, B0, h6, he14, he16, Bi, Bp, Bq, Bj, Bk, Bl⟩ := (HP _).1 F
       try simp only [LY]
       obtain ⟨e_inside_a, x0_a⟩ := (HN _).1 ne_a
       obtain ⟨e_inside_b, x0_b⟩ := (HN _).1 ne_b
       clear HX HA HM HP HC HG HN HE
       go_wp2_with fail
       go_meet
       exact ⟨g_a, g_b, rfl, rfl, (by first | exact sz_a | omega), (by omega), (by first | exact sz_b | omega), (by omega), (by omega), Bla, Blb, hs, B0, h6, he14, he16⟩
      replace key3 := Lib.hid key3
      have key2 : ∀ (W : World) (g_b : Nat), FP W → (wr.heap.size ≤ g_b) → (NE g_b) → (Bx W g_b 32 #[.bool false, .slice none 0 0, .slice none 0 0]) → X 3 #[true, true, true, true, true, true, true, true, false, true, false, false] (a0.put (some 13) (.pointer (some ⟨g_b, 0, none⟩))) W := by
       intro W g_b F sz_b ne_b Blb
       rw [← HX.out, ← HA.out]
       try simp only [LY]
       refine U_one (i := 8) (by kernel_rfl) rfl (fun K hK => ?_)
       go_simp
       refine alloc_letter ((HP _).1 F).1 (fun W1 hb Bla sz_a => ?_)
       have ne_a := HE _ F
       have m_a_b := Nat.ne_of_gt Blb.lt
       replace F := HM _ _ F hb
       replace Blb := Blb.mono hb
       clear hb
       refine hK.out _ _ (HC _ F) (fun hH => ?_)
       clear hK K
       try simp only [LY]
       have hkey := key3.out W1 W.heap.size g_b F sz_a ne_a Bla sz_b ne_b Blb m_a_b
       rw [← HX.out, ← HA.out] at hkey
       try simp only [LY] at hkey
       exact U_at (by kernel_rfl) (by kernel_rfl) hkey
      replace key2 := Lib.hid key2
      have key1 : ∀ (W : World) (g_a : Nat), FP W → (wr.heap.size ≤ g_a) → (NE g_a) → (Bx W g_a 32 #[.bool false, .slice none 0 0, .slice none 0 0]) → X 3 #[true, true, true, true, true, true, true, true, true, false, false, false] (a0.put (some 12) (.pointer (some ⟨g_a, 0, none⟩))) W := by
       intro W g_a F sz_a ne_a Bla
       rw [← HX.out, ← HA.out]
       try simp only [LY]
       refine U_one (i := 9) (by kernel_rfl) rfl (fun K hK => ?_)
       go_simp
       refine alloc_letter ((HP _).1 F).1 (fun W1 hb Blb sz_b => ?_)
       have ne_b := HE _ F
       have m_a_b := Nat.ne_of_lt Bla.lt
       replace F := HM _ _ F hb
       replace Bla := Bla.mono hb
       clear hb
       refine hK.out _ _ (HC _ F) (fun hH => ?_)
       clear hK K
       try simp only [LY]
       have hkey := key3.out W1 g_a W.heap.size F sz_a ne_a Bla sz_b ne_b Blb m_a_b
       rw [← HX.out, ← HA.out] at hkey
       try simp only [LY] at hkey
       exact U_at (by kernel_rfl) (by kernel_rfl) hkey
      replace key1 := Lib.hid key1
      have key0 : ∀ (W : World), FP W → X 4 #[true, true, true, true, true, true, true, true, false, false, false, false] a0 W := by
       intro W F
       rw [← HX.out, ← HA.out]
       try simp only [LY]
       refine U_two (i := 8) (j := 9) (by kernel_rfl) rfl rfl  (fun K hK => ?_) (fun K hK => ?_)
       ·go_simp
        refine alloc_letter ((HP _).1 F).1 (fun W1 hb Bla sz_a => ?_)
        have ne_a := HE _ F
        replace F := HM _ _ F hb
        clear hb
        refine hK.out _ _ (HC _ F) (fun hH => ?_)
        clear hK K
        try simp only [LY]
        have hkey := key1.out W1 W.heap.size F sz_a ne_a Bla
        rw [← HX.out, ← HA.out] at hkey
        try simp only [LY] at hkey
        exact U_at (by kernel_rfl) (by kernel_rfl) hkey
       ·go_simp
        refine alloc_letter ((HP _).1 F).1 (fun W1 hb Blb sz_b => ?_)
        have ne_b := HE _ F
        replace F := HM _ _ F hb
        clear hb
        refine hK.out _ _ (HC _ F) (fun hH => ?_)
        clear hK K
        try simp only [LY]
        have hkey := key2.out W1 W.heap.size F sz_b ne_b Blb
        rw [← HX.out, ← HA.out] at hkey
        try simp only [LY] at hkey
        exact U_at (by kernel_rfl) (by kernel_rfl) hkey
      replace key0 := Lib.hid key0
      rw [← HX.out]
      have hkey := key0.out w47 F
      rw [← HX.out] at hkey
      exact U_at (by kernel_rfl) (by kernel_rfl) hkey
     case rest =>
      clear hs Bi Bp Bq Bj Bk Bl B0 h6 he14 he16
      obtain ⟨ga, gb, rfl, rfl, hg_a, ng_a_inside, hg_b, ng_b_inside, ng_a_b, Bla, Blb, hs, B0, h6, he14, he16⟩ := hcut
      go_upto_region 15 with fail
      have BI17a : i < L.length := by omega
      have BI17b : ((i : Int) : Int) < (L.length : Int) := by omega
      obtain ⟨ge18a, ae18a, ne18a, ce18a, Ae18a, Ne18a, De18a, Bc, Bd, Be, he18a, le18⟩ := rowP_at (rowsJ PC.kept _ _ _ Fhl.out (bStep HB1_12.out hs)) (show i < L.length by omega)
      have SW19a := IntWalk.i64_in ((i : Int) + 1) (by omega)
      have SW19b : (0 : Int) ≤ (i : Int) + 1 := by omega
      have SW19c : ((i : Int) + 1).toNat = (i + 1) := by omega
      have SW19d : (i : Int) + 1 < (L.length : Int) := by omega
      have BI20a : (i + 1) < L.length := by omega
      have BI20b : ((i : Int) + 1 : Int) < (L.length : Int) := by omega
      obtain ⟨ge21a, ae21a, ne21a, ce21a, Ae21a, Ne21a, De21a, Bf, Bg, Bh, he21a, le21⟩ := rowP_at (rowsJ PC.kept _ _ _ Fhl.out (bStep HB1_12.out hs)) (show (i + 1) < L.length by omega)
      go_cut [14, 15] (fun kv0 kv1 wz => ∃ gr gs sh22 ah22 nh22 ch22 Ah22 Nh22 Ch22 sh23 ah23 nh23 ch23 Ah23 Nh23 Ch23, kv0 = .pointer (some ⟨gr, 0, none⟩) ∧ kv1 = .pointer (some ⟨gs, 0, none⟩) ∧ wr.heap.size ≤ gr ∧ gr ≠ w.heap.size ∧ gr ≠ ga ∧ gr ≠ gb ∧ wr.heap.size ≤ gs ∧ gs ≠ w.heap.size ∧ gs ≠ ga ∧ gs ≠ gb ∧ gr ≠ gs ∧ Bx wz gr 32 #[.bool sh22, .slice ah22 nh22 ch22, .slice Ah22 Nh22 Ch22] ∧ Bx wz gs 32 #[.bool sh23, .slice ah23 nh23 ch23, .slice Ah23 Nh23 Ch23] ∧ Below wr.heap.size wr wz ∧ Bx wz (w.heap.size) 32 #[.bool false, .slice none 0 0, .slice none 0 0] ∧ Bx wz (ga) 32 #[.bool ge14, .slice ae14 ne14 ce14, .slice Ae14 Ne14 De14] ∧ Bx wz (gb) 32 #[.bool ge16, .slice ae16 ne16 ce16, .slice Ae16 Ne16 De16] ∧ PV wz (.agg #[.bool sh6, .slice ah6 nh6 ch6, .slice Ah6 Nh6 Ch6]) (1) ∧ PV wz (.agg #[.bool ge14, .slice ae14 ne14 ce14, .slice Ae14 Ne14 De14]) ((rgW L t).1 i) ∧ PV wz (.agg #[.bool ge16, .slice ae16 ne16 ce16, .slice Ae16 Ne16 De16]) ((rgW L t).2 i) ∧ PV wz (.agg #[.bool ge18a, .slice ae18a ne18a ce18a, .slice Ae18a Ne18a De18a]) (nthQ L i) ∧ PV wz (.agg #[.bool ge21a, .slice ae21a ne21a ce21a, .slice Ae21a Ne21a De21a]) (nthQ L (i + 1)) ∧ PV wz (.agg #[.bool sh22, .slice ah22 nh22 ch22, .slice Ah22 Nh22 Ch22]) (rgR L i) ∧ PV wz (.agg #[.bool sh23, .slice ah23 nh23 ch23, .slice Ah23 Nh23 Ch23]) (nthQ L i + (nthQ L (i + 1))))
      case first => as_aux_lemma =>
       refine U_region (S := fun w' => w'.cell? ⟨bhl, ohl + i * 3, none⟩ = some (.bool ge18a) ∧ w'.cell? ⟨bhl, ohl + i * 3 + 1, none⟩ = some (.slice ae18a ne18a ce18a) ∧ w'.cell? ⟨bhl, ohl + i * 3 + 2, none⟩ = some (.slice Ae18a Ne18a De18a) ∧ w'.cell? ⟨bhl, ohl + (i + 1) * 3, none⟩ = some (.bool ge21a) ∧ w'.cell? ⟨bhl, ohl + (i + 1) * 3 + 1, none⟩ = some (.slice ae21a ne21a ce21a) ∧ w'.cell? ⟨bhl, ohl + (i + 1) * 3 + 2, none⟩ = some (.slice Ae21a Ne21a De21a)) (by kernel_rfl) 23 ?_
       refine AnyU.abs ?_
       intro w47 hW
       have hb : Below wc.heap.size wc w47 := by rw [hW]; exact bDrew _
       replace hs := bStep hs hb
       replace B0 := B0.mono hb
       replace Bla := Bla.mono hb
       replace Blb := Blb.mono hb
       replace h6 := h6.mono hb
       replace he14 := he14.mono hb
       replace he16 := he16.mono hb
       replace he18a := he18a.mono hb
       replace he21a := he21a.mono hb
       replace Bc := cellK Bc hb
       replace Bd := cellK Bd hb
       replace Be := cellK Be hb
       replace Bf := cellK Bf hb
       replace Bg := cellK Bg hb
       replace Bh := cellK Bh hb
       clear hb hW
       obtain ⟨FP, HP⟩ : ∃ FP : World → Prop, ∀ W, FP W ↔ (Below wr.heap.size wr W ∧ Bx W (w.heap.size) 32 #[.bool false, .slice none 0 0, .slice none 0 0] ∧ Bx W (ga) 32 #[.bool ge14, .slice ae14 ne14 ce14, .slice Ae14 Ne14 De14] ∧ Bx W (gb) 32 #[.bool ge16, .slice ae16 ne16 ce16, .slice Ae16 Ne16 De16] ∧ PV W (.agg #[.bool sh6, .slice ah6 nh6 ch6, .slice Ah6 Nh6 Ch6]) (1) ∧ PV W (.agg #[.bool ge14, .slice ae14 ne14 ce14, .slice Ae14 Ne14 De14]) ((rgW L t).1 i) ∧ PV W (.agg #[.bool ge16, .slice ae16 ne16 ce16, .slice Ae16 Ne16 De16]) ((rgW L t).2 i) ∧ PV W (.agg #[.bool ge18a, .slice ae18a ne18a ce18a, .slice Ae18a Ne18a De18a]) (nthQ L i) ∧ PV W (.agg #[.bool ge21a, .slice ae21a ne21a ce21a, .slice Ae21a Ne21a De21a]) (nthQ L (i + 1)) ∧ W.cell? ⟨bhl, ohl + i * 3, none⟩ = some (.bool ge18a) ∧ W.cell? ⟨bhl, ohl + i * 3 + 1, none⟩ = some (.slice ae18a ne18a ce18a) ∧ W.cell? ⟨bhl, ohl + i * 3 + 2, none⟩ = some (.slice Ae18a Ne18a De18a) ∧ W.cell? ⟨bhl, ohl + (i + 1) * 3, none⟩ = some (.bool ge21a) ∧ W.cell? ⟨bhl, ohl + (i + 1) * 3 + 1, none⟩ = some (.slice ae21a ne21a ce21a) ∧ W.cell? ⟨bhl, ohl + (i + 1) * 3 + 2, none⟩ = some (.slice Ae21a Ne21a De21a)) := ⟨_, fun _ => Iff.rfl⟩
       have HM : ∀ W W', FP W → Below W.heap.size W W' → FP W' := by intro W W' h hb; obtain ⟨hs, B0, Bla, Blb, h6, he14, he16, he18a, he21a, Bc, Bd, Be, Bf, Bg, Bh⟩ := (HP _).1 h; exact (HP _).2 ⟨bStep hs hb, B0.mono hb, Bla.mono hb, Blb.mono hb, h6.mono hb, he14.mono hb, he16.mono hb, he18a.mono hb, he21a.mono hb, cellK Bc hb, cellK Bd hb, cellK Be hb, cellK Bf hb, cellK Bg hb, cellK Bh hb⟩
       have HC : ∀ W, FP W → W.cell? ⟨bhl, ohl + i * 3, none⟩ = some (.bool ge18a) ∧ W.cell? ⟨bhl, ohl + i * 3 + 1, none⟩ = some (.slice ae18a ne18a ce18a) ∧ W.cell? ⟨bhl, ohl + i * 3 + 2, none⟩ = some (.slice Ae18a Ne18a De18a) ∧ W.cell? ⟨bhl, ohl + (i + 1) * 3, none⟩ = some (.bool ge21a) ∧ W.cell? ⟨bhl, ohl + (i + 1) * 3 + 1, none⟩ = some (.slice ae21a ne21a ce21a) ∧ W.cell? ⟨bhl, ohl + (i + 1) * 3 + 2, none⟩ = some (.slice Ae21a Ne21a De21a) := by intro W h; obtain ⟨hs, B0, Bla, Blb, h6, he14, he16, he18a, he21a, Bc, Bd, Be, Bf, Bg, Bh⟩ := (HP _).1 h; exact ⟨Bc, Bd, Be, Bf, Bg, Bh⟩
       obtain ⟨NE, HN⟩ : ∃ NE : Nat → Prop, ∀ g, NE g ↔ (w.heap.size ≠ g ∧ ga ≠ g ∧ gb ≠ g ∧ bhl ≠ g) := ⟨_, fun _ => Iff.rfl⟩
       have HE : ∀ W, FP W → NE W.heap.size := by intro W h; obtain ⟨hs, B0, Bla, Blb, h6, he14, he16, he18a, he21a, Bc, Bd, Be, Bf, Bg, Bh⟩ := (HP _).1 h; exact (HN _).2 ⟨Nat.ne_of_lt B0.lt, Nat.ne_of_lt Bla.lt, Nat.ne_of_lt Blb.lt, Nat.ne_of_lt (block_lt_of_cell Bc)⟩
       have HG : ∀ W W' g, FP W → Gr [g] W W' → KeepD W W' → wr.heap.size ≤ g → NE g → FP W' := by intro W W' g h hG hk hg hn; obtain ⟨hs, B0, Bla, Blb, h6, he14, he16, he18a, he21a, Bc, Bd, Be, Bf, Bg, Bh⟩ := (HP _).1 h; obtain ⟨e_inside, e_a, e_b, x0⟩ := (HN g).1 hn; exact (HP _).2 ⟨hs.trans (hG.below1 hs.size hg), hG.bx B0 (notMem1 e_inside), hG.bx Bla (notMem1 e_a), hG.bx Blb (notMem1 e_b), h6.keep hk, he14.keep hk, he16.keep hk, he18a.keep hk, he21a.keep hk, hG.cell Bc (notMem1 x0), hG.cell Bd (notMem1 x0), hG.cell Be (notMem1 x0), hG.cell Bf (notMem1 x0), hG.cell Bg (notMem1 x0), hG.cell Bh (notMem1 x0)⟩
       have F : FP w47 := (HP _).2 ⟨hs, B0, Bla, Blb, h6, he14, he16, he18a, he21a, Bc, Bd, Be, Bf, Bg, Bh⟩
       clear hs B0 Bla Blb h6 he14 he16 he18a he21a Bc Bd Be Bf Bg Bh
       have hH := HC _ F
       refine U_takeD (i := 0) (d := 64) (v := ?_) rfl rfl (by kernel_rfl) (by kernel_rfl) (by kernel_rfl) (by kernel_rfl) (fun _ _ _ h => h) (Or.inl ⟨by rfl, ?_⟩) hH ?_
       rotate_left
       ·intro w hSw
        try dsimp only at hSw
        go_simp
        try with_reducible rfl
       simp only [LY]
       refine U_takeD (i := 1) (d := 65) (v := ?_) rfl rfl (by kernel_rfl) (by kernel_rfl) (by kernel_rfl) (by kernel_rfl) (fun _ _ _ h => h) (Or.inl ⟨by rfl, ?_⟩) hH ?_
       rotate_left
       ·intro w hSw
        try dsimp only at hSw
        go_simp
        try with_reducible rfl
       simp only [LY]
       refine U_takeD (i := 2) (d := 66) (v := ?_) rfl rfl (by kernel_rfl) (by kernel_rfl) (by kernel_rfl) (by kernel_rfl) (fun _ _ _ h => h) (Or.inl ⟨by rfl, ?_⟩) hH ?_
       rotate_left
       ·intro w hSw
        try dsimp only at hSw
        go_simp
        try with_reducible rfl
       simp only [LY]
       refine U_takeD (i := 3) (d := 67) (v := ?_) rfl rfl (by kernel_rfl) (by kernel_rfl) (by kernel_rfl) (by kernel_rfl) (fun _ _ _ h => h) (Or.inl ⟨by rfl, ?_⟩) hH ?_
       rotate_left
       ·intro w hSw
        try dsimp only at hSw
        go_simp
        try with_reducible rfl
       simp only [LY]
       refine U_takeD (i := 4) (d := 68) (v := ?_) rfl rfl (by kernel_rfl) (by kernel_rfl) (by kernel_rfl) (by kernel_rfl) (fun _ _ _ h => h) (Or.inl ⟨by rfl, ?_⟩) hH ?_
       rotate_left
       ·intro w hSw
        try dsimp only at hSw
        go_simp
        try with_reducible rfl
       simp only [LY]
       refine U_takeD (i := 5) (d := 69) (v := ?_) rfl rfl (by kernel_rfl) (by kernel_rfl) (by kernel_rfl) (by kernel_rfl) (fun _ _ _ h => h) (Or.inl ⟨by rfl, ?_⟩) hH ?_
       rotate_left
       ·intro w hSw
        try dsimp only at hSw
        go_simp
        try with_reducible rfl
       simp only [LY]
       refine U_takeD (i := 6) (d := 70) (v := ?_) rfl rfl (by kernel_rfl) (by kernel_rfl) (by kernel_rfl) (by kernel_rfl) (fun _ _ _ h => h) (Or.inl ⟨by rfl, ?_⟩) hH ?_
       rotate_left
       ·intro w hSw
        try dsimp only at hSw
        go_simp
        try with_reducible rfl
       simp only [LY]
       refine U_takeD (i := 7) (d := 71) (v := ?_) rfl rfl (by kernel_rfl) (by kernel_rfl) (by kernel_rfl) (by kernel_rfl) (fun _ _ _ h => h) (Or.inl ⟨by rfl, ?_⟩) hH ?_
       rotate_left
       ·intro w hSw
        try dsimp only at hSw
        go_simp
        try with_reducible rfl
       simp only [LY]
       refine U_takeD (i := 8) (d := 72) (v := ?_) rfl rfl (by kernel_rfl) (by kernel_rfl) (by kernel_rfl) (by kernel_rfl) (fun _ _ _ h => h) (Or.inl ⟨by rfl, ?_⟩) hH ?_
       rotate_left
       ·intro w hSw
        try dsimp only at hSw
        go_simp
        try with_reducible rfl
       simp only [LY]
       refine U_takeD (i := 10) (d := 74) (v := ?_) rfl rfl (by kernel_rfl) (by kernel_rfl) (by kernel_rfl) (by kernel_rfl) (fun _ _ _ h => h) (Or.inl ⟨by rfl, ?_⟩) hH ?_
       rotate_left
       ·intro w hSw
        try dsimp only at hSw
        go_simp
        try with_reducible rfl
       simp only [LY]
       refine U_takeD (i := 11) (d := 75) (v := ?_) rfl rfl (by kernel_rfl) (by kernel_rfl) (by kernel_rfl) (by kernel_rfl) (fun _ _ _ h => h) (Or.inl ⟨by rfl, ?_⟩) hH ?_
       rotate_left
       ·intro w hSw
        try dsimp only at hSw
        go_simp
        try with_reducible rfl
       simp only [LY]
       refine U_takeD (i := 12) (d := 76) (v := ?_) rfl rfl (by kernel_rfl) (by kernel_rfl) (by kernel_rfl) (by kernel_rfl) (fun _ _ _ h => h) (Or.inl ⟨by rfl, ?_⟩) hH ?_
       rotate_left
       ·intro w hSw
        try dsimp only at hSw
        go_simp
        try with_reducible rfl
       simp only [LY]
       refine U_takeD (i := 13) (d := 77) (v := ?_) rfl rfl (by kernel_rfl) (by kernel_rfl) (by kernel_rfl) (by kernel_rfl) (fun _ _ _ h => h) (Or.inl ⟨by rfl, ?_⟩) hH ?_
       rotate_left
       ·intro w hSw
        try dsimp only at hSw
        go_simp
        try with_reducible rfl
       simp only [LY]
       refine U_takeD (i := 14) (d := 78) (v := ?_) rfl rfl (by kernel_rfl) (by kernel_rfl) (by kernel_rfl) (by kernel_rfl) (fun _ _ _ h => h) (Or.inl ⟨by rfl, ?_⟩) hH ?_
       rotate_left
       ·intro w hSw
        try dsimp only at hSw
        go_simp
        try with_reducible rfl
       simp only [LY]
       refine U_takeD (i := 15) (d := 79) (v := ?_) rfl rfl (by kernel_rfl) (by kernel_rfl) (by kernel_rfl) (by kernel_rfl) (fun _ _ _ h => h) (Or.inl ⟨by rfl, ?_⟩) hH ?_
       rotate_left
       ·intro w hSw
        try dsimp only at hSw
        go_simp
        try with_reducible rfl
       simp only [LY]
       refine U_takeD (i := 16) (d := 80) (v := ?_) rfl rfl (by kernel_rfl) (by kernel_rfl) (by kernel_rfl) (by kernel_rfl) (fun _ _ _ h => h) (Or.inl ⟨by rfl, ?_⟩) hH ?_
       rotate_left
       ·intro w hSw
        try dsimp only at hSw
        go_simp
        try with_reducible rfl
       simp only [LY]
       refine U_takeD (i := 17) (d := 81) (v := ?_) rfl rfl (by kernel_rfl) (by kernel_rfl) (by kernel_rfl) (by kernel_rfl) (fun _ _ _ h => h) (Or.inl ⟨by rfl, ?_⟩) hH ?_
       rotate_left
       ·intro w hSw
        try dsimp only at hSw
        go_simp
        try with_reducible rfl
       simp only [LY]
       refine U_takeD (i := 18) (d := 82) (v := ?_) rfl rfl (by kernel_rfl) (by kernel_rfl) (by kernel_rfl) (by kernel_rfl) (fun _ _ _ h => h) (Or.inl ⟨by rfl, ?_⟩) hH ?_
       rotate_left
       ·intro w hSw
        try dsimp only at hSw
        go_simp
        try with_reducible rfl
       simp only [LY]
       clear hH
       refine U_letters ?_
       intro X a0 HX HA
       have key11 : ∀ (W : World) (g_r : Nat) (g_s : Nat) (uh22 : Value) (uh23 : Value), FP W → (wr.heap.size ≤ g_r) → (NE g_r) → (Bx W g_r 32 #[.bool false, .slice none 0 0, .slice none 0 0]) → (wr.heap.size ≤ g_s) → (NE g_s) → (Bx W g_s 32 #[.bool false, .slice none 0 0, .slice none 0 0]) → (g_r ≠ g_s) → (PV W uh22 (rgR L i)) → (PV W uh23 (nthQ L i + (nthQ L (i + 1)))) → X 2 #[true, true, true, true, true, true, true, true, true, true, true, true, true, true, true, true, true, true, true, true, true, true, false, false] ((((a0.put (some 73) (uh22)).put (some 83) (uh23)).put (some 14) (.pointer (some ⟨g_r, 0, none⟩))).put (some 15) (.pointer (some ⟨g_s, 0, none⟩))) W := by
        intro W g_r g_s uh22 uh23 F sz_r ne_r Blr sz_s ne_s Bls m_r_s h22 h23
        rw [← HX.out, ← HA.out]
        try simp only [LY]
        obtain ⟨sh22, ah22, nh22, ch22, Ah22, Nh22, Ch22, rfl⟩ := h22.shape
        obtain ⟨sh23, ah23, nh23, ch23, Ah23, Nh23, Ch23, rfl⟩ := h23.shape
        have Ce := Blr.a0
        have Cf := Blr.a1
        have Cg := Blr.a2
        have fr := Blr.free
        have Lr := Blr.lt
        refine U_one (i := 22) (by kernel_rfl) rfl (fun K hK => ?_)
        go_simp
        generalize hW_ : (((W.setCell ⟨g_r, 0, none⟩ (.bool sh22)).setCell ⟨g_r, 1, none⟩ (.slice ah22 nh22 ch22)).setCell ⟨g_r, 2, none⟩ (.slice Ah22 Nh22 Ch22)) = w48
        have hW := hW_.symm
        clear hW_
        have hG : Gr [g_r] W w48 := by rw [hW]; exact (Gr.refl _ _).set.set.set
        have hk : KeepD W w48 := hG.keep ⟨⟨_, Blr.ty, by decide⟩, True.intro⟩
        replace Blr : Bx w48 (g_r) 32 #[.bool sh22, .slice ah22 nh22 ch22, .slice Ah22 Nh22 Ch22] := by rw [hW]; exact Blr.set3
        replace F := HG _ _ _ F hG hk sz_r ne_r
        replace Bls := hG.bx Bls (notMem1 (by omega))
        replace h22 := h22.keep hk
        replace h23 := h23.keep hk
        clear hW hG hk
        refine hK.out _ _ (HC _ F) (fun hH => ?_)
        clear hK K
        try simp only [LY]
        clear hH
        have Ch := Bls.a0
        have Ci := Bls.a1
        have Cj := Bls.a2
        have fs := Bls.free
        have Ls := Bls.lt
        refine U_last (by kernel_rfl) rfl (by kernel_rfl) (fun K hK => ?_)
        go_simp
        refine hK.out _ _ ?_
        clear hK K
        intro w49 hW
        have hG : Gr [g_s] w48 w49 := by rw [hW]; exact (Gr.refl _ _).set.set.set
        have hk : KeepD w48 w49 := hG.keep ⟨⟨_, Bls.ty, by decide⟩, True.intro⟩
        replace Bls : Bx w49 (g_s) 32 #[.bool sh23, .slice ah23 nh23 ch23, .slice Ah23 Nh23 Ch23] := by rw [hW]; exact Bls.set3
        replace F := HG _ _ _ F hG hk sz_s ne_s
        replace Blr := hG.bx Blr (notMem1 (by omega))
        replace h22 := h22.keep hk
        replace h23 := h23.keep hk
        clear hW hG hk
        obtain ⟨hs, B0, Bla, Blb, h6, he14, he16, he18a, he21a, Bc, Bd, Be, Bf, Bg, Bh⟩ := (HP _).1 F
        try simp only [LY]
        obtain ⟨e_inside_r, e_a_r, e_b_r, x0_r⟩ := (HN _).1 ne_r
        obtain ⟨e_inside_s, e_a_s, e_b_s, x0_s⟩ := (HN _).1 ne_s
        clear HX HA HM HP HC HG HN HE
        go_wp2_with fail
        go_meet
        exact ⟨g_r, g_s, _, _, _, _, _, _, _, _, _, _, _, _, _, _, rfl, rfl, (by first | exact sz_r | omega), (by omega), (by omega), (by omega), (by first | exact sz_s | omega), (by omega), (by omega), (by omega), (by omega), Blr, Bls, hs, B0, Bla, Blb, h6, he14, he16, he18a, he21a, h22, h23⟩
       replace key11 := Lib.hid key11
       have key10 : ∀ (W : World) (g_r : Nat) (g_s : Nat) (uh22 : Value), FP W → (wr.heap.size ≤ g_r) → (NE g_r) → (Bx W g_r 32 #[.bool false, .slice none 0 0, .slice none 0 0]) → (wr.heap.size ≤ g_s) → (NE g_s) → (Bx W g_s 32 #[.bool false, .slice none 0 0, .slice none 0 0]) → (g_r ≠ g_s) → (PV W uh22 (rgR L i)) → X 3 #[true, true, true, true, true, true, true, true, true, true, true, true, true, true, true, true, true, true, true, false, true, true, false, false] (((a0.put (some 73) (uh22)).put (some 14) (.pointer (some ⟨g_r, 0, none⟩))).put (some 15) (.pointer (some ⟨g_s, 0, none⟩))) W := by
        intro W g_r g_s uh22 F sz_r ne_r Blr sz_s ne_s Bls m_r_s h22
        rw [← HX.out, ← HA.out]
        try simp only [LY]
        refine U_one (i := 19) (by kernel_rfl) rfl (fun K hK => ?_)
        obtain ⟨hs, B0, Bla, Blb, h6, he14, he16, he18a, he21a, Bc, Bd, Be, Bf, Bg, Bh⟩ := (HP _).1 F
        go_simp
        (with_reducible refine (pAdd he18a he21a (SzQ.fit (HZ.out i (by omega))) (SzQ.fit (HZ.out (i + 1) (by omega)))).mono ?_)
        rintro e W1 ⟨uh23, rfl, h23, hb⟩
        replace F := HM _ _ F hb
        replace Blr := Blr.mono hb
        replace Bls := Bls.mono hb
        replace h22 := h22.mono hb
        clear hb hs B0 Bla Blb h6 he14 he16 he18a he21a Bc Bd Be Bf Bg Bh
        try go_wp2_with fail
        refine hK.out _ _ (HC _ F) (fun hH => ?_)
        clear hK K
        try simp only [LY]
        have hkey := key11.out W1 g_r g_s uh22 uh23 F sz_r ne_r Blr sz_s ne_s Bls m_r_s h22 h23
        rw [← HX.out, ← HA.out] at hkey
        try simp only [LY] at hkey
        exact U_at (by kernel_rfl) (by kernel_rfl) hkey
       replace key10 := Lib.hid key10
       have key9 : ∀ (W : World) (g_s : Nat) (uh22 : Value) (uh23 : Value), FP W → (wr.heap.size ≤ g_s) → (NE g_s) → (Bx W g_s 32 #[.bool false, .slice none 0 0, .slice none 0 0]) → (PV W uh22 (rgR L i)) → (PV W uh23 (nthQ L i + (nthQ L (i + 1)))) → X 3 #[true, true, true, true, true, true, true, true, true, true, true, true, true, true, true, true, true, true, true, true, false, true, false, false] (((a0.put (some 73) (uh22)).put (some 83) (uh23)).put (some 15) (.pointer (some ⟨g_s, 0, none⟩))) W := by
        intro W g_s uh22 uh23 F sz_s ne_s Bls h22 h23
        rw [← HX.out, ← HA.out]
        try simp only [LY]
        refine U_one (i := 20) (by kernel_rfl) rfl (fun K hK => ?_)
        go_simp
        refine alloc_letter ((HP _).1 F).1 (fun W1 hb Blr sz_r => ?_)
        have ne_r := HE _ F
        have m_r_s := Nat.ne_of_gt Bls.lt
        replace F := HM _ _ F hb
        replace Bls := Bls.mono hb
        replace h22 := h22.mono hb
        replace h23 := h23.mono hb
        clear hb
        refine hK.out _ _ (HC _ F) (fun hH => ?_)
        clear hK K
        try simp only [LY]
        have hkey := key11.out W1 W.heap.size g_s uh22 uh23 F sz_r ne_r Blr sz_s ne_s Bls m_r_s h22 h23
        rw [← HX.out, ← HA.out] at hkey
        try simp only [LY] at hkey
        exact U_at (by kernel_rfl) (by kernel_rfl) hkey
       replace key9 := Lib.hid key9
       have key8 : ∀ (W : World) (g_r : Nat) (uh22 : Value) (uh23 : Value), FP W → (wr.heap.size ≤ g_r) → (NE g_r) → (Bx W g_r 32 #[.bool false, .slice none 0 0, .slice none 0 0]) → (PV W uh22 (rgR L i)) → (PV W uh23 (nthQ L i + (nthQ L (i + 1)))) → X 3 #[true, true, true, true, true, true, true, true, true, true, true, true, true, true, true, true, true, true, true, true, true, false, false, false] (((a0.put (some 73) (uh22)).put (some 83) (uh23)).put (some 14) (.pointer (some ⟨g_r, 0, none⟩))) W := by
        intro W g_r uh22 uh23 F sz_r ne_r Blr h22 h23
        rw [← HX.out, ← HA.out]
        try simp only [LY]
        refine U_one (i := 21) (by kernel_rfl) rfl (fun K hK => ?_)
        go_simp
        refine alloc_letter ((HP _).1 F).1 (fun W1 hb Bls sz_s => ?_)
        have ne_s := HE _ F
        have m_r_s := Nat.ne_of_lt Blr.lt
        replace F := HM _ _ F hb
        replace Blr := Blr.mono hb
        replace h22 := h22.mono hb
        replace h23 := h23.mono hb
        clear hb
        refine hK.out _ _ (HC _ F) (fun hH => ?_)
        clear hK K
        try simp only [LY]
        have hkey := key11.out W1 g_r W.heap.size uh22 uh23 F sz_r ne_r Blr sz_s ne_s Bls m_r_s h22 h23
        rw [← HX.out, ← HA.out] at hkey
        try simp only [LY] at hkey
        exact U_at (by kernel_rfl) (by kernel_rfl) hkey
       replace key8 := Lib.hid key8
       have key7 : ∀ (W : World) (g_r : Nat) (g_s : Nat), FP W → (wr.heap.size ≤ g_r) → (NE g_r) → (Bx W g_r 32 #[.bool false, .slice none 0 0, .slice none 0 0]) → (wr.heap.size ≤ g_s) → (NE g_s) → (Bx W g_s 32 #[.bool false, .slice none 0 0, .slice none 0 0]) → (g_r ≠ g_s) → X 4 #[true, true, true, true, true, true, true, true, true, false, true, true, true, true, true, true, true, true, true, false, true, true, false, false] ((a0.put (some 14) (.pointer (some ⟨g_r, 0, none⟩))).put (some 15) (.pointer (some ⟨g_s, 0, none⟩))) W := by
        intro W g_r g_s F sz_r ne_r Blr sz_s ne_s Bls m_r_s
        rw [← HX.out, ← HA.out]
        try simp only [LY]
        refine U_one (i := 9) (by kernel_rfl) rfl (fun K hK => ?_)
        obtain ⟨hs, B0, Bla, Blb, h6, he14, he16, he18a, he21a, Bc, Bd, Be, Bf, Bg, Bh⟩ := (HP _).1 F
        go_simp
        (with_reducible refine (sc_thrownZ HRS.out he18a he21a (HZ.out i (by omega)) (HZ.out (i + 1) (by omega)) (by omega)).mono ?_)
        rintro e W1 ⟨uh22, rfl, h22, hb⟩
        replace F := HM _ _ F hb
        replace Blr := Blr.mono hb
        replace Bls := Bls.mono hb
        clear hb hs B0 Bla Blb h6 he14 he16 he18a he21a Bc Bd Be Bf Bg Bh
        try go_wp2_with fail
        refine hK.out _ _ (HC _ F) (fun hH => ?_)
        clear hK K
        try simp only [LY]
        have hkey := key10.out W1 g_r g_s uh22 F sz_r ne_r Blr sz_s ne_s Bls m_r_s h22
        rw [← HX.out, ← HA.out] at hkey
        try simp only [LY] at hkey
        exact U_at (by kernel_rfl) (by kernel_rfl) hkey
       replace key7 := Lib.hid key7
       have key6 : ∀ (W : World) (g_s : Nat) (uh22 : Value), FP W → (wr.heap.size ≤ g_s) → (NE g_s) → (Bx W g_s 32 #[.bool false, .slice none 0 0, .slice none 0 0]) → (PV W uh22 (rgR L i)) → X 4 #[true, true, true, true, true, true, true, true, true, true, true, true, true, true, true, true, true, true, true, false, false, true, false, false] ((a0.put (some 73) (uh22)).put (some 15) (.pointer (some ⟨g_s, 0, none⟩))) W := by
        intro W g_s uh22 F sz_s ne_s Bls h22
        rw [← HX.out, ← HA.out]
        try simp only [LY]
        refine U_two (i := 19) (j := 20) (by kernel_rfl) rfl rfl  (fun K hK => ?_) (fun K hK => ?_)
        ·obtain ⟨hs, B0, Bla, Blb, h6, he14, he16, he18a, he21a, Bc, Bd, Be, Bf, Bg, Bh⟩ := (HP _).1 F
         go_simp
         (with_reducible refine (pAdd he18a he21a (SzQ.fit (HZ.out i (by omega))) (SzQ.fit (HZ.out (i + 1) (by omega)))).mono ?_)
         rintro e W1 ⟨uh23, rfl, h23, hb⟩
         replace F := HM _ _ F hb
         replace Bls := Bls.mono hb
         replace h22 := h22.mono hb
         clear hb hs B0 Bla Blb h6 he14 he16 he18a he21a Bc Bd Be Bf Bg Bh
         try go_wp2_with fail
         refine hK.out _ _ (HC _ F) (fun hH => ?_)
         clear hK K
         try simp only [LY]
         have hkey := key9.out W1 g_s uh22 uh23 F sz_s ne_s Bls h22 h23
         rw [← HX.out, ← HA.out] at hkey
         try simp only [LY] at hkey
         exact U_at (by kernel_rfl) (by kernel_rfl) hkey
        ·go_simp
         refine alloc_letter ((HP _).1 F).1 (fun W1 hb Blr sz_r => ?_)
         have ne_r := HE _ F
         have m_r_s := Nat.ne_of_gt Bls.lt
         replace F := HM _ _ F hb
         replace Bls := Bls.mono hb
         replace h22 := h22.mono hb
         clear hb
         refine hK.out _ _ (HC _ F) (fun hH => ?_)
         clear hK K
         try simp only [LY]
         have hkey := key10.out W1 W.heap.size g_s uh22 F sz_r ne_r Blr sz_s ne_s Bls m_r_s h22
         rw [← HX.out, ← HA.out] at hkey
         try simp only [LY] at hkey
         exact U_at (by kernel_rfl) (by kernel_rfl) hkey
       replace key6 := Lib.hid key6
       have key5 : ∀ (W : World) (g_r : Nat) (uh22 : Value), FP W → (wr.heap.size ≤ g_r) → (NE g_r) → (Bx W g_r 32 #[.bool false, .slice none 0 0, .slice none 0 0]) → (PV W uh22 (rgR L i)) → X 4 #[true, true, true, true, true, true, true, true, true, true, true, true, true, true, true, true, true, true, true, false, true, false, false, false] ((a0.put (some 73) (uh22)).put (some 14) (.pointer (some ⟨g_r, 0, none⟩))) W := by
        intro W g_r uh22 F sz_r ne_r Blr h22
        rw [← HX.out, ← HA.out]
        try simp only [LY]
        refine U_two (i := 19) (j := 21) (by kernel_rfl) rfl rfl  (fun K hK => ?_) (fun K hK => ?_)
        ·obtain ⟨hs, B0, Bla, Blb, h6, he14, he16, he18a, he21a, Bc, Bd, Be, Bf, Bg, Bh⟩ := (HP _).1 F
         go_simp
         (with_reducible refine (pAdd he18a he21a (SzQ.fit (HZ.out i (by omega))) (SzQ.fit (HZ.out (i + 1) (by omega)))).mono ?_)
         rintro e W1 ⟨uh23, rfl, h23, hb⟩
         replace F := HM _ _ F hb
         replace Blr := Blr.mono hb
         replace h22 := h22.mono hb
         clear hb hs B0 Bla Blb h6 he14 he16 he18a he21a Bc Bd Be Bf Bg Bh
         try go_wp2_with fail
         refine hK.out _ _ (HC _ F) (fun hH => ?_)
         clear hK K
         try simp only [LY]
         have hkey := key8.out W1 g_r uh22 uh23 F sz_r ne_r Blr h22 h23
         rw [← HX.out, ← HA.out] at hkey
         try simp only [LY] at hkey
         exact U_at (by kernel_rfl) (by kernel_rfl) hkey
        ·go_simp
         refine alloc_letter ((HP _).1 F).1 (fun W1 hb Bls sz_s => ?_)
         have ne_s := HE _ F
         have m_r_s := Nat.ne_of_lt Blr.lt
         replace F := HM _ _ F hb
         replace Blr := Blr.mono hb
         replace h22 := h22.mono hb
         clear hb
         refine hK.out _ _ (HC _ F) (fun hH => ?_)
         clear hK K
         try simp only [LY]
         have hkey := key10.out W1 g_r W.heap.size uh22 F sz_r ne_r Blr sz_s ne_s Bls m_r_s h22
         rw [← HX.out, ← HA.out] at hkey
         try simp only [LY] at hkey
         exact U_at (by kernel_rfl) (by kernel_rfl) hkey
       replace key5 := Lib.hid key5
       have key4 : ∀ (W : World) (uh22 : Value) (uh23 : Value), FP W → (PV W uh22 (rgR L i)) → (PV W uh23 (nthQ L i + (nthQ L (i + 1)))) → X 4 #[true, true, true, true, true, true, true, true, true, true, true, true, true, true, true, true, true, true, true, true, false, false, false, false] ((a0.put (some 73) (uh22)).put (some 83) (uh23)) W := by
        intro W uh22 uh23 F h22 h23
        rw [← HX.out, ← HA.out]
        try simp only [LY]
        refine U_two (i := 20) (j := 21) (by kernel_rfl) rfl rfl  (fun K hK => ?_) (fun K hK => ?_)
        ·go_simp
         refine alloc_letter ((HP _).1 F).1 (fun W1 hb Blr sz_r => ?_)
         have ne_r := HE _ F
         replace F := HM _ _ F hb
         replace h22 := h22.mono hb
         replace h23 := h23.mono hb
         clear hb
         refine hK.out _ _ (HC _ F) (fun hH => ?_)
         clear hK K
         try simp only [LY]
         have hkey := key8.out W1 W.heap.size uh22 uh23 F sz_r ne_r Blr h22 h23
         rw [← HX.out, ← HA.out] at hkey
         try simp only [LY] at hkey
         exact U_at (by kernel_rfl) (by kernel_rfl) hkey
        ·go_simp
         refine alloc_letter ((HP _).1 F).1 (fun W1 hb Bls sz_s => ?_)
         have ne_s := HE _ F
         replace F := HM _ _ F hb
         replace h22 := h22.mono hb
         replace h23 := h23.mono hb
         clear hb
         refine hK.out _ _ (HC _ F) (fun hH => ?_)
         clear hK K
         try simp only [LY]
         have hkey := key9.out W1 W.heap.size uh22 uh23 F sz_s ne_s Bls h22 h23
         rw [← HX.out, ← HA.out] at hkey
         try simp only [LY] at hkey
         exact U_at (by kernel_rfl) (by kernel_rfl) hkey
       replace key4 := Lib.hid key4
       have key3 : ∀ (W : World) (g_s : Nat), FP W → (wr.heap.size ≤ g_s) → (NE g_s) → (Bx W g_s 32 #[.bool false, .slice none 0 0, .slice none 0 0]) → X 5 #[true, true, true, true, true, true, true, true, true, false, true, true, true, true, true, true, true, true, true, false, false, true, false, false] (a0.put (some 15) (.pointer (some ⟨g_s, 0, none⟩))) W := by
        intro W g_s F sz_s ne_s Bls
        rw [← HX.out, ← HA.out]
        try simp only [LY]
        refine U_two (i := 9) (j := 20) (by kernel_rfl) rfl rfl  (fun K hK => ?_) (fun K hK => ?_)
        ·obtain ⟨hs, B0, Bla, Blb, h6, he14, he16, he18a, he21a, Bc, Bd, Be, Bf, Bg, Bh⟩ := (HP _).1 F
         go_simp
         (with_reducible refine (sc_thrownZ HRS.out he18a he21a (HZ.out i (by omega)) (HZ.out (i + 1) (by omega)) (by omega)).mono ?_)
         rintro e W1 ⟨uh22, rfl, h22, hb⟩
         replace F := HM _ _ F hb
         replace Bls := Bls.mono hb
         clear hb hs B0 Bla Blb h6 he14 he16 he18a he21a Bc Bd Be Bf Bg Bh
         try go_wp2_with fail
         refine hK.out _ _ (HC _ F) (fun hH => ?_)
         clear hK K
         try simp only [LY]
         have hkey := key6.out W1 g_s uh22 F sz_s ne_s Bls h22
         rw [← HX.out, ← HA.out] at hkey
         try simp only [LY] at hkey
         exact U_at (by kernel_rfl) (by kernel_rfl) hkey
        ·go_simp
         refine alloc_letter ((HP _).1 F).1 (fun W1 hb Blr sz_r => ?_)
         have ne_r := HE _ F
         have m_r_s := Nat.ne_of_gt Bls.lt
         replace F := HM _ _ F hb
         replace Bls := Bls.mono hb
         clear hb
         refine hK.out _ _ (HC _ F) (fun hH => ?_)
         clear hK K
         try simp only [LY]
         have hkey := key7.out W1 W.heap.size g_s F sz_r ne_r Blr sz_s ne_s Bls m_r_s
         rw [← HX.out, ← HA.out] at hkey
         try simp only [LY] at hkey
         exact U_at (by kernel_rfl) (by kernel_rfl) hkey
       replace key3 := Lib.hid key3
       have key2 : ∀ (W : World) (g_r : Nat), FP W → (wr.heap.size ≤ g_r) → (NE g_r) → (Bx W g_r 32 #[.bool false, .slice none 0 0, .slice none 0 0]) → X 5 #[true, true, true, true, true, true, true, true, true, false, true, true, true, true, true, true, true, true, true, false, true, false, false, false] (a0.put (some 14) (.pointer (some ⟨g_r, 0, none⟩))) W := by
        intro W g_r F sz_r ne_r Blr
        rw [← HX.out, ← HA.out]
        try simp only [LY]
        refine U_two (i := 9) (j := 21) (by kernel_rfl) rfl rfl  (fun K hK => ?_) (fun K hK => ?_)
        ·obtain ⟨hs, B0, Bla, Blb, h6, he14, he16, he18a, he21a, Bc, Bd, Be, Bf, Bg, Bh⟩ := (HP _).1 F
         go_simp
         (with_reducible refine (sc_thrownZ HRS.out he18a he21a (HZ.out i (by omega)) (HZ.out (i + 1) (by omega)) (by omega)).mono ?_)
         rintro e W1 ⟨uh22, rfl, h22, hb⟩
         replace F := HM _ _ F hb
         replace Blr := Blr.mono hb
         clear hb hs B0 Bla Blb h6 he14 he16 he18a he21a Bc Bd Be Bf Bg Bh
         try go_wp2_with fail
         refine hK.out _ _ (HC _ F) (fun hH => ?_)
         clear hK K
         try simp only [LY]
         have hkey := key5.out W1 g_r uh22 F sz_r ne_r Blr h22
         rw [← HX.out, ← HA.out] at hkey
         try simp only [LY] at hkey
         exact U_at (by kernel_rfl) (by kernel_rfl) hkey
        ·go_simp
         refine alloc_letter ((HP _).1 F).1 (fun W1 hb Bls sz_s => ?_)
         have ne_s := HE _ F
         have m_r_s := Nat.ne_of_lt Blr.lt
         replace F := HM _ _ F hb
         replace Blr := Blr.mono hb
         clear hb
         refine hK.out _ _ (HC _ F) (fun hH => ?_)
         clear hK K
         try simp only [LY]
         have hkey := key7.out W1 g_r W.heap.size F sz_r ne_r Blr sz_s ne_s Bls m_r_s
         rw [← HX.out, ← HA.out] at hkey
         try simp only [LY] at hkey
         exact U_at (by kernel_rfl) (by kernel_rfl) hkey
       replace key2 := Lib.hid key2
       have key1 : ∀ (W : World) (uh22 : Value), FP W → (PV W uh22 (rgR L i)) → X 5 #[true, true, true, true, true, true, true, true, true, true, true, true, true, true, true, true, true, true, true, false, false, false, false, false] (a0.put (some 73) (uh22)) W := by
        intro W uh22 F h22
        rw [← HX.out, ← HA.out]
        try simp only [LY]
        refine U_three (i := 19) (j := 20) (k := 21) (by kernel_rfl) rfl rfl rfl  (fun K hK => ?_) (fun K hK => ?_) (fun K hK => ?_)
        ·obtain ⟨hs, B0, Bla, Blb, h6, he14, he16, he18a, he21a, Bc, Bd, Be, Bf, Bg, Bh⟩ := (HP _).1 F
         go_simp
         (with_reducible refine (pAdd he18a he21a (SzQ.fit (HZ.out i (by omega))) (SzQ.fit (HZ.out (i + 1) (by omega)))).mono ?_)
         rintro e W1 ⟨uh23, rfl, h23, hb⟩
         replace F := HM _ _ F hb
         replace h22 := h22.mono hb
         clear hb hs B0 Bla Blb h6 he14 he16 he18a he21a Bc Bd Be Bf Bg Bh
         try go_wp2_with fail
         refine hK.out _ _ (HC _ F) (fun hH => ?_)
         clear hK K
         try simp only [LY]
         have hkey := key4.out W1 uh22 uh23 F h22 h23
         rw [← HX.out, ← HA.out] at hkey
         try simp only [LY] at hkey
         exact U_at (by kernel_rfl) (by kernel_rfl) hkey
        ·go_simp
         refine alloc_letter ((HP _).1 F).1 (fun W1 hb Blr sz_r => ?_)
         have ne_r := HE _ F
         replace F := HM _ _ F hb
         replace h22 := h22.mono hb
         clear hb
         refine hK.out _ _ (HC _ F) (fun hH => ?_)
         clear hK K
         try simp only [LY]
         have hkey := key5.out W1 W.heap.size uh22 F sz_r ne_r Blr h22
         rw [← HX.out, ← HA.out] at hkey
         try simp only [LY] at hkey
         exact U_at (by kernel_rfl) (by kernel_rfl) hkey
        ·go_simp
         refine alloc_letter ((HP _).1 F).1 (fun W1 hb Bls sz_s => ?_)
         have ne_s := HE _ F
         replace F := HM _ _ F hb
         replace h22 := h22.mono hb
         clear hb
         refine hK.out _ _ (HC _ F) (fun hH => ?_)
         clear hK K
         try simp only [LY]
         have hkey := key6.out W1 W.heap.size uh22 F sz_s ne_s Bls h22
         rw [← HX.out, ← HA.out] at hkey
         try simp only [LY] at hkey
         exact U_at (by kernel_rfl) (by kernel_rfl) hkey
       replace key1 := Lib.hid key1
       have key0 : ∀ (W : World), FP W → X 6 #[true, true, true, true, true, true, true, true, true, false, true, true, true, true, true, true, true, true, true, false, false, false, false, false] a0 W := by
        intro W F
        rw [← HX.out, ← HA.out]
        try simp only [LY]
        refine U_three (i := 9) (j := 20) (k := 21) (by kernel_rfl) rfl rfl rfl  (fun K hK => ?_) (fun K hK => ?_) (fun K hK => ?_)
        ·obtain ⟨hs, B0, Bla, Blb, h6, he14, he16, he18a, he21a, Bc, Bd, Be, Bf, Bg, Bh⟩ := (HP _).1 F
         go_simp
         (with_reducible refine (sc_thrownZ HRS.out he18a he21a (HZ.out i (by omega)) (HZ.out (i + 1) (by omega)) (by omega)).mono ?_)
         rintro e W1 ⟨uh22, rfl, h22, hb⟩
         replace F := HM _ _ F hb
         clear hb hs B0 Bla Blb h6 he14 he16 he18a he21a Bc Bd Be Bf Bg Bh
         try go_wp2_with fail
         refine hK.out _ _ (HC _ F) (fun hH => ?_)
         clear hK K
         try simp only [LY]
         have hkey := key1.out W1 uh22 F h22
         rw [← HX.out, ← HA.out] at hkey
         try simp only [LY] at hkey
         exact U_at (by kernel_rfl) (by kernel_rfl) hkey
        ·go_simp
         refine alloc_letter ((HP _).1 F).1 (fun W1 hb Blr sz_r => ?_)
         have ne_r := HE _ F
         replace F := HM _ _ F hb
         clear hb
         refine hK.out _ _ (HC _ F) (fun hH => ?_)
         clear hK K
         try simp only [LY]
         have hkey := key2.out W1 W.heap.size F sz_r ne_r Blr
         rw [← HX.out, ← HA.out] at hkey
         try simp only [LY] at hkey
         exact U_at (by kernel_rfl) (by kernel_rfl) hkey
        ·go_simp
         refine alloc_letter ((HP _).1 F).1 (fun W1 hb Bls sz_s => ?_)
         have ne_s := HE _ F
         replace F := HM _ _ F hb
         clear hb
         refine hK.out _ _ (HC _ F) (fun hH => ?_)
         clear hK K
         try simp only [LY]
         have hkey := key3.out W1 W.heap.size F sz_s ne_s Bls
         rw [← HX.out, ← HA.out] at hkey
         try simp only [LY] at hkey
         exact U_at (by kernel_rfl) (by kernel_rfl) hkey
       replace key0 := Lib.hid key0
       rw [← HX.out]
       have hkey := key0.out w47 F
       rw [← HX.out] at hkey
       exact U_at (by kernel_rfl) (by kernel_rfl) hkey
      case rest =>
       clear hs Bc Bd Be Bf Bg Bh B0 Bla Blb h6 he14 he16 he18a he21a
       obtain ⟨gr, gs, sh22, ah22, nh22, ch22, Ah22, Nh22, Ch22, sh23, ah23, nh23, ch23, Ah23, Nh23, Ch23, rfl, rfl, hg_r, ng_r_inside, ng_r_a, ng_r_b, hg_s, ng_s_inside, ng_s_a, ng_s_b, ng_r_s, Blr, Bls, hs, B0, Bla, Blb, h6, he14, he16, he18a, he21a, h22, h23⟩ := hcut
       go_upto_region 16 with fail
       have BI25a : i < L.length := by omega
       have BI25b : ((i : Int) : Int) < (L.length : Int) := by omega
       obtain ⟨ge26a, ae26a, ne26a, ce26a, Ae26a, Ne26a, De26a, B3, B5, B6, he26a, le26⟩ := rowP_at (rowsJ PC.kept _ _ _ Fhl.out (bStep HB1_12.out hs)) (show i < L.length by omega)
       go_cut [16] (fun kv0 wz => ∃ gleft sh30 ah30 nh30 ch30 Ah30 Nh30 Ch30, kv0 = .pointer (some ⟨gleft, 0, none⟩) ∧ wr.heap.size ≤ gleft ∧ gleft ≠ w.heap.size ∧ gleft ≠ ga ∧ gleft ≠ gb ∧ gleft ≠ gr ∧ gleft ≠ gs ∧ Bx wz gleft 32 #[.bool sh30, .slice ah30 nh30 ch30, .slice Ah30 Nh30 Ch30] ∧ Below wr.heap.size wr wz ∧ Bx wz (w.heap.size) 32 #[.bool false, .slice none 0 0, .slice none 0 0] ∧ Bx wz (ga) 32 #[.bool ge14, .slice ae14 ne14 ce14, .slice Ae14 Ne14 De14] ∧ Bx wz (gb) 32 #[.bool ge16, .slice ae16 ne16 ce16, .slice Ae16 Ne16 De16] ∧ Bx wz (gr) 32 #[.bool sh22, .slice ah22 nh22 ch22, .slice Ah22 Nh22 Ch22] ∧ Bx wz (gs) 32 #[.bool sh23, .slice ah23 nh23 ch23, .slice Ah23 Nh23 Ch23] ∧ PV wz (.agg #[.bool sh6, .slice ah6 nh6 ch6, .slice Ah6 Nh6 Ch6]) (1) ∧ PV wz (.agg #[.bool ge14, .slice ae14 ne14 ce14, .slice Ae14 Ne14 De14]) ((rgW L t).1 i) ∧ PV wz (.agg #[.bool ge16, .slice ae16 ne16 ce16, .slice Ae16 Ne16 De16]) ((rgW L t).2 i) ∧ PV wz (.agg #[.bool ge18a, .slice ae18a ne18a ce18a, .slice Ae18a Ne18a De18a]) (nthQ L i) ∧ PV wz (.agg #[.bool ge21a, .slice ae21a ne21a ce21a, .slice Ae21a Ne21a De21a]) (nthQ L (i + 1)) ∧ PV wz (.agg #[.bool sh22, .slice ah22 nh22 ch22, .slice Ah22 Nh22 Ch22]) (rgR L i) ∧ PV wz (.agg #[.bool sh23, .slice ah23 nh23 ch23, .slice Ah23 Nh23 Ch23]) (nthQ L i + (nthQ L (i + 1))) ∧ PV wz (.agg #[.bool ge26a, .slice ae26a ne26a ce26a, .slice Ae26a Ne26a De26a]) (nthQ L i) ∧ PV wz (.agg #[.bool sh30, .slice ah30 nh30 ch30, .slice Ah30 Nh30 Ch30]) ((rgR L i * ((rgW L t).1 i)) + (((nthQ L i + nthQ L i) / (nthQ L i + (nthQ L (i + 1)))) * ((rgW L t).2 i))))
       case first => as_aux_lemma =>
        refine U_region (S := fun w' => w'.cell? ⟨gr, 0, none⟩ = some (.bool sh22) ∧ w'.cell? ⟨gr, 1, none⟩ = some (.slice ah22 nh22 ch22) ∧ w'.cell? ⟨gr, 2, none⟩ = some (.slice Ah22 Nh22 Ch22) ∧ w'.cell? ⟨ga, 0, none⟩ = some (.bool ge14) ∧ w'.cell? ⟨ga, 1, none⟩ = some (.slice ae14 ne14 ce14) ∧ w'.cell? ⟨ga, 2, none⟩ = some (.slice Ae14 Ne14 De14) ∧ w'.cell? ⟨gs, 0, none⟩ = some (.bool sh23) ∧ w'.cell? ⟨gs, 1, none⟩ = some (.slice ah23 nh23 ch23) ∧ w'.cell? ⟨gs, 2, none⟩ = some (.slice Ah23 Nh23 Ch23) ∧ w'.cell? ⟨gb, 0, none⟩ = some (.bool ge16) ∧ w'.cell? ⟨gb, 1, none⟩ = some (.slice ae16 ne16 ce16) ∧ w'.cell? ⟨gb, 2, none⟩ = some (.slice Ae16 Ne16 De16) ∧ w'.cell? ⟨bhl, ohl + i * 3, none⟩ = some (.bool ge26a) ∧ w'.cell? ⟨bhl, ohl + i * 3 + 1, none⟩ = some (.slice ae26a ne26a ce26a) ∧ w'.cell? ⟨bhl, ohl + i * 3 + 2, none⟩ = some (.slice Ae26a Ne26a De26a)) (by kernel_rfl) 18 ?_
        refine AnyU.abs ?_
        intro w47 hW
        have hb : Below wc.heap.size wc w47 := by rw [hW]; exact bDrew _
        replace hs := bStep hs hb
        replace B0 := B0.mono hb
        replace Bla := Bla.mono hb
        replace Blb := Blb.mono hb
        replace Blr := Blr.mono hb
        replace Bls := Bls.mono hb
        replace h6 := h6.mono hb
        replace he14 := he14.mono hb
        replace he16 := he16.mono hb
        replace he18a := he18a.mono hb
        replace he21a := he21a.mono hb
        replace h22 := h22.mono hb
        replace h23 := h23.mono hb
        replace he26a := he26a.mono hb
        replace B3 := cellK B3 hb
        replace B5 := cellK B5 hb
        replace B6 := cellK B6 hb
        clear hb hW
        obtain ⟨FP, HP⟩ : ∃ FP : World → Prop, ∀ W, FP W ↔ (Below wr.heap.size wr W ∧ Bx W (w.heap.size) 32 #[.bool false, .slice none 0 0, .slice none 0 0] ∧ Bx W (ga) 32 #[.bool ge14, .slice ae14 ne14 ce14, .slice Ae14 Ne14 De14] ∧ Bx W (gb) 32 #[.bool ge16, .slice ae16 ne16 ce16, .slice Ae16 Ne16 De16] ∧ Bx W (gr) 32 #[.bool sh22, .slice ah22 nh22 ch22, .slice Ah22 Nh22 Ch22] ∧ Bx W (gs) 32 #[.bool sh23, .slice ah23 nh23 ch23, .slice Ah23 Nh23 Ch23] ∧ PV W (.agg #[.bool sh6, .slice ah6 nh6 ch6, .slice Ah6 Nh6 Ch6]) (1) ∧ PV W (.agg #[.bool ge14, .slice ae14 ne14 ce14, .slice Ae14 Ne14 De14]) ((rgW L t).1 i) ∧ PV W (.agg #[.bool ge16, .slice ae16 ne16 ce16, .slice Ae16 Ne16 De16]) ((rgW L t).2 i) ∧ PV W (.agg #[.bool ge18a, .slice ae18a ne18a ce18a, .slice Ae18a Ne18a De18a]) (nthQ L i) ∧ PV W (.agg #[.bool ge21a, .slice ae21a ne21a ce21a, .slice Ae21a Ne21a De21a]) (nthQ L (i + 1)) ∧ PV W (.agg #[.bool sh22, .slice ah22 nh22 ch22, .slice Ah22 Nh22 Ch22]) (rgR L i) ∧ PV W (.agg #[.bool sh23, .slice ah23 nh23 ch23, .slice Ah23 Nh23 Ch23]) (nthQ L i + (nthQ L (i + 1))) ∧ PV W (.agg #[.bool ge26a, .slice ae26a ne26a ce26a, .slice Ae26a Ne26a De26a]) (nthQ L i) ∧ W.cell? ⟨bhl, ohl + i * 3, none⟩ = some (.bool ge26a) ∧ W.cell? ⟨bhl, ohl + i * 3 + 1, none⟩ = some (.slice ae26a ne26a ce26a) ∧ W.cell? ⟨bhl, ohl + i * 3 + 2, none⟩ = some (.slice Ae26a Ne26a De26a)) := ⟨_, fun _ => Iff.rfl⟩
        have HM : ∀ W W', FP W → Below W.heap.size W W' → FP W' := by intro W W' h hb; obtain ⟨hs, B0, Bla, Blb, Blr, Bls, h6, he14, he16, he18a, he21a, h22, h23, he26a, B3, B5, B6⟩ := (HP _).1 h; exact (HP _).2 ⟨bStep hs hb, B0.mono hb, Bla.mono hb, Blb.mono hb, Blr.mono hb, Bls.mono hb, h6.mono hb, he14.mono hb, he16.mono hb, he18a.mono hb, he21a.mono hb, h22.mono hb, h23.mono hb, he26a.mono hb, cellK B3 hb, cellK B5 hb, cellK B6 hb⟩
        have HC : ∀ W, FP W → W.cell? ⟨gr, 0, none⟩ = some (.bool sh22) ∧ W.cell? ⟨gr, 1, none⟩ = some (.slice ah22 nh22 ch22) ∧ W.cell? ⟨gr, 2, none⟩ = some (.slice Ah22 Nh22 Ch22) ∧ W.cell? ⟨ga, 0, none⟩ = some (.bool ge14) ∧ W.cell? ⟨ga, 1, none⟩ = some (.slice ae14 ne14 ce14) ∧ W.cell? ⟨ga, 2, none⟩ = some (.slice Ae14 Ne14 De14) ∧ W.cell? ⟨gs, 0, none⟩ = some (.bool sh23) ∧ W.cell? ⟨gs, 1, none⟩ = some (.slice ah23 nh23 ch23) ∧ W.cell? ⟨gs, 2, none⟩ = some (.slice Ah23 Nh23 Ch23) ∧ W.cell? ⟨gb, 0, none⟩ = some (.bool ge16) ∧ W.cell? ⟨gb, 1, none⟩ = some (.slice ae16 ne16 ce16) ∧ W.cell? ⟨gb, 2, none⟩ = some (.slice Ae16 Ne16 De16) ∧ W.cell? ⟨bhl, ohl + i * 3, none⟩ = some (.bool ge26a) ∧ W.cell? ⟨bhl, ohl + i * 3 + 1, none⟩ = some (.slice ae26a ne26a ce26a) ∧ W.cell? ⟨bhl, ohl + i * 3 + 2, none⟩ = some (.slice Ae26a Ne26a De26a) := by intro W h; obtain ⟨hs, B0, Bla, Blb, Blr, Bls, h6, he14, he16, he18a, he21a, h22, h23, he26a, B3, B5, B6⟩ := (HP _).1 h; exact ⟨Blr.at 0 rfl, Blr.at 1 rfl, Blr.at 2 rfl, Bla.at 0 rfl, Bla.at 1 rfl, Bla.at 2 rfl, Bls.at 0 rfl, Bls.at 1 rfl, Bls.at 2 rfl, Blb.at 0 rfl, Blb.at 1 rfl, Blb.at 2 rfl, B3, B5, B6⟩
        obtain ⟨NE, HN⟩ : ∃ NE : Nat → Prop, ∀ g, NE g ↔ (w.heap.size ≠ g ∧ ga ≠ g ∧ gb ≠ g ∧ gr ≠ g ∧ gs ≠ g ∧ bhl ≠ g) := ⟨_, fun _ => Iff.rfl⟩
        have HE : ∀ W, FP W → NE W.heap.size := by intro W h; obtain ⟨hs, B0, Bla, Blb, Blr, Bls, h6, he14, he16, he18a, he21a, h22, h23, he26a, B3, B5, B6⟩ := (HP _).1 h; exact (HN _).2 ⟨Nat.ne_of_lt B0.lt, Nat.ne_of_lt Bla.lt, Nat.ne_of_lt Blb.lt, Nat.ne_of_lt Blr.lt, Nat.ne_of_lt Bls.lt, Nat.ne_of_lt (block_lt_of_cell B3)⟩
        have HG : ∀ W W' g, FP W → Gr [g] W W' → KeepD W W' → wr.heap.size ≤ g → NE g → FP W' := by intro W W' g h hG hk hg hn; obtain ⟨hs, B0, Bla, Blb, Blr, Bls, h6, he14, he16, he18a, he21a, h22, h23, he26a, B3, B5, B6⟩ := (HP _).1 h; obtain ⟨e_inside, e_a, e_b, e_r, e_s, x0⟩ := (HN g).1 hn; exact (HP _).2 ⟨hs.trans (hG.below1 hs.size hg), hG.bx B0 (notMem1 e_inside), hG.bx Bla (notMem1 e_a), hG.bx Blb (notMem1 e_b), hG.bx Blr (notMem1 e_r), hG.bx Bls (notMem1 e_s), h6.keep hk, he14.keep hk, he16.keep hk, he18a.keep hk, he21a.keep hk, h22.keep hk, h23.keep hk, he26a.keep hk, hG.cell B3 (notMem1 x0), hG.cell B5 (notMem1 x0), hG.cell B6 (notMem1 x0)⟩
        have F : FP w47 := (HP _).2 ⟨hs, B0, Bla, Blb, Blr, Bls, h6, he14, he16, he18a, he21a, h22, h23, he26a, B3, B5, B6⟩
        clear hs B0 Bla Blb Blr Bls h6 he14 he16 he18a he21a h22 h23 he26a B3 B5 B6
        have hH := HC _ F
        refine U_takeD (i := 0) (d := 84) (v := ?_) rfl rfl (by kernel_rfl) (by kernel_rfl) (by kernel_rfl) (by kernel_rfl) (fun _ _ _ h => h) (Or.inl ⟨by rfl, ?_⟩) hH ?_
        rotate_left
        ·intro w hSw
         try dsimp only at hSw
         go_simp
         try with_reducible rfl
        simp only [LY]
        refine U_takeD (i := 1) (d := 85) (v := ?_) rfl rfl (by kernel_rfl) (by kernel_rfl) (by kernel_rfl) (by kernel_rfl) (fun _ _ _ h => h) (Or.inl ⟨by rfl, ?_⟩) hH ?_
        rotate_left
        ·intro w hSw
         try dsimp only at hSw
         go_simp
         try with_reducible rfl
        simp only [LY]
        refine U_takeD (i := 3) (d := 87) (v := ?_) rfl rfl (by kernel_rfl) (by kernel_rfl) (by kernel_rfl) (by kernel_rfl) (fun _ _ _ h => h) (Or.inl ⟨by rfl, ?_⟩) hH ?_
        rotate_left
        ·intro w hSw
         try dsimp only at hSw
         go_simp
         try with_reducible rfl
        simp only [LY]
        refine U_takeD (i := 4) (d := 88) (v := ?_) rfl rfl (by kernel_rfl) (by kernel_rfl) (by kernel_rfl) (by kernel_rfl) (fun _ _ _ h => h) (Or.inl ⟨by rfl, ?_⟩) hH ?_
        rotate_left
        ·intro w hSw
         try dsimp only at hSw
         go_simp
         try with_reducible rfl
        simp only [LY]
        refine U_takeD (i := 5) (d := 89) (v := ?_) rfl rfl (by kernel_rfl) (by kernel_rfl) (by kernel_rfl) (by kernel_rfl) (fun _ _ _ h => h) (Or.inl ⟨by rfl, ?_⟩) hH ?_
        rotate_left
        ·intro w hSw
         try dsimp only at hSw
         go_simp
         try with_reducible rfl
        simp only [LY]
        refine U_takeD (i := 6) (d := 90) (v := ?_) rfl rfl (by kernel_rfl) (by kernel_rfl) (by kernel_rfl) (by kernel_rfl) (fun _ _ _ h => h) (Or.inl ⟨by rfl, ?_⟩) hH ?_
        rotate_left
        ·intro w hSw
         try dsimp only at hSw
         go_simp
         try with_reducible rfl
        simp only [LY]
        refine U_takeD (i := 7) (d := 91) (v := ?_) rfl rfl (by kernel_rfl) (by kernel_rfl) (by kernel_rfl) (by kernel_rfl) (fun _ _ _ h => h) (Or.inl ⟨by rfl, ?_⟩) hH ?_
        rotate_left
        ·intro w hSw
         try dsimp only at hSw
         go_simp
         try with_reducible rfl
        simp only [LY]
        refine U_takeD (i := 8) (d := 92) (v := ?_) rfl rfl (by kernel_rfl) (by kernel_rfl) (by kernel_rfl) (by kernel_rfl) (fun _ _ _ h => h) (Or.inl ⟨by rfl, ?_⟩) hH ?_
        rotate_left
        ·intro w hSw
         try dsimp only at hSw
         go_simp
         try with_reducible rfl
        simp only [LY]
        refine U_takeD (i := 9) (d := 93) (v := ?_) rfl rfl (by kernel_rfl) (by kernel_rfl) (by kernel_rfl) (by kernel_rfl) (fun _ _ _ h => h) (Or.inl ⟨by rfl, ?_⟩) hH ?_
        rotate_left
        ·intro w hSw
         try dsimp only at hSw
         go_simp
         try with_reducible rfl
        simp only [LY]
        refine U_takeD (i := 10) (d := 94) (v := ?_) rfl rfl (by kernel_rfl) (by kernel_rfl) (by kernel_rfl) (by kernel_rfl) (fun _ _ _ h => h) (Or.inl ⟨by rfl, ?_⟩) hH ?_
        rotate_left
        ·intro w hSw
         try dsimp only at hSw
         go_simp
         try with_reducible rfl
        simp only [LY]
        refine U_takeD (i := 12) (d := 96) (v := ?_) rfl rfl (by kernel_rfl) (by kernel_rfl) (by kernel_rfl) (by kernel_rfl) (fun _ _ _ h => h) (Or.inl ⟨by rfl, ?_⟩) hH ?_
        rotate_left
        ·intro w hSw
         try dsimp only at hSw
         go_simp
         try with_reducible rfl
        simp only [LY]
        refine U_takeD (i := 14) (d := 98) (v := ?_) rfl rfl (by kernel_rfl) (by kernel_rfl) (by kernel_rfl) (by kernel_rfl) (fun _ _ _ h => h) (Or.inl ⟨by rfl, ?_⟩) hH ?_
        rotate_left
        ·intro w hSw
         try dsimp only at hSw
         go_simp
         try with_reducible rfl
        simp only [LY]
        clear hH
        refine U_letters ?_
        intro X a0 HX HA
        have key11 : ∀ (W : World) (g_left : Nat) (uh24 : Value) (uh27 : Value) (uh28 : Value) (uh29 : Value) (uh30 : Value), FP W → (wr.heap.size ≤ g_left) → (NE g_left) → (Bx W g_left 32 #[.bool false, .slice none 0 0, .slice none 0 0]) → (PV W uh30 ((rgR L i * ((rgW L t).1 i)) + (((nthQ L i + nthQ L i) / (nthQ L i + (nthQ L (i + 1)))) * ((rgW L t).2 i)))) → X 1 #[true, true, true, true, true, true, true, true, true, true, true, true, true, true, true, true, true, true, false] ((((((a0.put (some 86) (uh24)).put (some 95) (uh27)).put (some 97) (uh28)).put (some 99) (uh29)).put (some 100) (uh30)).put (some 16) (.pointer (some ⟨g_left, 0, none⟩))) W := by
         intro W g_left uh24 uh27 uh28 uh29 uh30 F sz_left ne_left B1 h30
         rw [← HX.out, ← HA.out]
         try simp only [LY]
         obtain ⟨sh30, ah30, nh30, ch30, Ah30, Nh30, Ch30, rfl⟩ := h30.shape
         have C1 := B1.a0
         have C2 := B1.a1
         have C3 := B1.a2
         have fleft := B1.free
         have Lleft := B1.lt
         refine U_last (by kernel_rfl) rfl (by kernel_rfl) (fun K hK => ?_)
         go_simp
         refine hK.out _ _ ?_
         clear hK K
         intro w48 hW
         have hG : Gr [g_left] W w48 := by rw [hW]; exact (Gr.refl _ _).set.set.set
         have hk : KeepD W w48 := hG.keep ⟨⟨_, B1.ty, by decide⟩, True.intro⟩
         replace B1 : Bx w48 (g_left) 32 #[.bool sh30, .slice ah30 nh30 ch30, .slice Ah30 Nh30 Ch30] := by rw [hW]; exact B1.set3
         replace F := HG _ _ _ F hG hk sz_left ne_left
         replace h30 := h30.keep hk
         clear hW hG hk
         obtain ⟨hs, B0, Bla, Blb, Blr, Bls, h6, he14, he16, he18a, he21a, h22, h23, he26a, B3, B5, B6⟩ := (HP _).1 F
         try simp only [LY]
         obtain ⟨e_inside_left, e_a_left, e_b_left, e_r_left, e_s_left, x0_left⟩ := (HN _).1 ne_left
         clear HX HA HM HP HC HG HN HE
         go_wp2_with fail
         go_meet
         exact ⟨g_left, _, _, _, _, _, _, _, rfl, (by first | exact sz_left | omega), (by omega), (by omega), (by omega), (by omega), (by omega), B1, hs, B0, Bla, Blb, Blr, Bls, h6, he14, he16, he18a, he21a, h22, h23, he26a, h30⟩
        replace key11 := Lib.hid key11
        have key10 : ∀ (W : World) (g_left : Nat) (uh24 : Value) (uh27 : Value) (uh28 : Value) (uh29 : Value), FP W → (wr.heap.size ≤ g_left) → (NE g_left) → (Bx W g_left 32 #[.bool false, .slice none 0 0, .slice none 0 0]) → (PV W uh24 (rgR L i * ((rgW L t).1 i))) → (PV W uh29 (((nthQ L i + nthQ L i) / (nthQ L i + (nthQ L (i + 1)))) * ((rgW L t).2 i))) → X 2 #[true, true, true, true, true, true, true, true, true, true, true, true, true, true, true, true, false, true, false] (((((a0.put (some 86) (uh24)).put (some 95) (uh27)).put (some 97) (uh28)).put (some 99) (uh29)).put (some 16) (.pointer (some ⟨g_left, 0, none⟩))) W := by
         intro W g_left uh24 uh27 uh28 uh29 F sz_left ne_left B1 h24 h29
         rw [← HX.out, ← HA.out]
         try simp only [LY]
         refine U_one (i := 16) (by kernel_rfl) rfl (fun K hK => ?_)
         obtain ⟨hs, B0, Bla, Blb, Blr, Bls, h6, he14, he16, he18a, he21a, h22, h23, he26a, B3, B5, B6⟩ := (HP _).1 F
         go_simp
         (with_reducible refine (pAdd h24 h29 (SzQ.fit (SzQ.mul (HRS.out i (by omega)).1 (HWS.out t (by omega) i).1)) (SzQ.fit (SzQ.mul (SzQ.div (SzQ.add (HZ.out i (by omega)) (HZ.out i (by omega))) (SzQ.add (HZ.out i (by omega)) (HZ.out (i + 1) (by omega))) (by have h := (HRS.out i (by omega)).2; rwa [Rat.add_comm] at h)) (HWS.out t (by omega) i).2))).mono ?_)
         rintro e W1 ⟨uh30, rfl, h30, hb⟩
         replace F := HM _ _ F hb
         replace B1 := B1.mono hb
         replace h24 := h24.mono hb
         replace h29 := h29.mono hb
         clear hb hs B0 Bla Blb Blr Bls h6 he14 he16 he18a he21a h22 h23 he26a B3 B5 B6
         try go_wp2_with fail
         refine hK.out _ _ (HC _ F) (fun hH => ?_)
         clear hK K
         try simp only [LY]
         have hkey := key11.out W1 g_left uh24 uh27 uh28 uh29 uh30 F sz_left ne_left B1 h30
         rw [← HX.out, ← HA.out] at hkey
         try simp only [LY] at hkey
         exact U_at (by kernel_rfl) (by kernel_rfl) hkey
        replace key10 := Lib.hid key10
        have key9 : ∀ (W : World) (uh24 : Value) (uh27 : Value) (uh28 : Value) (uh29 : Value) (uh30 : Value), FP W → (PV W uh30 ((rgR L i * ((rgW L t).1 i)) + (((nthQ L i + nthQ L i) / (nthQ L i + (nthQ L (i + 1)))) * ((rgW L t).2 i)))) → X 2 #[true, true, true, true, true, true, true, true, true, true, true, true, true, true, true, true, true, false, false] (((((a0.put (some 86) (uh24)).put (some 95) (uh27)).put (some 97) (uh28)).put (some 99) (uh29)).put (some 100) (uh30)) W := by
         intro W uh24 uh27 uh28 uh29 uh30 F h30
         rw [← HX.out, ← HA.out]
         try simp only [LY]
         refine U_one (i := 17) (by kernel_rfl) rfl (fun K hK => ?_)
         go_simp
         refine alloc_letter ((HP _).1 F).1 (fun W1 hb B1 sz_left => ?_)
         have ne_left := HE _ F
         replace F := HM _ _ F hb
         replace h30 := h30.mono hb
         clear hb
         refine hK.out _ _ (HC _ F) (fun hH => ?_)
         clear hK K
         try simp only [LY]
         have hkey := key11.out W1 W.heap.size uh24 uh27 uh28 uh29 uh30 F sz_left ne_left B1 h30
         rw [← HX.out, ← HA.out] at hkey
         try simp only [LY] at hkey
         exact U_at (by kernel_rfl) (by kernel_rfl) hkey
        replace key9 := Lib.hid key9
        have key8 : ∀ (W : World) (g_left : Nat) (uh24 : Value) (uh27 : Value) (uh28 : Value), FP W → (wr.heap.size ≤ g_left) → (NE g_left) → (Bx W g_left 32 #[.bool false, .slice none 0 0, .slice none 0 0]) → (PV W uh24 (rgR L i * ((rgW L t).1 i))) → (PV W uh28 ((nthQ L i + nthQ L i) / (nthQ L i + (nthQ L (i + 1))))) → X 3 #[true, true, true, true, true, true, true, true, true, true, true, true, true, true, true, false, false, true, false] ((((a0.put (some 86) (uh24)).put (some 95) (uh27)).put (some 97) (uh28)).put (some 16) (.pointer (some ⟨g_left, 0, none⟩))) W := by
         intro W g_left uh24 uh27 uh28 F sz_left ne_left B1 h24 h28
         rw [← HX.out, ← HA.out]
         try simp only [LY]
         refine U_one (i := 15) (by kernel_rfl) rfl (fun K hK => ?_)
         obtain ⟨hs, B0, Bla, Blb, Blr, Bls, h6, he14, he16, he18a, he21a, h22, h23, he26a, B3, B5, B6⟩ := (HP _).1 F
         go_simp
         (with_reducible refine (pMul h28 he16 (SzQ.fit (SzQ.div (SzQ.add (HZ.out i (by omega)) (HZ.out i (by omega))) (SzQ.add (HZ.out i (by omega)) (HZ.out (i + 1) (by omega))) (by have h := (HRS.out i (by omega)).2; rwa [Rat.add_comm] at h))) (SzQ.fit (HWS.out t (by omega) i).2)).mono ?_)
         rintro e W1 ⟨uh29, rfl, h29, hb⟩
         replace F := HM _ _ F hb
         replace B1 := B1.mono hb
         replace h24 := h24.mono hb
         replace h28 := h28.mono hb
         clear hb hs B0 Bla Blb Blr Bls h6 he14 he16 he18a he21a h22 h23 he26a B3 B5 B6
         try go_wp2_with fail
         refine hK.out _ _ (HC _ F) (fun hH => ?_)
         clear hK K
         try simp only [LY]
         have hkey := key10.out W1 g_left uh24 uh27 uh28 uh29 F sz_left ne_left B1 h24 h29
         rw [← HX.out, ← HA.out] at hkey
         try simp only [LY] at hkey
         exact U_at (by kernel_rfl) (by kernel_rfl) hkey
        replace key8 := Lib.hid key8
        have key7 : ∀ (W : World) (uh24 : Value) (uh27 : Value) (uh28 : Value) (uh29 : Value), FP W → (PV W uh24 (rgR L i * ((rgW L t).1 i))) → (PV W uh29 (((nthQ L i + nthQ L i) / (nthQ L i + (nthQ L (i + 1)))) * ((rgW L t).2 i))) → X 3 #[true, true, true, true, true, true, true, true, true, true, true, true, true, true, true, true, false, false, false] ((((a0.put (some 86) (uh24)).put (some 95) (uh27)).put (some 97) (uh28)).put (some 99) (uh29)) W := by
         intro W uh24 uh27 uh28 uh29 F h24 h29
         rw [← HX.out, ← HA.out]
         try simp only [LY]
         refine U_two (i := 16) (j := 17) (by kernel_rfl) rfl rfl  (fun K hK => ?_) (fun K hK => ?_)
         ·obtain ⟨hs, B0, Bla, Blb, Blr, Bls, h6, he14, he16, he18a, he21a, h22, h23, he26a, B3, B5, B6⟩ := (HP _).1 F
          go_simp
          (with_reducible refine (pAdd h24 h29 (SzQ.fit (SzQ.mul (HRS.out i (by omega)).1 (HWS.out t (by omega) i).1)) (SzQ.fit (SzQ.mul (SzQ.div (SzQ.add (HZ.out i (by omega)) (HZ.out i (by omega))) (SzQ.add (HZ.out i (by omega)) (HZ.out (i + 1) (by omega))) (by have h := (HRS.out i (by omega)).2; rwa [Rat.add_comm] at h)) (HWS.out t (by omega) i).2))).mono ?_)
          rintro e W1 ⟨uh30, rfl, h30, hb⟩
          replace F := HM _ _ F hb
          replace h24 := h24.mono hb
          replace h29 := h29.mono hb
          clear hb hs B0 Bla Blb Blr Bls h6 he14 he16 he18a he21a h22 h23 he26a B3 B5 B6
          try go_wp2_with fail
          refine hK.out _ _ (HC _ F) (fun hH => ?_)
          clear hK K
          try simp only [LY]
          have hkey := key9.out W1 uh24 uh27 uh28 uh29 uh30 F h30
          rw [← HX.out, ← HA.out] at hkey
          try simp only [LY] at hkey
          exact U_at (by kernel_rfl) (by kernel_rfl) hkey
         ·go_simp
          refine alloc_letter ((HP _).1 F).1 (fun W1 hb B1 sz_left => ?_)
          have ne_left := HE _ F
          replace F := HM _ _ F hb
          replace h24 := h24.mono hb
          replace h29 := h29.mono hb
          clear hb
          refine hK.out _ _ (HC _ F) (fun hH => ?_)
          clear hK K
          try simp only [LY]
          have hkey := key10.out W1 W.heap.size uh24 uh27 uh28 uh29 F sz_left ne_left B1 h24 h29
          rw [← HX.out, ← HA.out] at hkey
          try simp only [LY] at hkey
          exact U_at (by kernel_rfl) (by kernel_rfl) hkey
        replace key7 := Lib.hid key7
        have key6 : ∀ (W : World) (g_left : Nat) (uh24 : Value) (uh27 : Value), FP W → (wr.heap.size ≤ g_left) → (NE g_left) → (Bx W g_left 32 #[.bool false, .slice none 0 0, .slice none 0 0]) → (PV W uh24 (rgR L i * ((rgW L t).1 i))) → (PV W uh27 (nthQ L i + nthQ L i)) → X 4 #[true, true, true, true, true, true, true, true, true, true, true, true, true, false, true, false, false, true, false] (((a0.put (some 86) (uh24)).put (some 95) (uh27)).put (some 16) (.pointer (some ⟨g_left, 0, none⟩))) W := by
         intro W g_left uh24 uh27 F sz_left ne_left B1 h24 h27
         rw [← HX.out, ← HA.out]
         try simp only [LY]
         refine U_one (i := 13) (by kernel_rfl) rfl (fun K hK => ?_)
         obtain ⟨hs, B0, Bla, Blb, Blr, Bls, h6, he14, he16, he18a, he21a, h22, h23, he26a, B3, B5, B6⟩ := (HP _).1 F
         go_simp
         (with_reducible refine (sc_over _ _ _ _ _ h27 h23 (SzQ.fit (SzQ.add (HZ.out i (by omega)) (HZ.out i (by omega)))) (SzQ.fit (SzQ.add (HZ.out i (by omega)) (HZ.out (i + 1) (by omega)))) (by have h := (HRS.out i (by omega)).2; rwa [Rat.add_comm] at h)).mono ?_)
         rintro e W1 ⟨uh28, rfl, h28, hb⟩
         replace F := HM _ _ F hb
         replace B1 := B1.mono hb
         replace h24 := h24.mono hb
         replace h27 := h27.mono hb
         clear hb hs B0 Bla Blb Blr Bls h6 he14 he16 he18a he21a h22 h23 he26a B3 B5 B6
         try go_wp2_with fail
         refine hK.out _ _ (HC _ F) (fun hH => ?_)
         clear hK K
         try simp only [LY]
         have hkey := key8.out W1 g_left uh24 uh27 uh28 F sz_left ne_left B1 h24 h28
         rw [← HX.out, ← HA.out] at hkey
         try simp only [LY] at hkey
         exact U_at (by kernel_rfl) (by kernel_rfl) hkey
        replace key6 := Lib.hid key6
        have key5 : ∀ (W : World) (uh24 : Value) (uh27 : Value) (uh28 : Value), FP W → (PV W uh24 (rgR L i * ((rgW L t).1 i))) → (PV W uh28 ((nthQ L i + nthQ L i) / (nthQ L i + (nthQ L (i + 1))))) → X 4 #[true, true, true, true, true, true, true, true, true, true, true, true, true, true, true, false, false, false, false] (((a0.put (some 86) (uh24)).put (some 95) (uh27)).put (some 97) (uh28)) W := by
         intro W uh24 uh27 uh28 F h24 h28
         rw [← HX.out, ← HA.out]
         try simp only [LY]
         refine U_two (i := 15) (j := 17) (by kernel_rfl) rfl rfl  (fun K hK => ?_) (fun K hK => ?_)
         ·obtain ⟨hs, B0, Bla, Blb, Blr, Bls, h6, he14, he16, he18a, he21a, h22, h23, he26a, B3, B5, B6⟩ := (HP _).1 F
          go_simp
          (with_reducible refine (pMul h28 he16 (SzQ.fit (SzQ.div (SzQ.add (HZ.out i (by omega)) (HZ.out i (by omega))) (SzQ.add (HZ.out i (by omega)) (HZ.out (i + 1) (by omega))) (by have h := (HRS.out i (by omega)).2; rwa [Rat.add_comm] at h))) (SzQ.fit (HWS.out t (by omega) i).2)).mono ?_)
          rintro e W1 ⟨uh29, rfl, h29, hb⟩
          replace F := HM _ _ F hb
          replace h24 := h24.mono hb
          replace h28 := h28.mono hb
          clear hb hs B0 Bla Blb Blr Bls h6 he14 he16 he18a he21a h22 h23 he26a B3 B5 B6
          try go_wp2_with fail
          refine hK.out _ _ (HC _ F) (fun hH => ?_)
          clear hK K
          try simp only [LY]
          have hkey := key7.out W1 uh24 uh27 uh28 uh29 F h24 h29
          rw [← HX.out, ← HA.out] at hkey
          try simp only [LY] at hkey
          exact U_at (by kernel_rfl) (by kernel_rfl) hkey
         ·go_simp
          refine alloc_letter ((HP _).1 F).1 (fun W1 hb B1 sz_left => ?_)
          have ne_left := HE _ F
          replace F := HM _ _ F hb
          replace h24 := h24.mono hb
          replace h28 := h28.mono hb
          clear hb
          refine hK.out _ _ (HC _ F) (fun hH => ?_)
          clear hK K
          try simp only [LY]
          have hkey := key8.out W1 W.heap.size uh24 uh27 uh28 F sz_left ne_left B1 h24 h28
          rw [← HX.out, ← HA.out] at hkey
          try simp only [LY] at hkey
          exact U_at (by kernel_rfl) (by kernel_rfl) hkey
        replace key5 := Lib.hid key5
        have key4 : ∀ (W : World) (g_left : Nat) (uh24 : Value), FP W → (wr.heap.size ≤ g_left) → (NE g_left) → (Bx W g_left 32 #[.bool false, .slice none 0 0, .slice none 0 0]) → (PV W uh24 (rgR L i * ((rgW L t).1 i))) → X 5 #[true, true, true, true, true, true, true, true, true, true, true, false, true, false, true, false, false, true, false] ((a0.put (some 86) (uh24)).put (some 16) (.pointer (some ⟨g_left, 0, none⟩))) W := by
         intro W g_left uh24 F sz_left ne_left B1 h24
         rw [← HX.out, ← HA.out]
         try simp only [LY]
         refine U_one (i := 11) (by kernel_rfl) rfl (fun K hK => ?_)
         obtain ⟨hs, B0, Bla, Blb, Blr, Bls, h6, he14, he16, he18a, he21a, h22, h23, he26a, B3, B5, B6⟩ := (HP _).1 F
         go_simp
         (with_reducible refine (pAdd he26a he26a (SzQ.fit (HZ.out i (by omega))) (SzQ.fit (HZ.out i (by omega)))).mono ?_)
         rintro e W1 ⟨uh27, rfl, h27, hb⟩
         replace F := HM _ _ F hb
         replace B1 := B1.mono hb
         replace h24 := h24.mono hb
         clear hb hs B0 Bla Blb Blr Bls h6 he14 he16 he18a he21a h22 h23 he26a B3 B5 B6
         try go_wp2_with fail
         refine hK.out _ _ (HC _ F) (fun hH => ?_)
         clear hK K
         try simp only [LY]
         have hkey := key6.out W1 g_left uh24 uh27 F sz_left ne_left B1 h24 h27
         rw [← HX.out, ← HA.out] at hkey
         try simp only [LY] at hkey
         exact U_at (by kernel_rfl) (by kernel_rfl) hkey
        replace key4 := Lib.hid key4
        have key3 : ∀ (W : World) (uh24 : Value) (uh27 : Value), FP W → (PV W uh24 (rgR L i * ((rgW L t).1 i))) → (PV W uh27 (nthQ L i + nthQ L i)) → X 5 #[true, true, true, true, true, true, true, true, true, true, true, true, true, false, true, false, false, false, false] ((a0.put (some 86) (uh24)).put (some 95) (uh27)) W := by
         intro W uh24 uh27 F h24 h27
         rw [← HX.out, ← HA.out]
         try simp only [LY]
         refine U_two (i := 13) (j := 17) (by kernel_rfl) rfl rfl  (fun K hK => ?_) (fun K hK => ?_)
         ·obtain ⟨hs, B0, Bla, Blb, Blr, Bls, h6, he14, he16, he18a, he21a, h22, h23, he26a, B3, B5, B6⟩ := (HP _).1 F
          go_simp
          (with_reducible refine (sc_over _ _ _ _ _ h27 h23 (SzQ.fit (SzQ.add (HZ.out i (by omega)) (HZ.out i (by omega)))) (SzQ.fit (SzQ.add (HZ.out i (by omega)) (HZ.out (i + 1) (by omega)))) (by have h := (HRS.out i (by omega)).2; rwa [Rat.add_comm] at h)).mono ?_)
          rintro e W1 ⟨uh28, rfl, h28, hb⟩
          replace F := HM _ _ F hb
          replace h24 := h24.mono hb
          replace h27 := h27.mono hb
          clear hb hs B0 Bla Blb Blr Bls h6 he14 he16 he18a he21a h22 h23 he26a B3 B5 B6
          try go_wp2_with fail
          refine hK.out _ _ (HC _ F) (fun hH => ?_)
          clear hK K
          try simp only [LY]
          have hkey := key5.out W1 uh24 uh27 uh28 F h24 h28
          rw [← HX.out, ← HA.out] at hkey
          try simp only [LY] at hkey
          exact U_at (by kernel_rfl) (by kernel_rfl) hkey
         ·go_simp
          refine alloc_letter ((HP _).1 F).1 (fun W1 hb B1 sz_left => ?_)
          have ne_left := HE _ F
          replace F := HM _ _ F hb
          replace h24 := h24.mono hb
          replace h27 := h27.mono hb
          clear hb
          refine hK.out _ _ (HC _ F) (fun hH => ?_)
          clear hK K
          try simp only [LY]
          have hkey := key6.out W1 W.heap.size uh24 uh27 F sz_left ne_left B1 h24 h27
          rw [← HX.out, ← HA.out] at hkey
          try simp only [LY] at hkey
          exact U_at (by kernel_rfl) (by kernel_rfl) hkey
        replace key3 := Lib.hid key3
        have key2 : ∀ (W : World) (g_left : Nat), FP W → (wr.heap.size ≤ g_left) → (NE g_left) → (Bx W g_left 32 #[.bool false, .slice none 0 0, .slice none 0 0]) → X 6 #[true, true, false, true, true, true, true, true, true, true, true, false, true, false, true, false, false, true, false] (a0.put (some 16) (.pointer (some ⟨g_left, 0, none⟩))) W := by
         intro W g_left F sz_left ne_left B1
         rw [← HX.out, ← HA.out]
         try simp only [LY]
         refine U_one (i := 2) (by kernel_rfl) rfl (fun K hK => ?_)
         obtain ⟨hs, B0, Bla, Blb, Blr, Bls, h6, he14, he16, he18a, he21a, h22, h23, he26a, B3, B5, B6⟩ := (HP _).1 F
         go_simp
         (with_reducible refine (pMul h22 he14 (SzQ.fit (HRS.out i (by omega)).1) (SzQ.fit (HWS.out t (by omega) i).1)).mono ?_)
         rintro e W1 ⟨uh24, rfl, h24, hb⟩
         replace F := HM _ _ F hb
         replace B1 := B1.mono hb
         clear hb hs B0 Bla Blb Blr Bls h6 he14 he16 he18a he21a h22 h23 he26a B3 B5 B6
         try go_wp2_with fail
         refine hK.out _ _ (HC _ F) (fun hH => ?_)
         clear hK K
         try simp only [LY]
         have hkey := key4.out W1 g_left uh24 F sz_left ne_left B1 h24
         rw [← HX.out, ← HA.out] at hkey
         try simp only [LY] at hkey
         exact U_at (by kernel_rfl) (by kernel_rfl) hkey
        replace key2 := Lib.hid key2
        have key1 : ∀ (W : World) (uh24 : Value), FP W → (PV W uh24 (rgR L i * ((rgW L t).1 i))) → X 6 #[true, true, true, true, true, true, true, true, true, true, true, false, true, false, true, false, false, false, false] (a0.put (some 86) (uh24)) W := by
         intro W uh24 F h24
         rw [← HX.out, ← HA.out]
         try simp only [LY]
         refine U_two (i := 11) (j := 17) (by kernel_rfl) rfl rfl  (fun K hK => ?_) (fun K hK => ?_)
         ·obtain ⟨hs, B0, Bla, Blb, Blr, Bls, h6, he14, he16, he18a, he21a, h22, h23, he26a, B3, B5, B6⟩ := (HP _).1 F
          go_simp
          (with_reducible refine (pAdd he26a he26a (SzQ.fit (HZ.out i (by omega))) (SzQ.fit (HZ.out i (by omega)))).mono ?_)
          rintro e W1 ⟨uh27, rfl, h27, hb⟩
          replace F := HM _ _ F hb
          replace h24 := h24.mono hb
          clear hb hs B0 Bla Blb Blr Bls h6 he14 he16 he18a he21a h22 h23 he26a B3 B5 B6
          try go_wp2_with fail
          refine hK.out _ _ (HC _ F) (fun hH => ?_)
          clear hK K
          try simp only [LY]
          have hkey := key3.out W1 uh24 uh27 F h24 h27
          rw [← HX.out, ← HA.out] at hkey
          try simp only [LY] at hkey
          exact U_at (by kernel_rfl) (by kernel_rfl) hkey
         ·go_simp
          refine alloc_letter ((HP _).1 F).1 (fun W1 hb B1 sz_left => ?_)
          have ne_left := HE _ F
          replace F := HM _ _ F hb
          replace h24 := h24.mono hb
          clear hb
          refine hK.out _ _ (HC _ F) (fun hH => ?_)
          clear hK K
          try simp only [LY]
          have hkey := key4.out W1 W.heap.size uh24 F sz_left ne_left B1 h24
          rw [← HX.out, ← HA.out] at hkey
          try simp only [LY] at hkey
          exact U_at (by kernel_rfl) (by kernel_rfl) hkey
        replace key1 := Lib.hid key1
        have key0 : ∀ (W : World), FP W → X 7 #[true, true, false, true, true, true, true, true, true, true, true, false, true, false, true, false, false, false, false] a0 W := by
         intro W F
         rw [← HX.out, ← HA.out]
         try simp only [LY]
         refine U_two (i := 2) (j := 17) (by kernel_rfl) rfl rfl  (fun K hK => ?_) (fun K hK => ?_)
         ·obtain ⟨hs, B0, Bla, Blb, Blr, Bls, h6, he14, he16, he18a, he21a, h22, h23, he26a, B3, B5, B6⟩ := (HP _).1 F
          go_simp
          (with_reducible refine (pMul h22 he14 (SzQ.fit (HRS.out i (by omega)).1) (SzQ.fit (HWS.out t (by omega) i).1)).mono ?_)
          rintro e W1 ⟨uh24, rfl, h24, hb⟩
          replace F := HM _ _ F hb
          clear hb hs B0 Bla Blb Blr Bls h6 he14 he16 he18a he21a h22 h23 he26a B3 B5 B6
          try go_wp2_with fail
          refine hK.out _ _ (HC _ F) (fun hH => ?_)
          clear hK K
          try simp only [LY]
          have hkey := key1.out W1 uh24 F h24
          rw [← HX.out, ← HA.out] at hkey
          try simp only [LY] at hkey
          exact U_at (by kernel_rfl) (by kernel_rfl) hkey
         ·go_simp
          refine alloc_letter ((HP _).1 F).1 (fun W1 hb B1 sz_left => ?_)
          have ne_left := HE _ F
          replace F := HM _ _ F hb
          clear hb
          refine hK.out _ _ (HC _ F) (fun hH => ?_)
          clear hK K
          try simp only [LY]
          have hkey := key2.out W1 W.heap.size F sz_left ne_left B1
          rw [← HX.out, ← HA.out] at hkey
          try simp only [LY] at hkey
          exact U_at (by kernel_rfl) (by kernel_rfl) hkey
        replace key0 := Lib.hid key0
        rw [← HX.out]
        have hkey := key0.out w47 F
        rw [← HX.out] at hkey
        exact U_at (by kernel_rfl) (by kernel_rfl) hkey
       case rest =>
        clear hs B3 B5 B6 B0 Bla Blb Blr Bls h6 he14 he16 he18a he21a h22 h23 he26a
        obtain ⟨gleft, sh30, ah30, nh30, ch30, Ah30, Nh30, Ch30, rfl, hg_left, ng_left_inside, ng_left_a, ng_left_b, ng_left_r, ng_left_s, B1, hs, B0, Bla, Blb, Blr, Bls, h6, he14, he16, he18a, he21a, h22, h23, he26a, h30⟩ := hcut
        go_upto_region 17 with fail
        have SW31a := IntWalk.i64_in ((i : Int) + 1) (by omega)
        have SW31b : (0 : Int) ≤ (i : Int) + 1 := by omega
        have SW31c : ((i : Int) + 1).toNat = (i + 1) := by omega
        have SW31d : (i : Int) + 1 < (L.length : Int) := by omega
        have BI32a : (i + 1) < L.length := by omega
        have BI32b : ((i : Int) + 1 : Int) < (L.length : Int) := by omega
        obtain ⟨ge33a, ae33a, ne33a, ce33a, Ae33a, Ne33a, De33a, B4, B7, B8, he33a, le33⟩ := rowP_at (rowsJ PC.kept _ _ _ Fhl.out (bStep HB1_12.out hs)) (show (i + 1) < L.length by omega)
        go_cut [17] (fun kv0 wz => ∃ gright sh38 ah38 nh38 ch38 Ah38 Nh38 Ch38, kv0 = .pointer (some ⟨gright, 0, none⟩) ∧ wr.heap.size ≤ gright ∧ gright ≠ w.heap.size ∧ gright ≠ ga ∧ gright ≠ gb ∧ gright ≠ gr ∧ gright ≠ gs ∧ gright ≠ gleft ∧ Bx wz gright 32 #[.bool sh38, .slice ah38 nh38 ch38, .slice Ah38 Nh38 Ch38] ∧ Below wr.heap.size wr wz ∧ Bx wz (w.heap.size) 32 #[.bool false, .slice none 0 0, .slice none 0 0] ∧ Bx wz (ga) 32 #[.bool ge14, .slice ae14 ne14 ce14, .slice Ae14 Ne14 De14] ∧ Bx wz (gb) 32 #[.bool ge16, .slice ae16 ne16 ce16, .slice Ae16 Ne16 De16] ∧ Bx wz (gr) 32 #[.bool sh22, .slice ah22 nh22 ch22, .slice Ah22 Nh22 Ch22] ∧ Bx wz (gs) 32 #[.bool sh23, .slice ah23 nh23 ch23, .slice Ah23 Nh23 Ch23] ∧ Bx wz (gleft) 32 #[.bool sh30, .slice ah30 nh30 ch30, .slice Ah30 Nh30 Ch30] ∧ PV wz (.agg #[.bool sh6, .slice ah6 nh6 ch6, .slice Ah6 Nh6 Ch6]) (1) ∧ PV wz (.agg #[.bool ge14, .slice ae14 ne14 ce14, .slice Ae14 Ne14 De14]) ((rgW L t).1 i) ∧ PV wz (.agg #[.bool ge16, .slice ae16 ne16 ce16, .slice Ae16 Ne16 De16]) ((rgW L t).2 i) ∧ PV wz (.agg #[.bool ge18a, .slice ae18a ne18a ce18a, .slice Ae18a Ne18a De18a]) (nthQ L i) ∧ PV wz (.agg #[.bool ge21a, .slice ae21a ne21a ce21a, .slice Ae21a Ne21a De21a]) (nthQ L (i + 1)) ∧ PV wz (.agg #[.bool sh22, .slice ah22 nh22 ch22, .slice Ah22 Nh22 Ch22]) (rgR L i) ∧ PV wz (.agg #[.bool sh23, .slice ah23 nh23 ch23, .slice Ah23 Nh23 Ch23]) (nthQ L i + (nthQ L (i + 1))) ∧ PV wz (.agg #[.bool ge26a, .slice ae26a ne26a ce26a, .slice Ae26a Ne26a De26a]) (nthQ L i) ∧ PV wz (.agg #[.bool sh30, .slice ah30 nh30 ch30, .slice Ah30 Nh30 Ch30]) ((rgR L i * ((rgW L t).1 i)) + (((nthQ L i + nthQ L i) / (nthQ L i + (nthQ L (i + 1)))) * ((rgW L t).2 i))) ∧ PV wz (.agg #[.bool ge33a, .slice ae33a ne33a ce33a, .slice Ae33a Ne33a De33a]) (nthQ L (i + 1)) ∧ PV wz (.agg #[.bool sh38, .slice ah38 nh38 ch38, .slice Ah38 Nh38 Ch38]) (((((nthQ L (i + 1)) + (nthQ L (i + 1))) / (nthQ L i + (nthQ L (i + 1)))) * ((rgW L t).1 i)) - (rgR L i * ((rgW L t).2 i))))
        case first => as_aux_lemma =>
         refine U_region (S := fun w' => w'.cell? ⟨gs, 0, none⟩ = some (.bool sh23) ∧ w'.cell? ⟨gs, 1, none⟩ = some (.slice ah23 nh23 ch23) ∧ w'.cell? ⟨gs, 2, none⟩ = some (.slice Ah23 Nh23 Ch23) ∧ w'.cell? ⟨ga, 0, none⟩ = some (.bool ge14) ∧ w'.cell? ⟨ga, 1, none⟩ = some (.slice ae14 ne14 ce14) ∧ w'.cell? ⟨ga, 2, none⟩ = some (.slice Ae14 Ne14 De14) ∧ w'.cell? ⟨gr, 0, none⟩ = some (.bool sh22) ∧ w'.cell? ⟨gr, 1, none⟩ = some (.slice ah22 nh22 ch22) ∧ w'.cell? ⟨gr, 2, none⟩ = some (.slice Ah22 Nh22 Ch22) ∧ w'.cell? ⟨gb, 0, none⟩ = some (.bool ge16) ∧ w'.cell? ⟨gb, 1, none⟩ = some (.slice ae16 ne16 ce16) ∧ w'.cell? ⟨gb, 2, none⟩ = some (.slice Ae16 Ne16 De16) ∧ w'.cell? ⟨bhl, ohl + (i + 1) * 3, none⟩ = some (.bool ge33a) ∧ w'.cell? ⟨bhl, ohl + (i + 1) * 3 + 1, none⟩ = some (.slice ae33a ne33a ce33a) ∧ w'.cell? ⟨bhl, ohl + (i + 1) * 3 + 2, none⟩ = some (.slice Ae33a Ne33a De33a)) (by kernel_rfl) 20 ?_
         refine AnyU.abs ?_
         intro w47 hW
         have hb : Below wc.heap.size wc w47 := by rw [hW]; exact bDrew _
         replace hs := bStep hs hb
         replace B0 := B0.mono hb
         replace Bla := Bla.mono hb
         replace Blb := Blb.mono hb
         replace Blr := Blr.mono hb
         replace Bls := Bls.mono hb
         replace B1 := B1.mono hb
         replace h6 := h6.mono hb
         replace he14 := he14.mono hb
         replace he16 := he16.mono hb
         replace he18a := he18a.mono hb
         replace he21a := he21a.mono hb
         replace h22 := h22.mono hb
         replace h23 := h23.mono hb
         replace he26a := he26a.mono hb
         replace h30 := h30.mono hb
         replace he33a := he33a.mono hb
         replace B4 := cellK B4 hb
         replace B7 := cellK B7 hb
         replace B8 := cellK B8 hb
         clear hb hW
         obtain ⟨FP, HP⟩ : ∃ FP : World → Prop, ∀ W, FP W ↔ (Below wr.heap.size wr W ∧ Bx W (w.heap.size) 32 #[.bool false, .slice none 0 0, .slice none 0 0] ∧ Bx W (ga) 32 #[.bool ge14, .slice ae14 ne14 ce14, .slice Ae14 Ne14 De14] ∧ Bx W (gb) 32 #[.bool ge16, .slice ae16 ne16 ce16, .slice Ae16 Ne16 De16] ∧ Bx W (gr) 32 #[.bool sh22, .slice ah22 nh22 ch22, .slice Ah22 Nh22 Ch22] ∧ Bx W (gs) 32 #[.bool sh23, .slice ah23 nh23 ch23, .slice Ah23 Nh23 Ch23] ∧ Bx W (gleft) 32 #[.bool sh30, .slice ah30 nh30 ch30, .slice Ah30 Nh30 Ch30] ∧ PV W (.agg #[.bool sh6, .slice ah6 nh6 ch6, .slice Ah6 Nh6 Ch6]) (1) ∧ PV W (.agg #[.bool ge14, .slice ae14 ne14 ce14, .slice Ae14 Ne14 De14]) ((rgW L t).1 i) ∧ PV W (.agg #[.bool ge16, .slice ae16 ne16 ce16, .slice Ae16 Ne16 De16]) ((rgW L t).2 i) ∧ PV W (.agg #[.bool ge18a, .slice ae18a ne18a ce18a, .slice Ae18a Ne18a De18a]) (nthQ L i) ∧ PV W (.agg #[.bool ge21a, .slice ae21a ne21a ce21a, .slice Ae21a Ne21a De21a]) (nthQ L (i + 1)) ∧ PV W (.agg #[.bool sh22, .slice ah22 nh22 ch22, .slice Ah22 Nh22 Ch22]) (rgR L i) ∧ PV W (.agg #[.bool sh23, .slice ah23 nh23 ch23, .slice Ah23 Nh23 Ch23]) (nthQ L i + (nthQ L (i + 1))) ∧ PV W (.agg #[.bool ge26a, .slice ae26a ne26a ce26a, .slice Ae26a Ne26a De26a]) (nthQ L i) ∧ PV W (.agg #[.bool sh30, .slice ah30 nh30 ch30, .slice Ah30 Nh30 Ch30]) ((rgR L i * ((rgW L t).1 i)) + (((nthQ L i + nthQ L i) / (nthQ L i + (nthQ L (i + 1)))) * ((rgW L t).2 i))) ∧ PV W (.agg #[.bool ge33a, .slice ae33a ne33a ce33a, .slice Ae33a Ne33a De33a]) (nthQ L (i + 1)) ∧ W.cell? ⟨bhl, ohl + (i + 1) * 3, none⟩ = some (.bool ge33a) ∧ W.cell? ⟨bhl, ohl + (i + 1) * 3 + 1, none⟩ = some (.slice ae33a ne33a ce33a) ∧ W.cell? ⟨bhl, ohl + (i + 1) * 3 + 2, none⟩ = some (.slice Ae33a Ne33a De33a)) := ⟨_, fun _ => Iff.rfl⟩
         have HM : ∀ W W', FP W → Below W.heap.size W W' → FP W' := by intro W W' h hb; obtain ⟨hs, B0, Bla, Blb, Blr, Bls, B1, h6, he14, he16, he18a, he21a, h22, h23, he26a, h30, he33a, B4, B7, B8⟩ := (HP _).1 h; exact (HP _).2 ⟨bStep hs hb, B0.mono hb, Bla.mono hb, Blb.mono hb, Blr.mono hb, Bls.mono hb, B1.mono hb, h6.mono hb, he14.mono hb, he16.mono hb, he18a.mono hb, he21a.mono hb, h22.mono hb, h23.mono hb, he26a.mono hb, h30.mono hb, he33a.mono hb, cellK B4 hb, cellK B7 hb, cellK B8 hb⟩
         have HC : ∀ W, FP W → W.cell? ⟨gs, 0, none⟩ = some (.bool sh23) ∧ W.cell? ⟨gs, 1, none⟩ = some (.slice ah23 nh23 ch23) ∧ W.cell? ⟨gs, 2, none⟩ = some (.slice Ah23 Nh23 Ch23) ∧ W.cell? ⟨ga, 0, none⟩ = some (.bool ge14) ∧ W.cell? ⟨ga, 1, none⟩ = some (.slice ae14 ne14 ce14) ∧ W.cell? ⟨ga, 2, none⟩ = some (.slice Ae14 Ne14 De14) ∧ W.cell? ⟨gr, 0, none⟩ = some (.bool sh22) ∧ W.cell? ⟨gr, 1, none⟩ = some (.slice ah22 nh22 ch22) ∧ W.cell? ⟨gr, 2, none⟩ = some (.slice Ah22 Nh22 Ch22) ∧ W.cell? ⟨gb, 0, none⟩ = some (.bool ge16) ∧ W.cell? ⟨gb, 1, none⟩ = some (.slice ae16 ne16 ce16) ∧ W.cell? ⟨gb, 2, none⟩ = some (.slice Ae16 Ne16 De16) ∧ W.cell? ⟨bhl, ohl + (i + 1) * 3, none⟩ = some (.bool ge33a) ∧ W.cell? ⟨bhl, ohl + (i + 1) * 3 + 1, none⟩ = some (.slice ae33a ne33a ce33a) ∧ W.cell? ⟨bhl, ohl + (i + 1) * 3 + 2, none⟩ = some (.slice Ae33a Ne33a De33a) := by intro W h; obtain ⟨hs, B0, Bla, Blb, Blr, Bls, B1, h6, he14, he16, he18a, he21a, h22, h23, he26a, h30, he33a, B4, B7, B8⟩ := (HP _).1 h; exact ⟨Bls.at 0 rfl, Bls.at 1 rfl, Bls.at 2 rfl, Bla.at 0 rfl, Bla.at 1 rfl, Bla.at 2 rfl, Blr.at 0 rfl, Blr.at 1 rfl, Blr.at 2 rfl, Blb.at 0 rfl, Blb.at 1 rfl, Blb.at 2 rfl, B4, B7, B8⟩
         obtain ⟨NE, HN⟩ : ∃ NE : Nat → Prop, ∀ g, NE g ↔ (w.heap.size ≠ g ∧ ga ≠ g ∧ gb ≠ g ∧ gr ≠ g ∧ gs ≠ g ∧ gleft ≠ g ∧ bhl ≠ g) := ⟨_, fun _ => Iff.rfl⟩
         have HE : ∀ W, FP W → NE W.heap.size := by intro W h; obtain ⟨hs, B0, Bla, Blb, Blr, Bls, B1, h6, he14, he16, he18a, he21a, h22, h23, he26a, h30, he33a, B4, B7, B8⟩ := (HP _).1 h; exact (HN _).2 ⟨Nat.ne_of_lt B0.lt, Nat.ne_of_lt Bla.lt, Nat.ne_of_lt Blb.lt, Nat.ne_of_lt Blr.lt, Nat.ne_of_lt Bls.lt, Nat.ne_of_lt B1.lt, Nat.ne_of_lt (block_lt_of_cell B4)⟩
         have HG : ∀ W W' g, FP W → Gr [g] W W' → KeepD W W' → wr.heap.size ≤ g → NE g → FP W' := by intro W W' g h hG hk hg hn; obtain ⟨hs, B0, Bla, Blb, Blr, Bls, B1, h6, he14, he16, he18a, he21a, h22, h23, he26a, h30, he33a, B4, B7, B8⟩ := (HP _).1 h; obtain ⟨e_inside, e_a, e_b, e_r, e_s, e_left, x0⟩ := (HN g).1 hn; exact (HP _).2 ⟨hs.trans (hG.below1 hs.size hg), hG.bx B0 (notMem1 e_inside), hG.bx Bla (notMem1 e_a), hG.bx Blb (notMem1 e_b), hG.bx Blr (notMem1 e_r), hG.bx Bls (notMem1 e_s), hG.bx B1 (notMem1 e_left), h6.keep hk, he14.keep hk, he16.keep hk, he18a.keep hk, he21a.keep hk, h22.keep hk, h23.keep hk, he26a.keep hk, h30.keep hk, he33a.keep hk, hG.cell B4 (notMem1 x0), hG.cell B7 (notMem1 x0), hG.cell B8 (notMem1 x0)⟩
         have F : FP w47 := (HP _).2 ⟨hs, B0, Bla, Blb, Blr, Bls, B1, h6, he14, he16, he18a, he21a, h22, h23, he26a, h30, he33a, B4, B7, B8⟩
         clear hs B0 Bla Blb Blr Bls B1 h6 he14 he16 he18a he21a h22 h23 he26a h30 he33a B4 B7 B8
         have hH := HC _ F
         refine U_takeD (i := 0) (d := 101) (v := ?_) rfl rfl (by kernel_rfl) (by kernel_rfl) (by kernel_rfl) (by kernel_rfl) (fun _ _ _ h => h) (Or.inl ⟨by rfl, ?_⟩) hH ?_
         rotate_left
         ·intro w hSw
          try dsimp only at hSw
          go_simp
          try with_reducible rfl
         simp only [LY]
         refine U_takeD (i := 1) (d := 102) (v := ?_) rfl rfl (by kernel_rfl) (by kernel_rfl) (by kernel_rfl) (by kernel_rfl) (fun _ _ _ h => h) (Or.inl ⟨by rfl, ?_⟩) hH ?_
         rotate_left
         ·intro w hSw
          try dsimp only at hSw
          go_simp
          try with_reducible rfl
         simp only [LY]
         refine U_takeD (i := 2) (d := 103) (v := ?_) rfl rfl (by kernel_rfl) (by kernel_rfl) (by kernel_rfl) (by kernel_rfl) (fun _ _ _ h => h) (Or.inl ⟨by rfl, ?_⟩) hH ?_
         rotate_left
         ·intro w hSw
          try dsimp only at hSw
          go_simp
          try with_reducible rfl
         simp only [LY]
         refine U_takeD (i := 3) (d := 104) (v := ?_) rfl rfl (by kernel_rfl) (by kernel_rfl) (by kernel_rfl) (by kernel_rfl) (fun _ _ _ h => h) (Or.inl ⟨by rfl, ?_⟩) hH ?_
         rotate_left
         ·intro w hSw
          try dsimp only at hSw
          go_simp
          try with_reducible rfl
         simp only [LY]
         refine U_takeD (i := 4) (d := 105) (v := ?_) rfl rfl (by kernel_rfl) (by kernel_rfl) (by kernel_rfl) (by kernel_rfl) (fun _ _ _ h => h) (Or.inl ⟨by rfl, ?_⟩) hH ?_
         rotate_left
         ·intro w hSw
          try dsimp only at hSw
          go_simp
          try with_reducible rfl
         simp only [LY]
         refine U_takeD (i := 5) (d := 106) (v := ?_) rfl rfl (by kernel_rfl) (by kernel_rfl) (by kernel_rfl) (by kernel_rfl) (fun _ _ _ h => h) (Or.inl ⟨by rfl, ?_⟩) hH ?_
         rotate_left
         ·intro w hSw
          try dsimp only at hSw
          go_simp
          try with_reducible rfl
         simp only [LY]
         refine U_takeD (i := 6) (d := 107) (v := ?_) rfl rfl (by kernel_rfl) (by kernel_rfl) (by kernel_rfl) (by kernel_rfl) (fun _ _ _ h => h) (Or.inl ⟨by rfl, ?_⟩) hH ?_
         rotate_left
         ·intro w hSw
          try dsimp only at hSw
          go_simp
          try with_reducible rfl
         simp only [LY]
         refine U_takeD (i := 7) (d := 108) (v := ?_) rfl rfl (by kernel_rfl) (by kernel_rfl) (by kernel_rfl) (by kernel_rfl) (fun _ _ _ h => h) (Or.inl ⟨by rfl, ?_⟩) hH ?_
         rotate_left
         ·intro w hSw
          try dsimp only at hSw
          go_simp
          try with_reducible rfl
         simp only [LY]
         refine U_takeD (i := 8) (d := 109) (v := ?_) rfl rfl (by kernel_rfl) (by kernel_rfl) (by kernel_rfl) (by kernel_rfl) (fun _ _ _ h => h) (Or.inl ⟨by rfl, ?_⟩) hH ?_
         rotate_left
         ·intro w hSw
          try dsimp only at hSw
          go_simp
          try with_reducible rfl
         simp only [LY]
         refine U_takeD (i := 9) (d := 110) (v := ?_) rfl rfl (by kernel_rfl) (by kernel_rfl) (by kernel_rfl) (by kernel_rfl) (fun _ _ _ h => h) (Or.inl ⟨by rfl, ?_⟩) hH ?_
         rotate_left
         ·intro w hSw
          try dsimp only at hSw
          go_simp
          try with_reducible rfl
         simp only [LY]
         refine U_takeD (i := 11) (d := 112) (v := ?_) rfl rfl (by kernel_rfl) (by kernel_rfl) (by kernel_rfl) (by kernel_rfl) (fun _ _ _ h => h) (Or.inl ⟨by rfl, ?_⟩) hH ?_
         rotate_left
         ·intro w hSw
          try dsimp only at hSw
          go_simp
          try with_reducible rfl
         simp only [LY]
         refine U_takeD (i := 13) (d := 114) (v := ?_) rfl rfl (by kernel_rfl) (by kernel_rfl) (by kernel_rfl) (by kernel_rfl) (fun _ _ _ h => h) (Or.inl ⟨by rfl, ?_⟩) hH ?_
         rotate_left
         ·intro w hSw
          try dsimp only at hSw
          go_simp
          try with_reducible rfl
         simp only [LY]
         refine U_takeD (i := 15) (d := 116) (v := ?_) rfl rfl (by kernel_rfl) (by kernel_rfl) (by kernel_rfl) (by kernel_rfl) (fun _ _ _ h => h) (Or.inl ⟨by rfl, ?_⟩) hH ?_
         rotate_left
         ·intro w hSw
          try dsimp only at hSw
          go_simp
          try with_reducible rfl
         simp only [LY]
         refine U_takeD (i := 16) (d := 117) (v := ?_) rfl rfl (by kernel_rfl) (by kernel_rfl) (by kernel_rfl) (by kernel_rfl) (fun _ _ _ h => h) (Or.inl ⟨by rfl, ?_⟩) hH ?_
         rotate_left
         ·intro w hSw
          try dsimp only at hSw
          go_simp
          try with_reducible rfl
         simp only [LY]
         clear hH
         refine U_letters ?_
         intro X a0 HX HA
         have key11 : ∀ (W : World) (g_right : Nat) (uh34 : Value) (uh35 : Value) (uh36 : Value) (uh37 : Value) (uh38 : Value), FP W → (wr.heap.size ≤ g_right) → (NE g_right) → (Bx W g_right 32 #[.bool false, .slice none 0 0, .slice none 0 0]) → (PV W uh38 (((((nthQ L (i + 1)) + (nthQ L (i + 1))) / (nthQ L i + (nthQ L (i + 1)))) * ((rgW L t).1 i)) - (rgR L i * ((rgW L t).2 i)))) → X 1 #[true, true, true, true, true, true, true, true, true, true, true, true, true, true, true, true, true, true, true, true, false] ((((((a0.put (some 111) (uh34)).put (some 113) (uh35)).put (some 115) (uh36)).put (some 118) (uh37)).put (some 119) (uh38)).put (some 17) (.pointer (some ⟨g_right, 0, none⟩))) W := by
          intro W g_right uh34 uh35 uh36 uh37 uh38 F sz_right ne_right B2 h38
          rw [← HX.out, ← HA.out]
          try simp only [LY]
          obtain ⟨sh38, ah38, nh38, ch38, Ah38, Nh38, Ch38, rfl⟩ := h38.shape
          have Bm := B2.a0
          have Bn := B2.a1
          have Bo := B2.a2
          have fright := B2.free
          have Lright := B2.lt
          refine U_last (by kernel_rfl) rfl (by kernel_rfl) (fun K hK => ?_)
          go_simp
          refine hK.out _ _ ?_
          clear hK K
          intro w48 hW
          have hG : Gr [g_right] W w48 := by rw [hW]; exact (Gr.refl _ _).set.set.set
          have hk : KeepD W w48 := hG.keep ⟨⟨_, B2.ty, by decide⟩, True.intro⟩
          replace B2 : Bx w48 (g_right) 32 #[.bool sh38, .slice ah38 nh38 ch38, .slice Ah38 Nh38 Ch38] := by rw [hW]; exact B2.set3
          replace F := HG _ _ _ F hG hk sz_right ne_right
          replace h38 := h38.keep hk
          clear hW hG hk
          obtain ⟨hs, B0, Bla, Blb, Blr, Bls, B1, h6, he14, he16, he18a, he21a, h22, h23, he26a, h30, he33a, B4, B7, B8⟩ := (HP _).1 F
          try simp only [LY]
          obtain ⟨e_inside_right, e_a_right, e_b_right, e_r_right, e_s_right, e_left_right, x0_right⟩ := (HN _).1 ne_right
          clear HX HA HM HP HC HG HN HE
          go_wp2_with fail
          go_meet
          exact ⟨g_right, _, _, _, _, _, _, _, rfl, (by first | exact sz_right | omega), (by omega), (by omega), (by omega), (by omega), (by omega), (by omega), B2, hs, B0, Bla, Blb, Blr, Bls, B1, h6, he14, he16, he18a, he21a, h22, h23, he26a, h30, he33a, h38⟩
         replace key11 := Lib.hid key11
         have key10 : ∀ (W : World) (g_right : Nat) (uh34 : Value) (uh35 : Value) (uh36 : Value) (uh37 : Value), FP W → (wr.heap.size ≤ g_right) → (NE g_right) → (Bx W g_right 32 #[.bool false, .slice none 0 0, .slice none 0 0]) → (PV W uh36 ((((nthQ L (i + 1)) + (nthQ L (i + 1))) / (nthQ L i + (nthQ L (i + 1)))) * ((rgW L t).1 i))) → (PV W uh37 (rgR L i * ((rgW L t).2 i))) → X 2 #[true, true, true, true, true, true, true, true, true, true, true, true, true, true, true, true, true, true, false, true, false] (((((a0.put (some 111) (uh34)).put (some 113) (uh35)).put (some 115) (uh36)).put (some 118) (uh37)).put (some 17) (.pointer (some ⟨g_right, 0, none⟩))) W := by
          intro W g_right uh34 uh35 uh36 uh37 F sz_right ne_right B2 h36 h37
          rw [← HX.out, ← HA.out]
          try simp only [LY]
          refine U_one (i := 18) (by kernel_rfl) rfl (fun K hK => ?_)
          obtain ⟨hs, B0, Bla, Blb, Blr, Bls, B1, h6, he14, he16, he18a, he21a, h22, h23, he26a, h30, he33a, B4, B7, B8⟩ := (HP _).1 F
          go_simp
          (with_reducible refine (pSub h36 h37 (SzQ.fit (SzQ.mul (SzQ.div (SzQ.add (HZ.out (i + 1) (by omega)) (HZ.out (i + 1) (by omega))) (SzQ.add (HZ.out i (by omega)) (HZ.out (i + 1) (by omega))) (by have h := (HRS.out i (by omega)).2; rwa [Rat.add_comm] at h)) (HWS.out t (by omega) i).1)) (SzQ.fit (SzQ.mul (HRS.out i (by omega)).1 (HWS.out t (by omega) i).2))).mono ?_)
          rintro e W1 ⟨uh38, rfl, h38, hb⟩
          replace F := HM _ _ F hb
          replace B2 := B2.mono hb
          replace h36 := h36.mono hb
          replace h37 := h37.mono hb
          clear hb hs B0 Bla Blb Blr Bls B1 h6 he14 he16 he18a he21a h22 h23 he26a h30 he33a B4 B7 B8
          try go_wp2_with fail
          refine hK.out _ _ (HC _ F) (fun hH => ?_)
          clear hK K
          try simp only [LY]
          have hkey := key11.out W1 g_right uh34 uh35 uh36 uh37 uh38 F sz_right ne_right B2 h38
          rw [← HX.out, ← HA.out] at hkey
          try simp only [LY] at hkey
          exact U_at (by kernel_rfl) (by kernel_rfl) hkey
         replace key10 := Lib.hid key10
         have key9 : ∀ (W : World) (uh34 : Value) (uh35 : Value) (uh36 : Value) (uh37 : Value) (uh38 : Value), FP W → (PV W uh38 (((((nthQ L (i + 1)) + (nthQ L (i + 1))) / (nthQ L i + (nthQ L (i + 1)))) * ((rgW L t).1 i)) - (rgR L i * ((rgW L t).2 i)))) → X 2 #[true, true, true, true, true, true, true, true, true, true, true, true, true, true, true, true, true, true, true, false, false] (((((a0.put (some 111) (uh34)).put (some 113) (uh35)).put (some 115) (uh36)).put (some 118) (uh37)).put (some 119) (uh38)) W := by
          intro W uh34 uh35 uh36 uh37 uh38 F h38
          rw [← HX.out, ← HA.out]
          try simp only [LY]
          refine U_one (i := 19) (by kernel_rfl) rfl (fun K hK => ?_)
          go_simp
          refine alloc_letter ((HP _).1 F).1 (fun W1 hb B2 sz_right => ?_)
          have ne_right := HE _ F
          replace F := HM _ _ F hb
          replace h38 := h38.mono hb
          clear hb
          refine hK.out _ _ (HC _ F) (fun hH => ?_)
          clear hK K
          try simp only [LY]
          have hkey := key11.out W1 W.heap.size uh34 uh35 uh36 uh37 uh38 F sz_right ne_right B2 h38
          rw [← HX.out, ← HA.out] at hkey
          try simp only [LY] at hkey
          exact U_at (by kernel_rfl) (by kernel_rfl) hkey
         replace key9 := Lib.hid key9
         have key8 : ∀ (W : World) (g_right : Nat) (uh34 : Value) (uh35 : Value) (uh36 : Value), FP W → (wr.heap.size ≤ g_right) → (NE g_right) → (Bx W g_right 32 #[.bool false, .slice none 0 0, .slice none 0 0]) → (PV W uh36 ((((nthQ L (i + 1)) + (nthQ L (i + 1))) / (nthQ L i + (nthQ L (i + 1)))) * ((rgW L t).1 i))) → X 3 #[true, true, true, true, true, true, true, true, true, true, true, true, true, true, true, true, true, false, false, true, false] ((((a0.put (some 111) (uh34)).put (some 113) (uh35)).put (some 115) (uh36)).put (some 17) (.pointer (some ⟨g_right, 0, none⟩))) W := by
          intro W g_right uh34 uh35 uh36 F sz_right ne_right B2 h36
          rw [← HX.out, ← HA.out]
          try simp only [LY]
          refine U_one (i := 17) (by kernel_rfl) rfl (fun K hK => ?_)
          obtain ⟨hs, B0, Bla, Blb, Blr, Bls, B1, h6, he14, he16, he18a, he21a, h22, h23, he26a, h30, he33a, B4, B7, B8⟩ := (HP _).1 F
          go_simp
          (with_reducible refine (pMul h22 he16 (SzQ.fit (HRS.out i (by omega)).1) (SzQ.fit (HWS.out t (by omega) i).2)).mono ?_)
          rintro e W1 ⟨uh37, rfl, h37, hb⟩
          replace F := HM _ _ F hb
          replace B2 := B2.mono hb
          replace h36 := h36.mono hb
          clear hb hs B0 Bla Blb Blr Bls B1 h6 he14 he16 he18a he21a h22 h23 he26a h30 he33a B4 B7 B8
          try go_wp2_with fail
          refine hK.out _ _ (HC _ F) (fun hH => ?_)
          clear hK K
          try simp only [LY]
          have hkey := key10.out W1 g_right uh34 uh35 uh36 uh37 F sz_right ne_right B2 h36 h37
          rw [← HX.out, ← HA.out] at hkey
          try simp only [LY] at hkey
          exact U_at (by kernel_rfl) (by kernel_rfl) hkey
         replace key8 := Lib.hid key8
         have key7 : ∀ (W : World) (uh34 : Value) (uh35 : Value) (uh36 : Value) (uh37 : Value), FP W → (PV W uh36 ((((nthQ L (i + 1)) + (nthQ L (i + 1))) / (nthQ L i + (nthQ L (i + 1)))) * ((rgW L t).1 i))) → (PV W uh37 (rgR L i * ((rgW L t).2 i))) → X 3 #[true, true, true, true, true, true, true, true, true, true, true, true, true, true, true, true, true, true, false, false, false] ((((a0.put (some 111) (uh34)).put (some 113) (uh35)).put (some 115) (uh36)).put (some 118) (uh37)) W := by
          intro W uh34 uh35 uh36 uh37 F h36 h37
          rw [← HX.out, ← HA.out]
          try simp only [LY]
          refine U_two (i := 18) (j := 19) (by kernel_rfl) rfl rfl  (fun K hK => ?_) (fun K hK => ?_)
          ·obtain ⟨hs, B0, Bla, Blb, Blr, Bls, B1, h6, he14, he16, he18a, he21a, h22, h23, he26a, h30, he33a, B4, B7, B8⟩ := (HP _).1 F
           go_simp
           (with_reducible refine (pSub h36 h37 (SzQ.fit (SzQ.mul (SzQ.div (SzQ.add (HZ.out (i + 1) (by omega)) (HZ.out (i + 1) (by omega))) (SzQ.add (HZ.out i (by omega)) (HZ.out (i + 1) (by omega))) (by have h := (HRS.out i (by omega)).2; rwa [Rat.add_comm] at h)) (HWS.out t (by omega) i).1)) (SzQ.fit (SzQ.mul (HRS.out i (by omega)).1 (HWS.out t (by omega) i).2))).mono ?_)
           rintro e W1 ⟨uh38, rfl, h38, hb⟩
           replace F := HM _ _ F hb
           replace h36 := h36.mono hb
           replace h37 := h37.mono hb
           clear hb hs B0 Bla Blb Blr Bls B1 h6 he14 he16 he18a he21a h22 h23 he26a h30 he33a B4 B7 B8
           try go_wp2_with fail
           refine hK.out _ _ (HC _ F) (fun hH => ?_)
           clear hK K
           try simp only [LY]
           have hkey := key9.out W1 uh34 uh35 uh36 uh37 uh38 F h38
           rw [← HX.out, ← HA.out] at hkey
           try simp only [LY] at hkey
           exact U_at (by kernel_rfl) (by kernel_rfl) hkey
          ·go_simp
           refine alloc_letter ((HP _).1 F).1 (fun W1 hb B2 sz_right => ?_)
           have ne_right := HE _ F
           replace F := HM _ _ F hb
           replace h36 := h36.mono hb
           replace h37 := h37.mono hb
           clear hb
           refine hK.out _ _ (HC _ F) (fun hH => ?_)
           clear hK K
           try simp only [LY]
           have hkey := key10.out W1 W.heap.size uh34 uh35 uh36 uh37 F sz_right ne_right B2 h36 h37
           rw [← HX.out, ← HA.out] at hkey
           try simp only [LY] at hkey
           exact U_at (by kernel_rfl) (by kernel_rfl) hkey
         replace key7 := Lib.hid key7
         have key6 : ∀ (W : World) (g_right : Nat) (uh34 : Value) (uh35 : Value), FP W → (wr.heap.size ≤ g_right) → (NE g_right) → (Bx W g_right 32 #[.bool false, .slice none 0 0, .slice none 0 0]) → (PV W uh35 (((nthQ L (i + 1)) + (nthQ L (i + 1))) / (nthQ L i + (nthQ L (i + 1))))) → X 4 #[true, true, true, true, true, true, true, true, true, true, true, true, true, true, false, true, true, false, false, true, false] (((a0.put (some 111) (uh34)).put (some 113) (uh35)).put (some 17) (.pointer (some ⟨g_right, 0, none⟩))) W := by
          intro W g_right uh34 uh35 F sz_right ne_right B2 h35
          rw [← HX.out, ← HA.out]
          try simp only [LY]
          refine U_one (i := 14) (by kernel_rfl) rfl (fun K hK => ?_)
          obtain ⟨hs, B0, Bla, Blb, Blr, Bls, B1, h6, he14, he16, he18a, he21a, h22, h23, he26a, h30, he33a, B4, B7, B8⟩ := (HP _).1 F
          go_simp
          (with_reducible refine (pMul h35 he14 (SzQ.fit (SzQ.div (SzQ.add (HZ.out (i + 1) (by omega)) (HZ.out (i + 1) (by omega))) (SzQ.add (HZ.out i (by omega)) (HZ.out (i + 1) (by omega))) (by have h := (HRS.out i (by omega)).2; rwa [Rat.add_comm] at h))) (SzQ.fit (HWS.out t (by omega) i).1)).mono ?_)
          rintro e W1 ⟨uh36, rfl, h36, hb⟩
          replace F := HM _ _ F hb
          replace B2 := B2.mono hb
          replace h35 := h35.mono hb
          clear hb hs B0 Bla Blb Blr Bls B1 h6 he14 he16 he18a he21a h22 h23 he26a h30 he33a B4 B7 B8
          try go_wp2_with fail
          refine hK.out _ _ (HC _ F) (fun hH => ?_)
          clear hK K
          try simp only [LY]
          have hkey := key8.out W1 g_right uh34 uh35 uh36 F sz_right ne_right B2 h36
          rw [← HX.out, ← HA.out] at hkey
          try simp only [LY] at hkey
          exact U_at (by kernel_rfl) (by kernel_rfl) hkey
         replace key6 := Lib.hid key6
         have key5 : ∀ (W : World) (uh34 : Value) (uh35 : Value) (uh36 : Value), FP W → (PV W uh36 ((((nthQ L (i + 1)) + (nthQ L (i + 1))) / (nthQ L i + (nthQ L (i + 1)))) * ((rgW L t).1 i))) → X 4 #[true, true, true, true, true, true, true, true, true, true, true, true, true, true, true, true, true, false, false, false, false] (((a0.put (some 111) (uh34)).put (some 113) (uh35)).put (some 115) (uh36)) W := by
          intro W uh34 uh35 uh36 F h36
          rw [← HX.out, ← HA.out]
          try simp only [LY]
          refine U_two (i := 17) (j := 19) (by kernel_rfl) rfl rfl  (fun K hK => ?_) (fun K hK => ?_)
          ·obtain ⟨hs, B0, Bla, Blb, Blr, Bls, B1, h6, he14, he16, he18a, he21a, h22, h23, he26a, h30, he33a, B4, B7, B8⟩ := (HP _).1 F
           go_simp
           (with_reducible refine (pMul h22 he16 (SzQ.fit (HRS.out i (by omega)).1) (SzQ.fit (HWS.out t (by omega) i).2)).mono ?_)
           rintro e W1 ⟨uh37, rfl, h37, hb⟩
           replace F := HM _ _ F hb
           replace h36 := h36.mono hb
           clear hb hs B0 Bla Blb Blr Bls B1 h6 he14 he16 he18a he21a h22 h23 he26a h30 he33a B4 B7 B8
           try go_wp2_with fail
           refine hK.out _ _ (HC _ F) (fun hH => ?_)
           clear hK K
           try simp only [LY]
           have hkey := key7.out W1 uh34 uh35 uh36 uh37 F h36 h37
           rw [← HX.out, ← HA.out] at hkey
           try simp only [LY] at hkey
           exact U_at (by kernel_rfl) (by kernel_rfl) hkey
          ·go_simp
           refine alloc_letter ((HP _).1 F).1 (fun W1 hb B2 sz_right => ?_)
           have ne_right := HE _ F
           replace F := HM _ _ F hb
           replace h36 := h36.mono hb
           clear hb
           refine hK.out _ _ (HC _ F) (fun hH => ?_)
           clear hK K
           try simp only [LY]
           have hkey := key8.out W1 W.heap.size uh34 uh35 uh36 F sz_right ne_right B2 h36
           rw [← HX.out, ← HA.out] at hkey
           try simp only [LY] at hkey
           exact U_at (by kernel_rfl) (by kernel_rfl) hkey
         replace key5 := Lib.hid key5
         have key4 : ∀ (W : World) (g_right : Nat) (uh34 : Value), FP W → (wr.heap.size ≤ g_right) → (NE g_right) → (Bx W g_right 32 #[.bool false, .slice none 0 0, .slice none 0 0]) → (PV W uh34 ((nthQ L (i + 1)) + (nthQ L (i + 1)))) → X 5 #[true, true, true, true, true, true, true, true, true, true, true, true, false, true, false, true, true, false, false, true, false] ((a0.put (some 111) (uh34)).put (some 17) (.pointer (some ⟨g_right, 0, none⟩))) W := by
          intro W g_right uh34 F sz_right ne_right B2 h34
          rw [← HX.out, ← HA.out]
          try simp only [LY]
          refine U_one (i := 12) (by kernel_rfl) rfl (fun K hK => ?_)
          obtain ⟨hs, B0, Bla, Blb, Blr, Bls, B1, h6, he14, he16, he18a, he21a, h22, h23, he26a, h30, he33a, B4, B7, B8⟩ := (HP _).1 F
          go_simp
          (with_reducible refine (sc_over _ _ _ _ _ h34 h23 (SzQ.fit (SzQ.add (HZ.out (i + 1) (by omega)) (HZ.out (i + 1) (by omega)))) (SzQ.fit (SzQ.add (HZ.out i (by omega)) (HZ.out (i + 1) (by omega)))) (by have h := (HRS.out i (by omega)).2; rwa [Rat.add_comm] at h)).mono ?_)
          rintro e W1 ⟨uh35, rfl, h35, hb⟩
          replace F := HM _ _ F hb
          replace B2 := B2.mono hb
          replace h34 := h34.mono hb
          clear hb hs B0 Bla Blb Blr Bls B1 h6 he14 he16 he18a he21a h22 h23 he26a h30 he33a B4 B7 B8
          try go_wp2_with fail
          refine hK.out _ _ (HC _ F) (fun hH => ?_)
          clear hK K
          try simp only [LY]
          have hkey := key6.out W1 g_right uh34 uh35 F sz_right ne_right B2 h35
          rw [← HX.out, ← HA.out] at hkey
          try simp only [LY] at hkey
          exact U_at (by kernel_rfl) (by kernel_rfl) hkey
         replace key4 := Lib.hid key4
         have key3 : ∀ (W : World) (uh34 : Value) (uh35 : Value), FP W → (PV W uh35 (((nthQ L (i + 1)) + (nthQ L (i + 1))) / (nthQ L i + (nthQ L (i + 1))))) → X 5 #[true, true, true, true, true, true, true, true, true, true, true, true, true, true, false, true, true, false, false, false, false] ((a0.put (some 111) (uh34)).put (some 113) (uh35)) W := by
          intro W uh34 uh35 F h35
          rw [← HX.out, ← HA.out]
          try simp only [LY]
          refine U_two (i := 14) (j := 19) (by kernel_rfl) rfl rfl  (fun K hK => ?_) (fun K hK => ?_)
          ·obtain ⟨hs, B0, Bla, Blb, Blr, Bls, B1, h6, he14, he16, he18a, he21a, h22, h23, he26a, h30, he33a, B4, B7, B8⟩ := (HP _).1 F
           go_simp
           (with_reducible refine (pMul h35 he14 (SzQ.fit (SzQ.div (SzQ.add (HZ.out (i + 1) (by omega)) (HZ.out (i + 1) (by omega))) (SzQ.add (HZ.out i (by omega)) (HZ.out (i + 1) (by omega))) (by have h := (HRS.out i (by omega)).2; rwa [Rat.add_comm] at h))) (SzQ.fit (HWS.out t (by omega) i).1)).mono ?_)
           rintro e W1 ⟨uh36, rfl, h36, hb⟩
           replace F := HM _ _ F hb
           replace h35 := h35.mono hb
           clear hb hs B0 Bla Blb Blr Bls B1 h6 he14 he16 he18a he21a h22 h23 he26a h30 he33a B4 B7 B8
           try go_wp2_with fail
           refine hK.out _ _ (HC _ F) (fun hH => ?_)
           clear hK K
           try simp only [LY]
           have hkey := key5.out W1 uh34 uh35 uh36 F h36
           rw [← HX.out, ← HA.out] at hkey
           try simp only [LY] at hkey
           exact U_at (by kernel_rfl) (by kernel_rfl) hkey
          ·go_simp
           refine alloc_letter ((HP _).1 F).1 (fun W1 hb B2 sz_right => ?_)
           have ne_right := HE _ F
           replace F := HM _ _ F hb
           replace h35 := h35.mono hb
           clear hb
           refine hK.out _ _ (HC _ F) (fun hH => ?_)
           clear hK K
           try simp only [LY]
           have hkey := key6.out W1 W.heap.size uh34 uh35 F sz_right ne_right B2 h35
           rw [← HX.out, ← HA.out] at hkey
           try simp only [LY] at hkey
           exact U_at (by kernel_rfl) (by kernel_rfl) hkey
         replace key3 := Lib.hid key3
         have key2 : ∀ (W : World) (g_right : Nat), FP W → (wr.heap.size ≤ g_right) → (NE g_right) → (Bx W g_right 32 #[.bool false, .slice none 0 0, .slice none 0 0]) → X 6 #[true, true, true, true, true, true, true, true, true, true, false, true, false, true, false, true, true, false, false, true, false] (a0.put (some 17) (.pointer (some ⟨g_right, 0, none⟩))) W := by
          intro W g_right F sz_right ne_right B2
          rw [← HX.out, ← HA.out]
          try simp only [LY]
          refine U_one (i := 10) (by kernel_rfl) rfl (fun K hK => ?_)
          obtain ⟨hs, B0, Bla, Blb, Blr, Bls, B1, h6, he14, he16, he18a, he21a, h22, h23, he26a, h30, he33a, B4, B7, B8⟩ := (HP _).1 F
          go_simp
          (with_reducible refine (pAdd he33a he33a (SzQ.fit (HZ.out (i + 1) (by omega))) (SzQ.fit (HZ.out (i + 1) (by omega)))).mono ?_)
          rintro e W1 ⟨uh34, rfl, h34, hb⟩
          replace F := HM _ _ F hb
          replace B2 := B2.mono hb
          clear hb hs B0 Bla Blb Blr Bls B1 h6 he14 he16 he18a he21a h22 h23 he26a h30 he33a B4 B7 B8
          try go_wp2_with fail
          refine hK.out _ _ (HC _ F) (fun hH => ?_)
          clear hK K
          try simp only [LY]
          have hkey := key4.out W1 g_right uh34 F sz_right ne_right B2 h34
          rw [← HX.out, ← HA.out] at hkey
          try simp only [LY] at hkey
          exact U_at (by kernel_rfl) (by kernel_rfl) hkey
         replace key2 := Lib.hid key2
         have key1 : ∀ (W : World) (uh34 : Value), FP W → (PV W uh34 ((nthQ L (i + 1)) + (nthQ L (i + 1)))) → X 6 #[true, true, true, true, true, true, true, true, true, true, true, true, false, true, false, true, true, false, false, false, false] (a0.put (some 111) (uh34)) W := by
          intro W uh34 F h34
          rw [← HX.out, ← HA.out]
          try simp only [LY]
          refine U_two (i := 12) (j := 19) (by kernel_rfl) rfl rfl  (fun K hK => ?_) (fun K hK => ?_)
          ·obtain ⟨hs, B0, Bla, Blb, Blr, Bls, B1, h6, he14, he16, he18a, he21a, h22, h23, he26a, h30, he33a, B4, B7, B8⟩ := (HP _).1 F
           go_simp
           (with_reducible refine (sc_over _ _ _ _ _ h34 h23 (SzQ.fit (SzQ.add (HZ.out (i + 1) (by omega)) (HZ.out (i + 1) (by omega)))) (SzQ.fit (SzQ.add (HZ.out i (by omega)) (HZ.out (i + 1) (by omega)))) (by have h := (HRS.out i (by omega)).2; rwa [Rat.add_comm] at h)).mono ?_)
           rintro e W1 ⟨uh35, rfl, h35, hb⟩
           replace F := HM _ _ F hb
           replace h34 := h34.mono hb
           clear hb hs B0 Bla Blb Blr Bls B1 h6 he14 he16 he18a he21a h22 h23 he26a h30 he33a B4 B7 B8
           try go_wp2_with fail
           refine hK.out _ _ (HC _ F) (fun hH => ?_)
           clear hK K
           try simp only [LY]
           have hkey := key3.out W1 uh34 uh35 F h35
           rw [← HX.out, ← HA.out] at hkey
           try simp only [LY] at hkey
           exact U_at (by kernel_rfl) (by kernel_rfl) hkey
          ·go_simp
           refine alloc_letter ((HP _).1 F).1 (fun W1 hb B2 sz_right => ?_)
           have ne_right := HE _ F
           replace F := HM _ _ F hb
           replace h34 := h34.mono hb
           clear hb
           refine hK.out _ _ (HC _ F) (fun hH => ?_)
           clear hK K
           try simp only [LY]
           have hkey := key4.out W1 W.heap.size uh34 F sz_right ne_right B2 h34
           rw [← HX.out, ← HA.out] at hkey
           try simp only [LY] at hkey
           exact U_at (by kernel_rfl) (by kernel_rfl) hkey
         replace key1 := Lib.hid key1
         have key0 : ∀ (W : World), FP W → X 7 #[true, true, true, true, true, true, true, true, true, true, false, true, false, true, false, true, true, false, false, false, false] a0 W := by
          intro W F
          rw [← HX.out, ← HA.out]
          try simp only [LY]
          refine U_two (i := 10) (j := 19) (by kernel_rfl) rfl rfl  (fun K hK => ?_) (fun K hK => ?_)
          ·obtain ⟨hs, B0, Bla, Blb, Blr, Bls, B1, h6, he14, he16, he18a, he21a, h22, h23, he26a, h30, he33a, B4, B7, B8⟩ := (HP _).1 F
           go_simp
           (with_reducible refine (pAdd he33a he33a (SzQ.fit (HZ.out (i + 1) (by omega))) (SzQ.fit (HZ.out (i + 1) (by omega)))).mono ?_)
           rintro e W1 ⟨uh34, rfl, h34, hb⟩
           replace F := HM _ _ F hb
           clear hb hs B0 Bla Blb Blr Bls B1 h6 he14 he16 he18a he21a h22 h23 he26a h30 he33a B4 B7 B8
           try go_wp2_with fail
           refine hK.out _ _ (HC _ F) (fun hH => ?_)
           clear hK K
           try simp only [LY]
           have hkey := key1.out W1 uh34 F h34
           rw [← HX.out, ← HA.out] at hkey
           try simp only [LY] at hkey
           exact U_at (by kernel_rfl) (by kernel_rfl) hkey
          ·go_simp
           refine alloc_letter ((HP _).1 F).1 (fun W1 hb B2 sz_right => ?_)
           have ne_right := HE _ F
           replace F := HM _ _ F hb
           clear hb
           refine hK.out _ _ (HC _ F) (fun hH => ?_)
           clear hK K
           try simp only [LY]
           have hkey := key2.out W1 W.heap.size F sz_right ne_right B2
           rw [← HX.out, ← HA.out] at hkey
           try simp only [LY] at hkey
           exact U_at (by kernel_rfl) (by kernel_rfl) hkey
         replace key0 := Lib.hid key0
         rw [← HX.out]
         have hkey := key0.out w47 F
         rw [← HX.out] at hkey
         exact U_at (by kernel_rfl) (by kernel_rfl) hkey
        case rest =>
         clear hs B4 B7 B8 B0 Bla Blb Blr Bls B1 h6 he14 he16 he18a he21a h22 h23 he26a h30 he33a
         obtain ⟨gright, sh38, ah38, nh38, ch38, Ah38, Nh38, Ch38, rfl, hg_right, ng_right_inside, ng_right_a, ng_right_b, ng_right_r, ng_right_s, ng_right_left, B2, hs, B0, Bla, Blb, Blr, Bls, B1, h6, he14, he16, he18a, he21a, h22, h23, he26a, h30, he33a, h38⟩ := hcut
         go_upto_region 18 with fail
         replace h30 := h30.of_eq (show _ = tlQ L (rgW L t) i from tl_prog (HRS.out i (by omega)).2)
         replace h38 := h38.of_eq (show _ = trQ L (rgW L t) i from tr_prog (HRS.out i (by omega)).2)
         clear Bla Blb Blr Bls he14 he16 he18a he21a h22 h23 he26a he33a
         clear ng_a_inside ng_b_inside ng_a_b ng_r_inside ng_r_a ng_r_b ng_s_inside ng_s_a ng_s_b ng_r_s ng_left_inside ng_left_a ng_left_b ng_left_r ng_left_s ng_right_inside ng_right_a ng_right_b ng_right_r ng_right_s hg_a hg_b hg_r hg_s
         have Ap_back_left := FOback.out.ap (g := gleft) (by omega)
         have Ap_back_right := FOback.out.ap (g := gright) (by omega)
         have Ap_through_left := FOthrough.out.ap (g := gleft) (by omega)
         have Ap_through_right := FOthrough.out.ap (g := gright) (by omega)
         have Oback := FOback.out.mono PC.kept hs
         have Othrough := FOthrough.out.mono PC.kept hs
         have Vnow := VecR.mono PC.kept FVnow.out hs
         have Vnext := VecR.mono PC.kept FVnext.out hs
         replace hs := bStep HB1_12.out hs
         by_cases q39 : i = 0
         ·have q39b : ((i : Int) == 0) = true := beq_iff_eq.2 (by omega)
          have q39n : ((i : Int) != 0) = false := bne_eq_false_iff_eq.2 (by omega)
          have q39H := Lib.hid q39
          clear q39
          have C1 := B1.a0
          have C2 := B1.a1
          have C3 := B1.a2
          have Lleft := B1.lt
          go_wp2_with (at_builtin; refine wpList.stop ?_)
          refine ⟨?_⟩
          clear C1 C2 C3 Lleft
          have nv40 := Vnow.lt
          have nv41 := Vnext.lt
          refine wpList.abs ?_
          intro w47 hW
          have hG : Gr [] wc w47 := by rw [hW]; exact (Gr.refl _ _).alloc
          have hbw : Below w2.heap.size wc w47 := hG.below0 hs.size
          have hk : KeepD wc w47 := hG.keep True.intro
          have sz_w47 : w2.heap.size ≤ wc.heap.size := hs.size
          have ninside_w47 := B0.lt
          have nleft_w47 := B1.lt
          have nright_w47 := B2.lt
          have C4 : Bx w47 (wc.heap.size) 32 #[.bool sh30, .slice ah30 nh30 ch30, .slice Ah30 Nh30 Ch30] := by rw [hW]; exact (Bx.new0 _ _ _)
          replace hs := hs.trans hbw
          replace Vnow := VecR.mono PC.kept Vnow (hG.below0 (Nat.le_refl _))
          replace Vnext := VecR.mono PC.kept Vnext (hG.below0 (Nat.le_refl _))
          replace B0 := hG.bx B0 notMem0
          replace B1 := hG.bx B1 notMem0
          replace B2 := hG.bx B2 notMem0
          replace h6 := h6.keep hk
          replace h30 := h30.keep hk
          replace h38 := h38.keep hk
          replace Oback := Oback.mono PC.kept (hG.below0 (Nat.le_refl _))
          replace Othrough := Othrough.mono PC.kept (hG.below0 (Nat.le_refl _))
          clear hW hG hk hbw
          have hz_w47 := C4.lt
          obtain ⟨css, ho1, ho2, ho3, hown0⟩ := Oback
          refine wpList_append_lies _ rfl _ _ _ rfl w2.heap.size 32 i0 _ 3 56 Tryz.underlying25 hi hz0 hz1 hz2 rfl (by omega) u4 _ css.flatten (by kernel_rfl) hown0 ⟨wc.heap.size, 0, none⟩ 1 1 [.bool sh30, .slice ah30 nh30 ch30, .slice Ah30 Nh30 Ch30] (by kernel_rfl) rfl C4.news ?_ (by omega) ?_ ?_ ?_ _ rfl ?_
          ·intro u hu; simp only [List.mem_cons, List.mem_nil_iff, or_false] at hu; rcases hu with rfl | rfl | rfl <;> rfl
          ·unfold maxLen; (try simp only [List.length_append, List.length_cons, List.length_nil]); omega
          ·(try simp only [List.length_append, List.length_cons, List.length_nil]); omega
          ·exact hs.size
          intro gback capback w48 hown1 hgrow hat hlt_
          have hk_ := KeepD.owns hown0 hgrow (by decide)
          have ho := owns_onlyT hown0 hgrow
          replace hs := hs.grown hgrow hs.size (fun k hk => (hown0.lt k hk).1)
          replace Oback := OwnR.push' PC.kept ho1 ho2 ho3 (x := tlQ L (rgW L t) i) rfl ⟨_, _, _, rfl, h30⟩ (by simp) hown1 hk_
          replace B0 := B0.grown hgrow (fun e => by have := (hown0.lt _ e.symm).1; omega)
          have Ap_back_left1 := Ap_back_left.app hat B1.lt
          replace B1 := B1.grown hgrow Ap_back_left.ne
          replace Ap_back_left := Ap_back_left1
          clear Ap_back_left1
          have Ap_back_right1 := Ap_back_right.app hat B2.lt
          replace B2 := B2.grown hgrow Ap_back_right.ne
          replace Ap_back_right := Ap_back_right1
          clear Ap_back_right1
          replace h6 := h6.keep hk_
          replace h30 := h30.keep hk_
          replace h38 := h38.keep hk_
          replace Vnow := Vnow.onlyT PC.kept ho (by decide) (by decide)
          replace Vnext := Vnext.onlyT PC.kept ho (by decide) (by decide)
          have Aq1 := Aq_back_through.app hat Othrough (Nat.le_refl _)
          replace Othrough := Othrough.grown PC.kept hgrow Aq_back_through.or hk_
          replace Aq_back_through := Aq1
          clear Aq1
          clear hk_ ho ho1 ho2 ho3 hown0 hown1 hgrow hat hlt_ C4
          by_cases q42 : i = n
          ·have q42b : ((i : Int) == (n : Int)) = true := beq_iff_eq.2 (by omega)
           have q42n : ((i : Int) != (n : Int)) = false := bne_eq_false_iff_eq.2 (by omega)
           have q42H := Lib.hid q42
           clear q42
           have Bm := B2.a0
           have Bn := B2.a1
           have Bo := B2.a2
           have Lright := B2.lt
           go_wp2_with (at_builtin; refine wpList.stop ?_)
           refine ⟨?_⟩
           clear Bm Bn Bo Lright
           have nv43 := Vnow.lt
           have nv44 := Vnext.lt
           refine wpList.abs ?_
           intro w49 hW
           have hG : Gr [] w48 w49 := by rw [hW]; exact (Gr.refl _ _).alloc
           have hbw : Below w2.heap.size w48 w49 := hG.below0 hs.size
           have hk : KeepD w48 w49 := hG.keep True.intro
           have sz_w49 : w2.heap.size ≤ w48.heap.size := hs.size
           have ninside_w49 := B0.lt
           have nleft_w49 := B1.lt
           have nright_w49 := B2.lt
           have C5 : Bx w49 (w48.heap.size) 32 #[.bool sh38, .slice ah38 nh38 ch38, .slice Ah38 Nh38 Ch38] := by rw [hW]; exact (Bx.new0 _ _ _)
           replace hs := hs.trans hbw
           replace Vnow := VecR.mono PC.kept Vnow (hG.below0 (Nat.le_refl _))
           replace Vnext := VecR.mono PC.kept Vnext (hG.below0 (Nat.le_refl _))
           replace B0 := hG.bx B0 notMem0
           replace B1 := hG.bx B1 notMem0
           replace B2 := hG.bx B2 notMem0
           replace h6 := h6.keep hk
           replace h30 := h30.keep hk
           replace h38 := h38.keep hk
           replace Oback := Oback.mono PC.kept (hG.below0 (Nat.le_refl _))
           replace Othrough := Othrough.mono PC.kept (hG.below0 (Nat.le_refl _))
           clear hW hG hk hbw
           have hz_w49 := C5.lt
           obtain ⟨css, ho1, ho2, ho3, hown0⟩ := Othrough
           refine wpList_append_lies _ rfl _ _ _ rfl w2.heap.size 32 i0 _ 3 56 Tryz.underlying25 hi hz0 hz1 hz2 rfl (by omega) u5 _ css.flatten (by kernel_rfl) hown0 ⟨w48.heap.size, 0, none⟩ 1 1 [.bool sh38, .slice ah38 nh38 ch38, .slice Ah38 Nh38 Ch38] (by kernel_rfl) rfl C5.news ?_ (by omega) ?_ ?_ ?_ _ rfl ?_
           ·intro u hu; simp only [List.mem_cons, List.mem_nil_iff, or_false] at hu; rcases hu with rfl | rfl | rfl <;> rfl
           ·unfold maxLen; (try simp only [List.length_append, List.length_cons, List.length_nil]); omega
           ·(try simp only [List.length_append, List.length_cons, List.length_nil]); omega
           ·exact hs.size
           intro gthrough capthrough w50 hown1 hgrow hat hlt_
           have hk_ := KeepD.owns hown0 hgrow (by decide)
           have ho := owns_onlyT hown0 hgrow
           replace hs := hs.grown hgrow hs.size (fun k hk => (hown0.lt k hk).1)
           replace Othrough := OwnR.push' PC.kept ho1 ho2 ho3 (x := trQ L (rgW L t) i) rfl ⟨_, _, _, rfl, h38⟩ (by simp) hown1 hk_
           replace B0 := B0.grown hgrow (fun e => by have := (hown0.lt _ e.symm).1; omega)
           have Ap_through_left1 := Ap_through_left.app hat B1.lt
           replace B1 := B1.grown hgrow Ap_through_left.ne
           replace Ap_through_left := Ap_through_left1
           clear Ap_through_left1
           have Ap_through_right1 := Ap_through_right.app hat B2.lt
           replace B2 := B2.grown hgrow Ap_through_right.ne
           replace Ap_through_right := Ap_through_right1
           clear Ap_through_right1
           replace h6 := h6.keep hk_
           replace h30 := h30.keep hk_
           replace h38 := h38.keep hk_
           replace Vnow := Vnow.onlyT PC.kept ho (by decide) (by decide)
           replace Vnext := Vnext.onlyT PC.kept ho (by decide) (by decide)
           have Aq1 := (Aq_back_through.symm.app hat Oback (Nat.le_refl _)).symm
           replace Oback := Oback.grown PC.kept hgrow Aq_back_through.symm.or hk_
           replace Aq_back_through := Aq1
           clear Aq1
           clear hk_ ho ho1 ho2 ho3 hown0 hown1 hgrow hat hlt_ C5
           go_wp2
           go_roundw
           case rel => exact ⟨i + 1, by omega, by go_num, hs, B0, h6, Vnow, (by rw [← bk_first q39H.out]; exact Oback), (by rw [← th_last (by omega) (by omega) q42H.out]; exact Othrough), (by rw [← nxQ_onlyI q39H.out (by have h1 := q39H.out; have h2 := q42H.out; omega)]; exact Vnext), Aq_back_through⟩
           all_goals first | (simp [intOf]; done) | (simp [intOf]; omega)
          ·have q42b : ((i : Int) == (n : Int)) = false := beq_eq_false_iff_ne.2 (by omega)
           have q42n : ((i : Int) != (n : Int)) = true := bne_iff_ne.2 (by omega)
           have q42H := Lib.hid q42
           have SW43a := IntWalk.i64_in ((i : Int) + 1) (by omega)
           have SW43b : (0 : Int) ≤ (i : Int) + 1 := by omega
           have SW43c : ((i : Int) + 1).toNat = (i + 1) := by omega
           have SW43d : (i : Int) + 1 < (12 : Int) := by omega
           obtain ⟨gs44, as44, ns44, cs44, As44, Ns44, Ds44, Es440, Es441, Es442, hs44, ls44⟩ := vecP_at Vnext (show (i + 1) < (nxQ L t i).length by simp only [nowQ_len, nxQ_len, List.length_set, List.length_replicate]; omega)
           clear hs44
           have Bm := B2.a0
           have Bn := B2.a1
           have Bo := B2.a2
           have Lright := B2.lt
           have fVnext := Vnext.free
           have LVnext := Vnext.lt
           go_upto_region 24 with fail
           clear Bm Bn Bo Lright fVnext LVnext Es440 Es441 Es442 ls44
           refine Code.abs ?_
           intro w49 hW
           have hG : Gr [wo.heap.size] w48 w49 := by rw [hW]; exact (Gr.refl _ _).set.set.set
           have hsz := hs.size
           have hbw : Below w2.heap.size w48 w49 := hG.below1 hs.size (by first | omega | assumption)
           have hk : KeepD w48 w49 := hG.keep ⟨⟨_, Vnext.ty, by decide⟩, True.intro⟩
           have hty_ := Vnext.ty
           have V1next : VecR 128 3 PC w49 (wo.heap.size) ((nxQ L t i).set (i + 1) (trQ L (rgW L t) i)) := by rw [hW]; exact Vnext.putW PC.kept (show (i + 1) < (nxQ L t i).length by simp only [nowQ_len, nxQ_len, List.length_set, List.length_replicate]; omega) (by decide) (by omega) (by omega) (by omega) ⟨_, _, _, rfl, h38⟩ (Gr.refl _ _)
           replace hs := hs.trans hbw
           replace Vnow := VecR.gr PC.kept Vnow hG (notMem1 (by omega)) hk
           replace B0 := hG.bx B0 (notMem1 (by omega))
           replace B1 := hG.bx B1 (notMem1 (by omega))
           replace B2 := hG.bx B2 (notMem1 (by omega))
           replace Vnext := V1next
           clear V1next
           replace h6 := h6.keep hk
           replace h30 := h30.keep hk
           replace h38 := h38.keep hk
           have ho : OnlyT 128 w48 w49 := hG.onlyT (by intro g hg; simp only [List.mem_cons, List.mem_nil_iff, or_false] at hg; rcases hg with rfl; exact hty_)
           replace Oback := Oback.onlyT PC.kept ho (by decide) (by decide)
           replace Othrough := Othrough.onlyT PC.kept ho (by decide) (by decide)
           clear ho
           clear hW hG hk hbw hsz hty_
           go_wp2
           go_roundw
           case rel => exact ⟨i + 1, by omega, by go_num, hs, B0, h6, Vnow, (by rw [← bk_first q39H.out]; exact Oback), (by rw [th_mid (n := n) (by omega) (by omega) q42H.out]; exact Othrough), (by rw [← nxQ_firstI q39H.out (by have h1 := q39H.out; have h2 := q42H.out; omega) h5]; exact Vnext), Aq_back_through⟩
           all_goals first | (simp [intOf]; done) | (simp [intOf]; omega)
         ·have q39b : ((i : Int) == 0) = false := beq_eq_false_iff_ne.2 (by omega)
          have q39n : ((i : Int) != 0) = true := bne_iff_ne.2 (by omega)
          have q39H := Lib.hid q39
          have SW40a := IntWalk.i64_in ((i : Int) - 1) (by omega)
          have SW40b : (0 : Int) ≤ (i : Int) - 1 := by omega
          have SW40c : ((i : Int) - 1).toNat = (i - 1) := by omega
          have SW40d : (i : Int) - 1 < (12 : Int) := by omega
          obtain ⟨gs41, as41, ns41, cs41, As41, Ns41, Ds41, Es410, Es411, Es412, hs41, ls41⟩ := vecP_at Vnext (show (12 + ((i - 1))) < (nxQ L t i).length by simp only [nowQ_len, nxQ_len, List.length_set, List.length_replicate]; omega)
          clear hs41
          rw [show (12 + ((i - 1))) * 3 = 36 + ((i - 1)) * 3 by omega] at Es410 Es411 Es412
          have C1 := B1.a0
          have C2 := B1.a1
          have C3 := B1.a2
          have Lleft := B1.lt
          have fVnext := Vnext.free
          have LVnext := Vnext.lt
          go_upto_region 21 with fail
          clear C1 C2 C3 Lleft fVnext LVnext Es410 Es411 Es412 ls41
          refine Code.abs ?_
          intro w47 hW
          have hG : Gr [wo.heap.size] wc w47 := by rw [hW]; exact (Gr.refl _ _).set.set.set
          have hsz := hs.size
          have hbw : Below w2.heap.size wc w47 := hG.below1 hs.size (by first | omega | assumption)
          have hk : KeepD wc w47 := hG.keep ⟨⟨_, Vnext.ty, by decide⟩, True.intro⟩
          have hty_ := Vnext.ty
          have V1next : VecR 128 3 PC w47 (wo.heap.size) ((nxQ L t i).set (12 + ((i - 1))) (tlQ L (rgW L t) i)) := by rw [hW]; exact Vnext.putW PC.kept (show (12 + ((i - 1))) < (nxQ L t i).length by simp only [nowQ_len, nxQ_len, List.length_set, List.length_replicate]; omega) (by decide) (by omega) (by omega) (by omega) ⟨_, _, _, rfl, h30⟩ (Gr.refl _ _)
          replace hs := hs.trans hbw
          replace Vnow := VecR.gr PC.kept Vnow hG (notMem1 (by omega)) hk
          replace B0 := hG.bx B0 (notMem1 (by omega))
          replace B1 := hG.bx B1 (notMem1 (by omega))
          replace B2 := hG.bx B2 (notMem1 (by omega))
          replace Vnext := V1next
          clear V1next
          replace h6 := h6.keep hk
          replace h30 := h30.keep hk
          replace h38 := h38.keep hk
          have ho : OnlyT 128 wc w47 := hG.onlyT (by intro g hg; simp only [List.mem_cons, List.mem_nil_iff, or_false] at hg; rcases hg with rfl; exact hty_)
          replace Oback := Oback.onlyT PC.kept ho (by decide) (by decide)
          replace Othrough := Othrough.onlyT PC.kept ho (by decide) (by decide)
          clear ho
          clear hW hG hk hbw hsz hty_
          by_cases q42 : i = n
          ·have q42b : ((i : Int) == (n : Int)) = true := beq_iff_eq.2 (by omega)
           have q42n : ((i : Int) != (n : Int)) = false := bne_eq_false_iff_eq.2 (by omega)
           have q42H := Lib.hid q42
           clear q42
           have Bm := B2.a0
           have Bn := B2.a1
           have Bo := B2.a2
           have Lright := B2.lt
           go_wp2_with (at_builtin; refine wpList.stop ?_)
           refine ⟨?_⟩
           clear Bm Bn Bo Lright
           have nv43 := Vnow.lt
           have nv44 := Vnext.lt
           refine wpList.abs ?_
           intro w48 hW
           have hG : Gr [] w47 w48 := by rw [hW]; exact (Gr.refl _ _).alloc
           have hbw : Below w2.heap.size w47 w48 := hG.below0 hs.size
           have hk : KeepD w47 w48 := hG.keep True.intro
           have sz_w48 : w2.heap.size ≤ w47.heap.size := hs.size
           have ninside_w48 := B0.lt
           have nleft_w48 := B1.lt
           have nright_w48 := B2.lt
           have C4 : Bx w48 (w47.heap.size) 32 #[.bool sh38, .slice ah38 nh38 ch38, .slice Ah38 Nh38 Ch38] := by rw [hW]; exact (Bx.new0 _ _ _)
           replace hs := hs.trans hbw
           replace Vnow := VecR.mono PC.kept Vnow (hG.below0 (Nat.le_refl _))
           replace Vnext := VecR.mono PC.kept Vnext (hG.below0 (Nat.le_refl _))
           replace B0 := hG.bx B0 notMem0
           replace B1 := hG.bx B1 notMem0
           replace B2 := hG.bx B2 notMem0
           replace h6 := h6.keep hk
           replace h30 := h30.keep hk
           replace h38 := h38.keep hk
           replace Oback := Oback.mono PC.kept (hG.below0 (Nat.le_refl _))
           replace Othrough := Othrough.mono PC.kept (hG.below0 (Nat.le_refl _))
           clear hW hG hk hbw
           have hz_w48 := C4.lt
           obtain ⟨css, ho1, ho2, ho3, hown0⟩ := Othrough
           refine wpList_append_lies _ rfl _ _ _ rfl w2.heap.size 32 i0 _ 3 56 Tryz.underlying25 hi hz0 hz1 hz2 rfl (by omega) u5 _ css.flatten (by kernel_rfl) hown0 ⟨w47.heap.size, 0, none⟩ 1 1 [.bool sh38, .slice ah38 nh38 ch38, .slice Ah38 Nh38 Ch38] (by kernel_rfl) rfl C4.news ?_ (by omega) ?_ ?_ ?_ _ rfl ?_
           ·intro u hu; simp only [List.mem_cons, List.mem_nil_iff, or_false] at hu; rcases hu with rfl | rfl | rfl <;> rfl
           ·unfold maxLen; (try simp only [List.length_append, List.length_cons, List.length_nil]); omega
           ·(try simp only [List.length_append, List.length_cons, List.length_nil]); omega
           ·exact hs.size
           intro gthrough capthrough w49 hown1 hgrow hat hlt_
           have hk_ := KeepD.owns hown0 hgrow (by decide)
           have ho := owns_onlyT hown0 hgrow
           replace hs := hs.grown hgrow hs.size (fun k hk => (hown0.lt k hk).1)
           replace Othrough := OwnR.push' PC.kept ho1 ho2 ho3 (x := trQ L (rgW L t) i) rfl ⟨_, _, _, rfl, h38⟩ (by simp) hown1 hk_
           replace B0 := B0.grown hgrow (fun e => by have := (hown0.lt _ e.symm).1; omega)
           have Ap_through_left1 := Ap_through_left.app hat B1.lt
           replace B1 := B1.grown hgrow Ap_through_left.ne
           replace Ap_through_left := Ap_through_left1
           clear Ap_through_left1
           have Ap_through_right1 := Ap_through_right.app hat B2.lt
           replace B2 := B2.grown hgrow Ap_through_right.ne
           replace Ap_through_right := Ap_through_right1
           clear Ap_through_right1
           replace h6 := h6.keep hk_
           replace h30 := h30.keep hk_
           replace h38 := h38.keep hk_
           replace Vnow := Vnow.onlyT PC.kept ho (by decide) (by decide)
           replace Vnext := Vnext.onlyT PC.kept ho (by decide) (by decide)
           have Aq1 := (Aq_back_through.symm.app hat Oback (Nat.le_refl _)).symm
           replace Oback := Oback.grown PC.kept hgrow Aq_back_through.symm.or hk_
           replace Aq_back_through := Aq1
           clear Aq1
           clear hk_ ho ho1 ho2 ho3 hown0 hown1 hgrow hat hlt_ C4
           go_wp2
           go_roundw
           case rel => exact ⟨i + 1, by omega, by go_num, hs, B0, h6, Vnow, (by rw [show t + min (i + 1) 1 = t + min i 1 by have h1 := q39H.out; omega]; exact Oback), (by rw [← th_last (by omega) (by omega) q42H.out]; exact Othrough), (by rw [← nxQ_last (by have h1 := q39H.out; omega) (by have h2 := q42H.out; omega) (by omega)]; exact Vnext), Aq_back_through⟩
           all_goals first | (simp [intOf]; done) | (simp [intOf]; omega)
          ·have q42b : ((i : Int) == (n : Int)) = false := beq_eq_false_iff_ne.2 (by omega)
           have q42n : ((i : Int) != (n : Int)) = true := bne_iff_ne.2 (by omega)
           have q42H := Lib.hid q42
           have SW43a := IntWalk.i64_in ((i : Int) + 1) (by omega)
           have SW43b : (0 : Int) ≤ (i : Int) + 1 := by omega
           have SW43c : ((i : Int) + 1).toNat = (i + 1) := by omega
           have SW43d : (i : Int) + 1 < (12 : Int) := by omega
           obtain ⟨gs44, as44, ns44, cs44, As44, Ns44, Ds44, Es440, Es441, Es442, hs44, ls44⟩ := vecP_at Vnext (show (i + 1) < ((nxQ L t i).set (12 + ((i - 1))) (tlQ L (rgW L t) i)).length by simp only [nowQ_len, nxQ_len, List.length_set, List.length_replicate]; omega)
           clear hs44
           have Bm := B2.a0
           have Bn := B2.a1
           have Bo := B2.a2
           have Lright := B2.lt
           have fVnext := Vnext.free
           have LVnext := Vnext.lt
           go_upto_region 24 with fail
           clear Bm Bn Bo Lright fVnext LVnext Es440 Es441 Es442 ls44
           refine Code.abs ?_
           intro w48 hW
           have hG : Gr [wo.heap.size] w47 w48 := by rw [hW]; exact (Gr.refl _ _).set.set.set
           have hsz := hs.size
           have hbw : Below w2.heap.size w47 w48 := hG.below1 hs.size (by first | omega | assumption)
           have hk : KeepD w47 w48 := hG.keep ⟨⟨_, Vnext.ty, by decide⟩, True.intro⟩
           have hty_ := Vnext.ty
           have V1next : VecR 128 3 PC w48 (wo.heap.size) (((nxQ L t i).set (12 + ((i - 1))) (tlQ L (rgW L t) i)).set (i + 1) (trQ L (rgW L t) i)) := by rw [hW]; exact Vnext.putW PC.kept (show (i + 1) < ((nxQ L t i).set (12 + ((i - 1))) (tlQ L (rgW L t) i)).length by simp only [nowQ_len, nxQ_len, List.length_set, List.length_replicate]; omega) (by decide) (by omega) (by omega) (by omega) ⟨_, _, _, rfl, h38⟩ (Gr.refl _ _)
           replace hs := hs.trans hbw
           replace Vnow := VecR.gr PC.kept Vnow hG (notMem1 (by omega)) hk
           replace B0 := hG.bx B0 (notMem1 (by omega))
           replace B1 := hG.bx B1 (notMem1 (by omega))
           replace B2 := hG.bx B2 (notMem1 (by omega))
           replace Vnext := V1next
           clear V1next
           replace h6 := h6.keep hk
           replace h30 := h30.keep hk
           replace h38 := h38.keep hk
           have ho : OnlyT 128 w47 w48 := hG.onlyT (by intro g hg; simp only [List.mem_cons, List.mem_nil_iff, or_false] at hg; rcases hg with rfl; exact hty_)
           replace Oback := Oback.onlyT PC.kept ho (by decide) (by decide)
           replace Othrough := Othrough.onlyT PC.kept ho (by decide) (by decide)
           clear ho
           clear hW hG hk hbw hsz hty_
           go_wp2
           go_roundw
           case rel => exact ⟨i + 1, by omega, by go_num, hs, B0, h6, Vnow, (by rw [show t + min (i + 1) 1 = t + min i 1 by have h1 := q39H.out; omega]; exact Oback), (by rw [th_mid (n := n) (by omega) (by omega) q42H.out]; exact Othrough), (by rw [← nxQ_mid (by have h1 := q39H.out; omega) (by have h2 := q42H.out; omega) (by omega)]; exact Vnext), Aq_back_through⟩
           all_goals first | (simp [intOf]; done) | (simp [intOf]; omega)
    ·have q11d : ((i : Int) < (m : Int)) = False := eq_false (by omega)
     have ei : i = m := by omega
     rw [show t + min i 1 = t + 1 by omega] at Oback
     rw [show t + i / m = t + 1 by rw [ei, Nat.div_self (by omega)]] at Othrough
     rw [show nxQ L t i = nowQ L (t + 1) by rw [ei, ← nxQ_done t h2]; congr 1; omega] at Vnext
     clear lb1 lb2 ei
     go_upto_region 25 with fail
     obtain ⟨css, hC, hcB⟩ := Vnext.css
     obtain ⟨cs0, hD, hdB⟩ := Vnow.css
     have hz1 := hC.size (nowQ_len L (t + 1))
     have hz0 := hD.size (nowQ_len L t)
     have hone := oneRow hC.1 hC.2.2
     have nVn2 := Vnow.lt
     go_wp2_with (with_reducible refine wpList.stopW ?_)
     refine ⟨?_⟩
     refine wpList_load_row rfl _ _ rfl (wo.heap.size) (by kernel_rfl) _ _ _ _ hcB Tryz.underlying128 rfl (by rw [hz1]; exact wav_size) ?_
     refine wpList_store_row rfl _ _ _ rfl (w2.heap.size) css.flatten.toArray (by kernel_rfl) (by kernel_rfl) _ _ hdB (by rw [hz1]; exact wav_size) (by rw [hz0, hz1]) hone ?_
     generalize hW_ : wr.setRow (w2.heap.size) css.flatten.toArray = w47
     have hW := hW_.symm
     clear hW_
     have hG : Gr [w2.heap.size] wr w47 := by rw [hW]; exact (Gr.refl _ _).setRow
     have hsz := hs.size
     have hbw : Below w2.heap.size wr w47 := hG.below1 hs.size (by first | omega | assumption)
     have hk : KeepD wr w47 := hG.keep ⟨⟨_, hdB.ty, by decide⟩, True.intro⟩
     have V1now : VecR 128 3 PC w47 (w2.heap.size) (nowQ L (t + 1)) := VecR.copied hC hdB hk hW
     have ho : OnlyT 128 wr w47 := hG.onlyT (by intro g hg; simp only [List.mem_cons, List.mem_nil_iff, or_false] at hg; rcases hg with rfl; exact Vnow.ty)
     replace hs := hs.trans hbw
     replace B0 := hG.bx B0 (notMem1 (by omega))
     replace h6 := h6.keep hk
     replace Oback := Oback.onlyT PC.kept ho (by decide) (by decide)
     replace Othrough := Othrough.onlyT PC.kept ho (by decide) (by decide)
     clear Vnow Vnext hC hcB hD hdB hz1 hz0 hone hW hG hk hbw hsz ho
     have Vnow := V1now
     clear V1now
     go_wp2
     go_roundw
     case rel => exact ⟨t + 1, by omega, by go_num, hs, B0, h6, Oback, Othrough, Vnow, Aq_back_through⟩
     all_goals first | (simp [intOf]; done) | (simp [intOf]; omega)
  ·have q9d : ((t : Int) < (K : Int)) = False := eq_false (by omega)
   have et : K = t := by omega
   subst et
   clear lb1 lb2
   have Ap_back_inside := Oback.apLow (g := w.heap.size) (by omega)
   have Ap_through_inside := Othrough.apLow (g := w.heap.size) (by omega)
   have hl := rowsJ PC.kept _ _ _ Fhl.out hs
   replace hs := bStep HB0_5.out hs
   go_wp2
   go_loopw [151, 148] (fun s151 s148 wq => ∃ i : Nat, i ≤ m ∧ s148 = .int .i64 i ∧ Below w.heap.size w wq ∧ PV wq (.agg #[.bool sh6, .slice ah6 nh6 ch6, .slice Ah6 Nh6 Ch6]) (1) ∧ VecR 128 3 PC wq (w2.heap.size) (nowQ L K) ∧ OwnR w2.heap.size 32 3 PC wq u4 (rgBks L K) ∧ OwnR w2.heap.size 32 3 PC wq u5 (rgThs L K) ∧ Rows 3 32 PC wq (.slice (some ⟨bhl, ohl, none⟩) L.length khl) L ∧ BoxP wq (w.heap.size) (rgIn L (rgW L K) i)) (fun s151 s148 _ => m - (intOf s148).toNat)
   case atStart => exact ⟨0, Nat.zero_le _, rfl, hs, h6, Vnow, Oback, Othrough, hl, ⟨_, _, _, _, _, _, _, B0, ((PV.zero _).of_eq (rgIn_zero L (rgW L K)))⟩⟩
   case round =>
    clear B0 h6 Vnow Oback Othrough hl hs
    obtain ⟨i, k_le, rfl, hs, h6, Vnow, Oback, Othrough, hl, ⟨sh10, ah10, nh10, ch10, Ah10, Nh10, Ch10, B0, h10⟩⟩ := hrel
    obtain ⟨wi, hwo⟩ : ∃ x, x = wr := ⟨_, rfl⟩
    subst hwo
    by_cases q11 : i < m
    ·have q11d : ((i : Int) < (m : Int)) = True := eq_true (by omega)
     go_upto_region 30 with fail
     obtain ⟨css, hC, hcB⟩ := Vnow.css
     have hz1 := hC.size (nowQ_len L K)
     go_wp2_with (with_reducible refine wpList.stopW ?_)
     refine ⟨?_⟩
     refine wpList_load_row rfl _ _ rfl (w2.heap.size) (by kernel_rfl) _ _ _ _ hcB Tryz.underlying128 rfl (by rw [hz1]; exact wav_size) ?_
     clear hcB
     go_wp2
     go_loopw [152] (fun s152 wq => ∃ k : Nat, k ≤ 2 ∧ s152 = .int .i64 k ∧ Below w.heap.size w wq ∧ PV wq (.agg #[.bool sh6, .slice ah6 nh6 ch6, .slice Ah6 Nh6 Ch6]) (1) ∧ VecR 128 3 PC wq (w2.heap.size) (nowQ L K) ∧ OwnR w2.heap.size 32 3 PC wq u4 (rgBks L K) ∧ OwnR w2.heap.size 32 3 PC wq u5 (rgThs L K) ∧ Rows 3 32 PC wq (.slice (some ⟨bhl, ohl, none⟩) L.length khl) L ∧ Css css (nowQ L K) wq ∧ BoxP wq (w.heap.size) (rgI2 L (rgW L K) i k)) (fun s152 _ => 2 - (intOf s152).toNat)
     case atStart => exact ⟨0, Nat.zero_le _, rfl, hs, h6, Vnow, Oback, Othrough, hl, hC, ⟨_, _, _, _, _, _, _, B0, (h10.of_eq (rgI2_zero L (rgW L K) i))⟩⟩
     case round =>
      clear B0 h6 h10 Vnow Oback Othrough hl hC hs
      obtain ⟨k, k_le, rfl, hs, h6, Vnow, Oback, Othrough, hl, hC, ⟨sh12, ah12, nh12, ch12, Ah12, Nh12, Ch12, B0, h12⟩⟩ := hrel
      by_cases q13 : k < 2
      ·have q13d : ((k : Int) < 2) = True := eq_true (by omega)
       have q13x : (k < 2) = True := eq_true (by omega)
       go_upto_region 32 with fail
       obtain ⟨j, ⟨hj1, hj2⟩, wJ⟩ := ring_j i k (by omega) (by omega)
       have hz1 := hC.size (nowQ_len L K)
       have hone := oneRow hC.1 hC.2.2
       have hk2 : k < 2 := by omega
       obtain ⟨sd, hsd⟩ : ∃ sd, sd = css.flatten.toArray.extract (k * 36) (k * 36 + 36) := ⟨_, rfl⟩
       have sdz : sd.size = 36 := by rw [hsd]; exact side_size hz1 hk2
       have sd1 := side_one hone (k * 36) (k * 36 + 36)
       rw [← hsd] at sd1
       replace hsd := Lib.hid hsd
       replace sdz := Lib.hid sdz
       go_wp2_with (with_reducible refine wpList.stopI ?_)
       refine ⟨?_⟩
       refine wpList_side rfl _ _ rfl css.flatten.toArray (by kernel_rfl) k (by kernel_rfl) hk2 sd hsd ?_
       go_wp2_with (with_reducible refine wpList.stopS ?_)
       refine ⟨?_⟩
       refine wpList_store_rowL rfl _ _ _ rfl wr.heap.size sd (by kernel_rfl) (by kernel_rfl) _ _ (heap_alloc_new wr _) (side_info sdz.out) (by rw [sdz.out]; rfl) sd1 ?_
       intro w66 hW
       have hG : Gr [] wr w66 := by rw [hW]; exact (Gr.refl _ _).alloc.setNew (Nat.le_refl _)
       have hbw : Below w.heap.size wr w66 := hG.below0 hs.size
       have hk : KeepD wr w66 := hG.keep True.intro
       have nl_ : w.heap.size ≤ wr.heap.size := hs.size
       have nVo2_ := Vnow.lt
       have ninside_w66 := B0.lt
       have nhl_w66 : bhl < wr.heap.size := hl.lt (by omega)
       have Vl : VecR 126 3 PC w66 wr.heap.size (sdL (rgW L K) k) := side_vec (hC.keep hk) hk2 (by rw [hW, ← hsd.out]; exact setRow_heap _ _ _ _ _ (0, 0) (heap_alloc_new _ _))
       replace hs := hs.trans hbw
       replace Vnow := VecR.mono PC.kept Vnow (hG.below0 (Nat.le_refl _))
       replace Oback := ownJ PC.kept _ _ _ Oback (hG.below0 (Nat.le_refl _))
       replace Othrough := ownJ PC.kept _ _ _ Othrough (hG.below0 (Nat.le_refl _))
       replace hl := rowsJ PC.kept _ _ _ hl (hG.below0 (Nat.le_refl _))
       replace hC := cssJ _ _ _ hC (hG.below0 (Nat.le_refl _))
       replace B0 := hG.bx B0 notMem0
       replace h6 := h6.keep hk
       replace h12 := h12.keep hk
       clear hz1 hone hW hG hk hbw hsd sdz sd1
       have Lv_l := Vl.lt
       go_upto_region 33 with fail
       have SW14d : (i : Int) < (12 : Int) := by omega
       obtain ⟨ge15, ae15, ne15, ce15, Ae15, Ne15, De15, Br, Bs, Bt, he15, le15⟩ := vecP_at Vl (show i < (sdL (rgW L K) k).length by rw [sdL_len]; omega)
       rw [sdL_at (by omega)] at he15
       have SW16d : (i : Int) < (12 : Int) := by omega
       have BI18a : j < L.length := by omega
       have BI18b : ((j : Int) : Int) < (L.length : Int) := by omega
       obtain ⟨ge19a, ae19a, ne19a, ce19a, Ae19a, Ne19a, De19a, Bu, Bv, Bw, he19a, le19⟩ := rowP_at hl (show j < L.length by omega)
       refine U_region (S := fun w' => w'.cell? ⟨w.heap.size, 0, none⟩ = some (.bool sh12) ∧ w'.cell? ⟨w.heap.size, 1, none⟩ = some (.slice ah12 nh12 ch12) ∧ w'.cell? ⟨w.heap.size, 2, none⟩ = some (.slice Ah12 Nh12 Ch12) ∧ w'.cell? ⟨wr.heap.size, i * 3, none⟩ = some (.bool ge15) ∧ w'.cell? ⟨wr.heap.size, i * 3 + 1, none⟩ = some (.slice ae15 ne15 ce15) ∧ w'.cell? ⟨wr.heap.size, i * 3 + 2, none⟩ = some (.slice Ae15 Ne15 De15) ∧ w'.cell? ⟨bhl, ohl + j * 3, none⟩ = some (.bool ge19a) ∧ w'.cell? ⟨bhl, ohl + j * 3 + 1, none⟩ = some (.slice ae19a ne19a ce19a) ∧ w'.cell? ⟨bhl, ohl + j * 3 + 2, none⟩ = some (.slice Ae19a Ne19a De19a)) (by kernel_rfl) 16 ?_
       refine AnyU.abs ?_
       intro w67 hW
       have hb : Below w66.heap.size w66 w67 := by rw [hW]; exact bDrew _
       replace hs := bStep hs hb
       replace B0 := B0.mono hb
       replace h6 := h6.mono hb
       replace h12 := h12.mono hb
       replace he15 := he15.mono hb
       replace he19a := he19a.mono hb
       replace Vnow := VecR.mono PC.kept Vnow hb
       replace Oback := ownJ PC.kept _ _ _ Oback hb
       replace Othrough := ownJ PC.kept _ _ _ Othrough hb
       replace hl := rowsJ PC.kept _ _ _ hl hb
       replace hC := cssJ _ _ _ hC hb
       replace Vl := VecR.mono PC.kept Vl hb
       replace Br := cellK Br hb
       replace Bs := cellK Bs hb
       replace Bt := cellK Bt hb
       replace Bu := cellK Bu hb
       replace Bv := cellK Bv hb
       replace Bw := cellK Bw hb
       clear hb hW
       have B9 := B0.a0
       have Ba := B0.a1
       have Bb := B0.a2
       have hH := (show w67.cell? ⟨w.heap.size, 0, none⟩ = some (.bool sh12) ∧ w67.cell? ⟨w.heap.size, 1, none⟩ = some (.slice ah12 nh12 ch12) ∧ w67.cell? ⟨w.heap.size, 2, none⟩ = some (.slice Ah12 Nh12 Ch12) ∧ w67.cell? ⟨wr.heap.size, i * 3, none⟩ = some (.bool ge15) ∧ w67.cell? ⟨wr.heap.size, i * 3 + 1, none⟩ = some (.slice ae15 ne15 ce15) ∧ w67.cell? ⟨wr.heap.size, i * 3 + 2, none⟩ = some (.slice Ae15 Ne15 De15) ∧ w67.cell? ⟨bhl, ohl + j * 3, none⟩ = some (.bool ge19a) ∧ w67.cell? ⟨bhl, ohl + j * 3 + 1, none⟩ = some (.slice ae19a ne19a ce19a) ∧ w67.cell? ⟨bhl, ohl + j * 3 + 2, none⟩ = some (.slice Ae19a Ne19a De19a) from ⟨B9, Ba, Bb, Br, Bs, Bt, Bu, Bv, Bw⟩)
       refine U_tt 0 ?_ ?_ hH ?_
       rotate_left
       ·(intro w hSw; (try dsimp only at hSw); go_simp; try with_reducible rfl)
       try simp only [LY]
       refine U_tt 1 ?_ ?_ hH ?_
       rotate_left
       ·(intro w hSw; (try dsimp only at hSw); go_simp; try with_reducible rfl)
       try simp only [LY]
       refine U_tt 2 ?_ ?_ hH ?_
       rotate_left
       ·(intro w hSw; (try dsimp only at hSw); go_simp; try with_reducible rfl)
       try simp only [LY]
       refine U_tt 3 ?_ ?_ hH ?_
       rotate_left
       ·(intro w hSw; (try dsimp only at hSw); go_simp; try with_reducible rfl)
       try simp only [LY]
       refine U_tt 4 ?_ ?_ hH ?_
       rotate_left
       ·(intro w hSw; (try dsimp only at hSw); go_simp; try with_reducible rfl)
       try simp only [LY]
       refine U_tt 5 ?_ ?_ hH ?_
       rotate_left
       ·(intro w hSw; (try dsimp only at hSw); go_simp; try with_reducible rfl)
       try simp only [LY]
       refine U_tt 6 ?_ ?_ hH ?_
       rotate_left
       ·(intro w hSw; (try dsimp only at hSw); go_simp; try with_reducible rfl)
       try simp only [LY]
       refine U_tt 8 ?_ ?_ hH ?_
       rotate_left
       ·(intro w hSw; (try dsimp only at hSw); go_simp; try with_reducible rfl)
       try simp only [LY]
       refine U_tt 9 ?_ ?_ hH ?_
       rotate_left
       ·(intro w hSw; (try dsimp only at hSw); go_simp; try with_reducible rfl)
       try simp only [LY]
       refine U_tt 10 ?_ ?_ hH ?_
       rotate_left
       ·(intro w hSw; (try dsimp only at hSw); go_simp; try with_reducible rfl)
       try simp only [LY]
       refine U_tt 11 ?_ ?_ hH ?_
       rotate_left
       ·(intro w hSw; (try dsimp only at hSw); go_simp; try with_reducible rfl)
       try simp only [LY]
       refine U_tt 12 ?_ ?_ hH ?_
       rotate_left
       ·(intro w hSw; (try dsimp only at hSw); go_simp; try with_reducible rfl)
       try simp only [LY]
       refine U_tt 13 ?_ ?_ hH ?_
       rotate_left
       ·(intro w hSw; (try dsimp only at hSw); go_simp; try with_reducible rfl)
       try simp only [LY]
       clear hH
       refine U_one (i := 7) (by kernel_rfl) rfl (fun K hK => ?_)
       go_simp
       (with_reducible refine (pMul he15 he15 (SzQ.fit (HSD.out k i)) (SzQ.fit (HSD.out k i))).mono ?_)
       rintro e w68 ⟨_, rfl, h17, hb⟩
       obtain ⟨sh17, ah17, nh17, ch17, Ah17, Nh17, Ch17, rfl⟩ := h17.shape
       replace hs := bStep hs hb
       replace B0 := B0.mono hb
       replace h6 := h6.mono hb
       replace h12 := h12.mono hb
       replace he15 := he15.mono hb
       replace he19a := he19a.mono hb
       replace Vnow := VecR.mono PC.kept Vnow hb
       replace Oback := ownJ PC.kept _ _ _ Oback hb
       replace Othrough := ownJ PC.kept _ _ _ Othrough hb
       replace hl := rowsJ PC.kept _ _ _ hl hb
       replace hC := cssJ _ _ _ hC hb
       replace Vl := VecR.mono PC.kept Vl hb
       replace B9 := cellK B9 hb
       replace Ba := cellK Ba hb
       replace Bb := cellK Bb hb
       replace Br := cellK Br hb
       replace Bs := cellK Bs hb
       replace Bt := cellK Bt hb
       replace Bu := cellK Bu hb
       replace Bv := cellK Bv hb
       replace Bw := cellK Bw hb
       clear hb
       try go_wp2_with fail
       refine hK.out _ _ ⟨B9, Ba, Bb, Br, Bs, Bt, Bu, Bv, Bw⟩ (fun hH => ?_)
       clear hK K
       try simp only [LY]
       clear hH
       refine U_one (i := 14) (by kernel_rfl) rfl (fun K hK => ?_)
       go_simp
       (with_reducible refine (sc_over _ _ _ _ _ h17 he19a (SzQ.fit (SzQ.mul (HSD.out k i) (HSD.out k i))) (SzQ.fit (HZ.out j (by omega))) (HPN.out _ (by omega))).mono ?_)
       rintro e w69 ⟨_, rfl, h20, hb⟩
       obtain ⟨sh20, ah20, nh20, ch20, Ah20, Nh20, Ch20, rfl⟩ := h20.shape
       replace hs := bStep hs hb
       replace B0 := B0.mono hb
       replace h6 := h6.mono hb
       replace h12 := h12.mono hb
       replace he15 := he15.mono hb
       replace he19a := he19a.mono hb
       replace h17 := h17.mono hb
       replace Vnow := VecR.mono PC.kept Vnow hb
       replace Oback := ownJ PC.kept _ _ _ Oback hb
       replace Othrough := ownJ PC.kept _ _ _ Othrough hb
       replace hl := rowsJ PC.kept _ _ _ hl hb
       replace hC := cssJ _ _ _ hC hb
       replace Vl := VecR.mono PC.kept Vl hb
       replace B9 := cellK B9 hb
       replace Ba := cellK Ba hb
       replace Bb := cellK Bb hb
       replace Br := cellK Br hb
       replace Bs := cellK Bs hb
       replace Bt := cellK Bt hb
       replace Bu := cellK Bu hb
       replace Bv := cellK Bv hb
       replace Bw := cellK Bw hb
       clear hb
       try go_wp2_with fail
       refine hK.out _ _ ⟨B9, Ba, Bb, Br, Bs, Bt, Bu, Bv, Bw⟩ (fun hH => ?_)
       clear hK K
       try simp only [LY]
       clear hH
       refine U_one (i := 15) (by kernel_rfl) rfl (fun K hK => ?_)
       go_simp
       (with_reducible refine (pAdd h12 h20 (SzQ.fit (HI2.out i k (by omega) (by omega))) (SzQ.fit (SzQ.div (SzQ.mul (HSD.out k i) (HSD.out k i)) (HZ.out j (by omega)) (HPN.out _ (by omega))))).mono ?_)
       rintro e w70 ⟨_, rfl, h21, hb⟩
       obtain ⟨sh21, ah21, nh21, ch21, Ah21, Nh21, Ch21, rfl⟩ := h21.shape
       replace hs := bStep hs hb
       replace B0 := B0.mono hb
       replace h6 := h6.mono hb
       replace h12 := h12.mono hb
       replace he15 := he15.mono hb
       replace he19a := he19a.mono hb
       replace h17 := h17.mono hb
       replace h20 := h20.mono hb
       replace Vnow := VecR.mono PC.kept Vnow hb
       replace Oback := ownJ PC.kept _ _ _ Oback hb
       replace Othrough := ownJ PC.kept _ _ _ Othrough hb
       replace hl := rowsJ PC.kept _ _ _ hl hb
       replace hC := cssJ _ _ _ hC hb
       replace Vl := VecR.mono PC.kept Vl hb
       replace B9 := cellK B9 hb
       replace Ba := cellK Ba hb
       replace Bb := cellK Bb hb
       replace Br := cellK Br hb
       replace Bs := cellK Bs hb
       replace Bt := cellK Bt hb
       replace Bu := cellK Bu hb
       replace Bv := cellK Bv hb
       replace Bw := cellK Bw hb
       clear hb
       try go_wp2_with fail
       refine hK.out _ _ ⟨B9, Ba, Bb, Br, Bs, Bt, Bu, Bv, Bw⟩ (fun hH => ?_)
       clear hK K
       try simp only [LY]
       clear hH
       have B9 := B0.a0
       have Ba := B0.a1
       have Bb := B0.a2
       have finside := B0.free
       have Linside := B0.lt
       refine U_last (by kernel_rfl) rfl (by kernel_rfl) (fun K hK => ?_)
       go_simp
       refine hK.out _ _ ?_
       clear hK K
       intro w71 hW
       have hG : Gr [w.heap.size] w70 w71 := by rw [hW]; exact (Gr.refl _ _).set.set.set
       have hsz := hs.size
       have linside := B0.lt
       have hbw : Below w.heap.size w70 w71 := hG.below1 hs.size (by first | omega | assumption)
       have hk : KeepD w70 w71 := hG.keep ⟨⟨_, B0.ty, by decide⟩, True.intro⟩
       have Bl1inside : Bx w71 (w.heap.size) 32 #[.bool sh21, .slice ah21 nh21 ch21, .slice Ah21 Nh21 Ch21] := by rw [hW]; exact B0.set3
       replace hs := hs.trans hbw
       replace Vnow := VecR.gr PC.kept Vnow hG (notMem1 (by omega)) hk
       replace Oback := Oback.gr PC.kept hG Ap_back_inside.one hk
       replace Othrough := Othrough.gr PC.kept hG Ap_through_inside.one hk
       replace hl := hl.gr PC.kept hG (notMem1 (by omega)) hk
       replace hC := hC.keep hk
       replace Vl := VecR.gr PC.kept Vl hG (notMem1 (by omega)) hk
       replace B0 := Bl1inside
       clear Bl1inside
       replace h6 := h6.keep hk
       replace h12 := h12.keep hk
       replace he15 := he15.keep hk
       replace he19a := he19a.keep hk
       replace h17 := h17.keep hk
       replace h20 := h20.keep hk
       replace h21 := h21.keep hk
       clear hW hG hk hbw hsz linside
       try simp only [LY]
       clear B9 Ba Bb Br Bs Bt Bu Bv Bw
       go_wp2
       go_roundw
       case rel => exact ⟨k + 1, by omega, by go_num, hs, h6, Vnow, Oback, Othrough, hl, hC, ⟨_, _, _, _, _, _, _, B0, (h21.of_eq (ring_e33 L (rgW L K) i k j (by omega)))⟩⟩
       all_goals first | (simp [intOf]; done) | (simp [intOf]; omega)
      ·have q13d : ((k : Int) < 2) = False := eq_false (by omega)
       have q13x : (k < 2) = False := eq_false (by omega)
       have ek : k = 2 := by omega
       have e12 : rgI2 L (rgW L K) i k = rgIn L (rgW L K) (i + 1) := by rw [ek, rgI2_two]
       replace h12 := h12.of_eq e12
       clear e12 ek
       go_wp2
       go_roundw
       case rel => exact ⟨i + 1, by omega, by go_num, hs, h6, Vnow, Oback, Othrough, hl, ⟨_, _, _, _, _, _, _, B0, h12⟩⟩
       all_goals first | (simp [intOf]; done) | (simp [intOf]; omega)
    ·have q11d : ((i : Int) < (m : Int)) = False := eq_false (by omega)
     go_upto_region 36 with fail
     have BI12a : 0 < L.length := by omega
     have BI12b : (0 : Int) < (L.length : Int) := by omega
     obtain ⟨ge13a, ae13a, ne13a, ce13a, Ae13a, Ne13a, De13a, By, Bz, C0, he13a, le13⟩ := rowP_at hl (show 0 < L.length by omega)
     simp only [Nat.zero_mul, Nat.add_zero] at By Bz C0
     refine U_region (S := fun w' => w'.cell? ⟨bhl, ohl, none⟩ = some (.bool ge13a) ∧ w'.cell? ⟨bhl, ohl + 1, none⟩ = some (.slice ae13a ne13a ce13a) ∧ w'.cell? ⟨bhl, ohl + 2, none⟩ = some (.slice Ae13a Ne13a De13a)) (by kernel_rfl) 10 ?_
     refine AnyU.abs ?_
     intro w46 hW
     have hb : Below wi.heap.size wi w46 := by rw [hW]; exact bDrew _
     replace hs := bStep hs hb
     replace B0 := B0.mono hb
     replace h6 := h6.mono hb
     replace h10 := h10.mono hb
     replace he13a := he13a.mono hb
     replace Vnow := VecR.mono PC.kept Vnow hb
     replace Oback := ownJ PC.kept _ _ _ Oback hb
     replace Othrough := ownJ PC.kept _ _ _ Othrough hb
     replace hl := rowsJ PC.kept _ _ _ hl hb
     replace By := cellK By hb
     replace Bz := cellK Bz hb
     replace C0 := cellK C0 hb
     clear hb hW
     have hH := (show w46.cell? ⟨bhl, ohl, none⟩ = some (.bool ge13a) ∧ w46.cell? ⟨bhl, ohl + 1, none⟩ = some (.slice ae13a ne13a ce13a) ∧ w46.cell? ⟨bhl, ohl + 2, none⟩ = some (.slice Ae13a Ne13a De13a) from ⟨By, Bz, C0⟩)
     refine U_tt 0 ?_ ?_ hH ?_
     rotate_left
     ·(intro w hSw; (try dsimp only at hSw); go_simp; try with_reducible rfl)
     try simp only [LY]
     refine U_tt 1 ?_ ?_ hH ?_
     rotate_left
     ·(intro w hSw; (try dsimp only at hSw); go_simp; try with_reducible rfl)
     try simp only [LY]
     refine U_tt 3 ?_ ?_ hH ?_
     rotate_left
     ·(intro w hSw; (try dsimp only at hSw); go_simp; try with_reducible rfl)
     try simp only [LY]
     refine U_tt 4 ?_ ?_ hH ?_
     rotate_left
     ·(intro w hSw; (try dsimp only at hSw); go_simp; try with_reducible rfl)
     try simp only [LY]
     refine U_tt 5 ?_ ?_ hH ?_
     rotate_left
     ·(intro w hSw; (try dsimp only at hSw); go_simp; try with_reducible rfl)
     try simp only [LY]
     clear hH
     refine U_one (i := 2) (by kernel_rfl) rfl (fun K hK => ?_)
     have B9 := B0.a0
     have Ba := B0.a1
     have Bb := B0.a2
     go_simp
     try go_wp2_with fail
     clear B9 Ba Bb
     refine hK.out _ _ ⟨By, Bz, C0⟩ (fun hH => ?_)
     clear hK K
     try simp only [LY]
     clear hH
     refine U_one (i := 6) (by kernel_rfl) rfl (fun K hK => ?_)
     go_simp
     (with_reducible refine (pMul h10 he13a (SzQ.fit ((HIN.out i (by omega)).mono (show i * 4400 + 1 ≤ 30000 by omega))) (SzQ.fit (HZ.out 0 (by omega)))).mono ?_)
     rintro e w47 ⟨_, rfl, h14, hb⟩
     obtain ⟨sh14, ah14, nh14, ch14, Ah14, Nh14, Ch14, rfl⟩ := h14.shape
     replace hs := bStep hs hb
     replace B0 := B0.mono hb
     replace h6 := h6.mono hb
     replace h10 := h10.mono hb
     replace he13a := he13a.mono hb
     replace Vnow := VecR.mono PC.kept Vnow hb
     replace Oback := ownJ PC.kept _ _ _ Oback hb
     replace Othrough := ownJ PC.kept _ _ _ Othrough hb
     replace hl := rowsJ PC.kept _ _ _ hl hb
     replace By := cellK By hb
     replace Bz := cellK Bz hb
     replace C0 := cellK C0 hb
     clear hb
     try go_wp2_with fail
     refine hK.out _ _ ⟨By, Bz, C0⟩ (fun hH => ?_)
     clear hK K
     try simp only [LY]
     refine U_tt 7 ?_ ?_ hH ?_
     rotate_left
     ·(intro w hSw; (try dsimp only at hSw); go_simp; try with_reducible rfl)
     try simp only [LY]
     refine U_tt 8 ?_ ?_ hH ?_
     rotate_left
     ·(intro w hSw; (try dsimp only at hSw); go_simp; try with_reducible rfl)
     try simp only [LY]
     clear hH
     have B9 := B0.a0
     have Ba := B0.a1
     have Bb := B0.a2
     have finside := B0.free
     have Linside := B0.lt
     refine U_one (i := 9) (by kernel_rfl) rfl (fun K hK => ?_)
     go_simp
     generalize hW_ : (((w47.setCell ⟨w.heap.size, 0, none⟩ (.bool sh14)).setCell ⟨w.heap.size, 1, none⟩ (.slice ah14 nh14 ch14)).setCell ⟨w.heap.size, 2, none⟩ (.slice Ah14 Nh14 Ch14)) = w48
     have hW := hW_.symm
     clear hW_
     have hG : Gr [w.heap.size] w47 w48 := by rw [hW]; exact (Gr.refl _ _).set.set.set
     have hsz := hs.size
     have linside := B0.lt
     have hbw : Below w.heap.size w47 w48 := hG.below1 hs.size (by first | omega | assumption)
     have hk : KeepD w47 w48 := hG.keep ⟨⟨_, B0.ty, by decide⟩, True.intro⟩
     have Bl1inside : Bx w48 (w.heap.size) 32 #[.bool sh14, .slice ah14 nh14 ch14, .slice Ah14 Nh14 Ch14] := by rw [hW]; exact B0.set3
     replace hs := hs.trans hbw
     replace Vnow := VecR.gr PC.kept Vnow hG (notMem1 (by omega)) hk
     replace Oback := Oback.gr PC.kept hG Ap_back_inside.one hk
     replace Othrough := Othrough.gr PC.kept hG Ap_through_inside.one hk
     replace hl := hl.gr PC.kept hG (notMem1 (by omega)) hk
     replace B0 := Bl1inside
     clear Bl1inside
     replace h6 := h6.keep hk
     replace h10 := h10.keep hk
     replace he13a := he13a.keep hk
     replace h14 := h14.keep hk
     replace By := hG.cell By (notMem1 (by dsimp only; omega))
     replace Bz := hG.cell Bz (notMem1 (by dsimp only; omega))
     replace C0 := hG.cell C0 (notMem1 (by dsimp only; omega))
     clear hW hG hk hbw hsz linside
     refine hK.out _ _ ⟨By, Bz, C0⟩ (fun hH => ?_)
     clear hK K
     try simp only [LY]
     clear hH
     refine U_last (by kernel_rfl) rfl (by kernel_rfl) (fun K hK => ?_)
     go_simp
     refine hK.out _ _ ?_
     clear hK K
     intro wl hW
     rw [hW]
     clear hW wl
     try simp only [LY]
     clear By Bz C0
     have e14 : (rgIn L (rgW L K) i) * nthQ L 0 = rgIns L K := ring_in (by omega)
     replace h14 := h14.of_eq e14
     clear e14
     go_wp2
     have B9 := B0.a0
     have Ba := B0.a1
     have Bb := B0.a2
     exact bodyPost_ret (v := .tuple #[u4, u5, .agg #[.bool sh14, .slice ah14 nh14 ch14, .slice Ah14 Nh14 Ch14], .int .i64 0]) (by simp [results, Tryz.results10, go_sem, B9, Ba, Bb]) rfl ⟨_, _, _, _, rfl, Oback.rows, Othrough.rows, h14, rfl, hs⟩
end Go.Proofs.YtkfekkhhfpkfaaaGreat
