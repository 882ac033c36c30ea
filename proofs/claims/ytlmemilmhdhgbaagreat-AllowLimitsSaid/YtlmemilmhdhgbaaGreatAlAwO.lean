/-
  Law 08: its examples (awake); part.
-/
import Derived.Test.YtlmemilmhdhgbaaGreatPkAlFO
set_option linter.unusedSimpArgs false
set_option linter.unusedVariables false
set_option maxRecDepth 100000
set_option maxHeartbeats 16000000
namespace Go.Proofs.YtlmemilmhdhgbaaGreat
open Go.RowKit Dg
attribute [local go_sem ↓] Go.wp_at_zero Go.wp_at_succ
theorem rowsP2 {T : TypeId} {w : World} {g : Nat} {a b c d e f : Value} {p q : Rat} (h : Bx w g T #[a, b, c, d, e, f]) (hp : PV w (.agg #[a, b, c]) p) (hq : PV w (.agg #[d, e, f]) q) : Rows 3 T PC w (.slice (some ⟨g, 0, none⟩) 2 2) [p, q] := by
 refine ⟨_, 2, rfl, Nat.le_refl _, by decide, (fun e => by cases e), (fun a ea _ => by cases ea; exact h.ty), fun i x hx => ?_⟩
 match i, hx with
 | 0, hx =>
  cases hx
  refine ⟨g, 0, [a, b, c], rfl, rfl, fun j u hu => ?_, _, _, _, rfl, hp⟩
  match j, hu with
  | 0, hu => cases hu; exact h.at 0 rfl
  | 1, hu => cases hu; exact h.at 1 rfl
  | 2, hu => cases hu; exact h.at 2 rfl
 | 1, hx =>
  cases hx
  refine ⟨g, 0, [d, e, f], rfl, rfl, fun j u hu => ?_, _, _, _, rfl, hq⟩
  match j, hu with
  | 0, hu => cases hu; exact h.at 3 rfl
  | 1, hu => cases hu; exact h.at 4 rfl
  | 2, hu => cases hu; exact h.at 5 rfl
theorem p_Int_e {n : Int} {f : Rat} (w : World) (h : (n : Rat) = f) (h1 : -4294967295 ≤ n) (h2 : n ≤ 4294967295) : Calls Tryz.prog 20 #[.int .i64 n] w (RetP w f) := by
 subst h
 exact p_Int_calls n w (by omega) (by omega)
theorem al_TextS {w : World} {v : Value} {x : Rat} {s : ByteArray} (hs : strV (textQ x) = .string s) (hx : PV w v x) (fx : Fit x) : Calls Tryz.prog 23 #[v] w (RetV w (.string s)) := hs ▸ pText hx fx
theorem aw_half : ∃ x : Rat, fracQ 1 2 = x ∧ tailQ 3 2 x = x ∧ strV (textQ x) = .string ⟨#[49, 47, 50]⟩ ∧ SzQ 1 x ∧ 0 ≤ x ∧ x ≤ 1 := by
 refine ⟨mkRat 1 2, by decide +kernel, by decide +kernel, ?_, ⟨by decide +kernel, by decide +kernel⟩, by decide +kernel, by decide +kernel⟩
 have h1 : (mkRat 1 2).num = 1 := by decide +kernel
 have h2 : (mkRat 1 2).den = 2 := by decide +kernel
 have h3 : ng (mkRat 1 2) = false := by decide +kernel
 have e1 : decS 1 = [49] := by
  unfold decS
  rw [if_neg (by decide), dgs_succ (by decide), show 1 / 10 = 0 from rfl, dgs_zero]
  rfl
 have e2 : decS 2 = [50] := by
  unfold decS
  rw [if_neg (by decide), dgs_succ (by decide), show 2 / 10 = 0 from rfl, dgs_zero]
  rfl
 unfold strV textQ
 rw [h1, h2, h3, show (1 : Int).natAbs = 1 from rfl, e1, e2]
 rfl
theorem aw_ranks {a b c d : Rat} (ha : ((1 : Int) : Rat) = a) (hb : ((3 : Int) : Rat) = b) (hc : ((2 : Int) : Rat) = c) (hd : ((4 : Int) : Rat) = d) : totS ((rkT [a, b, c, d] [a, b, c, d].length).take 2) 2 = 8 := by
 subst ha hb hc hd
 decide +kernel
theorem al_Tail_e {v : Value} {p : Rat} {n : Nat} {ni k : Int} (w : World) (hn : ni = n) (hp : PV w v p) (sp : SzQ 1 p) (h0 : 0 ≤ p) (h1 : p ≤ 1) (h64 : n ≤ 64) {q : Rat} (hq : tailQ n k p = q) : Calls Tryz.prog 18 #[.int .i64 ni, .int .i64 k, v] w (RetPE w q 0) := by
 subst hn
 exact al_Tail_ok w hp sp h0 h1 h64 hq
theorem l8_awake (w : World) : Calls Tryz.prog 4 #[] w (RetV w (.bool true)) := by
 obtain ⟨x, hf, ht, hx, sx, b0, b1⟩ := aw_half
 obtain ⟨a, ha⟩ : ∃ q : Rat, ((1 : Int) : Rat) = q := ⟨_, rfl⟩
 obtain ⟨b, hb⟩ : ∃ q : Rat, ((3 : Int) : Rat) = q := ⟨_, rfl⟩
 obtain ⟨c, hc⟩ : ∃ q : Rat, ((2 : Int) : Rat) = q := ⟨_, rfl⟩
 obtain ⟨d, hd⟩ : ∃ q : Rat, ((4 : Int) : Rat) = q := ⟨_, rfl⟩
 obtain ⟨f, hf5⟩ : ∃ q : Rat, ((5 : Int) : Rat) = q := ⟨_, rfl⟩
 have sa : SzQ 1 a := ha ▸ szQ_int (by decide)
 have sb : SzQ 1 b := hb ▸ szQ_int (by decide)
 have sc : SzQ 1 c := hc ▸ szQ_int (by decide)
 have sd : SzQ 1 d := hd ▸ szQ_int (by decide)
 have HR := Lib.hid (aw_ranks ha hb hc hd)
 have HF := Lib.hid hf
 have HT := Lib.hid ht
 have HX := Lib.hid hx
 have HB := Lib.hid (And.intro b0 b1)
 have HA := Lib.hid ha
 have HC := Lib.hid hc
 have HD := Lib.hid hd
 have HFF := Lib.hid hf5
 have HQB := Lib.hid hb
 have HZ : Hid (∀ i, i < [a, b, c, d].length → SzQ 100000 (nthQ [a, b, c, d] i)) := Lib.hid (fun i hi => by
  match i, hi with
  | 0, _ => exact sa.mono (by decide)
  | 1, _ => exact sb.mono (by decide)
  | 2, _ => exact sc.mono (by decide)
  | 3, _ => exact sd.mono (by decide))
 clear ha hb hc hd hf ht hx b0 b1 hf5
 have hs := Below.refl w.heap.size w
 go_enter Tryz.func4, Tryz.ntmps4
 go_wp2_with fail
 with_reducible refine (l1_Of _ (by decide) (by decide) (by decide) (by decide) HF.out).mono ?_
 rintro e w1 ⟨_, rfl, h1, hb⟩
 obtain ⟨sh1, ah1, nh1, ch1, Ah1, Nh1, Ch1, rfl⟩ := h1.shape
 replace hs := bStep hs hb
 clear hb
 go_wp2_with fail
 with_reducible refine (al_Tail_e (n := 3) (ni := 3) (k := 2) _ rfl h1 sx HB.out.1 HB.out.2 (by decide) HT.out).mono ?_
 rintro e w2 ⟨_, rfl, h2, hb⟩
 obtain ⟨sh2, ah2, nh2, ch2, Ah2, Nh2, Ch2, rfl⟩ := h2.shape
 replace hs := bStep hs hb
 replace h1 := h1.mono hb
 clear hb
 go_wp2_with fail
 refine Calls.abs ?_
 intro w3 hW
 have hG : Gr [] w2 w3 := by rw [hW]; exact (Gr.refl _ _).alloc
 have hbw : Below w.heap.size w2 w3 := hG.below0 hs.size
 have hk : KeepD w2 w3 := hG.keep True.intro
 have sz_w3 : w.heap.size ≤ w2.heap.size := hs.size
 have Blx : Bx w3 (w2.heap.size) 34 #[.bool sh2, .slice ah2 nh2 ch2, .slice Ah2 Nh2 Ch2] := by rw [hW]; exact (Bx.new0 _ _ _)
 replace hs := hs.trans hbw
 replace h1 := h1.keep hk
 replace h2 := h2.keep hk
 clear hW hG hk hbw
 have hz_w3 : w2.heap.size < w3.heap.size := Blx.lt
 with_reducible refine (p_Int_e _ HA.out (by decide) (by decide)).mono ?_
 rintro e w4 ⟨_, rfl, h3, hb⟩
 obtain ⟨sh3, ah3, nh3, ch3, Ah3, Nh3, Ch3, rfl⟩ := h3.shape
 replace hs := bStep hs hb
 replace Blx := Blx.mono hb
 replace h1 := h1.mono hb
 replace h2 := h2.mono hb
 clear hb
 go_wp2_with fail
 with_reducible refine (p_Int_e _ HQB.out (by decide) (by decide)).mono ?_
 rintro e w5 ⟨_, rfl, h4, hb⟩
 obtain ⟨sh4, ah4, nh4, ch4, Ah4, Nh4, Ch4, rfl⟩ := h4.shape
 replace hs := bStep hs hb
 replace Blx := Blx.mono hb
 replace h1 := h1.mono hb
 replace h2 := h2.mono hb
 replace h3 := h3.mono hb
 clear hb
 go_wp2_with fail
 refine Calls.abs ?_
 intro w6 hW
 have hG : Gr [] w5 w6 := by rw [hW]; exact (Gr.refl _ _).alloc
 have hbw : Below w.heap.size w5 w6 := hG.below0 hs.size
 have hk : KeepD w5 w6 := hG.keep True.intro
 have sz_w6 : w.heap.size ≤ w5.heap.size := hs.size
 have nx_w6 : w2.heap.size < w5.heap.size := Blx.lt
 have B0 : Bx w6 (w5.heap.size) 34 #[.bool sh3, .slice ah3 nh3 ch3, .slice Ah3 Nh3 Ch3, .bool sh4, .slice ah4 nh4 ch4, .slice Ah4 Nh4 Ch4] := by rw [hW]; exact (Bx.new0 _ _ _)
 replace hs := hs.trans hbw
 replace Blx := hG.bx Blx notMem0
 replace h1 := h1.keep hk
 replace h2 := h2.keep hk
 replace h3 := h3.keep hk
 replace h4 := h4.keep hk
 clear hW hG hk hbw
 have hz_w6 : w5.heap.size < w6.heap.size := B0.lt
 with_reducible refine (p_Int_e _ HC.out (by decide) (by decide)).mono ?_
 rintro e w7 ⟨_, rfl, h5, hb⟩
 obtain ⟨sh5, ah5, nh5, ch5, Ah5, Nh5, Ch5, rfl⟩ := h5.shape
 replace hs := bStep hs hb
 replace Blx := Blx.mono hb
 replace B0 := B0.mono hb
 replace h1 := h1.mono hb
 replace h2 := h2.mono hb
 replace h3 := h3.mono hb
 replace h4 := h4.mono hb
 clear hb
 go_wp2_with fail
 with_reducible refine (p_Int_e _ HD.out (by decide) (by decide)).mono ?_
 rintro e w8 ⟨_, rfl, h6, hb⟩
 obtain ⟨sh6, ah6, nh6, ch6, Ah6, Nh6, Ch6, rfl⟩ := h6.shape
 replace hs := bStep hs hb
 replace Blx := Blx.mono hb
 replace B0 := B0.mono hb
 replace h1 := h1.mono hb
 replace h2 := h2.mono hb
 replace h3 := h3.mono hb
 replace h4 := h4.mono hb
 replace h5 := h5.mono hb
 clear hb
 go_wp2_with fail
 refine Calls.abs ?_
 intro w9 hW
 have hG : Gr [] w8 w9 := by rw [hW]; exact (Gr.refl _ _).alloc
 have hbw : Below w.heap.size w8 w9 := hG.below0 hs.size
 have hk : KeepD w8 w9 := hG.keep True.intro
 have sz_w9 : w.heap.size ≤ w8.heap.size := hs.size
 have nx_w9 : w2.heap.size < w8.heap.size := Blx.lt
 have nls_w9 : w5.heap.size < w8.heap.size := B0.lt
 have B1 : Bx w9 (w8.heap.size) 34 #[.bool sh5, .slice ah5 nh5 ch5, .slice Ah5 Nh5 Ch5, .bool sh6, .slice ah6 nh6 ch6, .slice Ah6 Nh6 Ch6] := by rw [hW]; exact (Bx.new0 _ _ _)
 replace hs := hs.trans hbw
 replace Blx := hG.bx Blx notMem0
 replace B0 := hG.bx B0 notMem0
 replace h1 := h1.keep hk
 replace h2 := h2.keep hk
 replace h3 := h3.keep hk
 replace h4 := h4.keep hk
 replace h5 := h5.keep hk
 replace h6 := h6.keep hk
 clear hW hG hk hbw
 have hz_w9 : w8.heap.size < w9.heap.size := B1.lt
 with_reducible refine (al_RankSum (L := [a, b, c, d]) _ (rowsP2 B0 h3 h4) (rowsP2 B1 h5 h6) (by simp) (by simp) (by simp) rfl HZ.out rfl rfl HR.out).mono ?_
 rintro e w10 ⟨rfl, hb⟩
 replace hs := bStep hs hb
 replace Blx := Blx.mono hb
 replace B0 := B0.mono hb
 replace B1 := B1.mono hb
 replace h1 := h1.mono hb
 replace h2 := h2.mono hb
 replace h3 := h3.mono hb
 replace h4 := h4.mono hb
 replace h5 := h5.mono hb
 replace h6 := h6.mono hb
 clear hb
 go_wp2_with fail
 clear B0 B1 h1 h3 h4 h5 h6
 have hz := Below.refl w10.heap.size w10
 refine (al_New w10).mono ?_
 rintro e w11 ⟨g, m, m2, rfl, hB, hm, hm1, hm2, hb⟩
 replace hz := bStep hz hb
 clear hb
 go_wp2_with fail
 refine (p_Int_e _ HFF.out (by decide) (by decide)).mono ?_
 rintro e w12 ⟨_, rfl, h7, hb⟩
 obtain ⟨sh7, ah7, nh7, ch7, Ah7, Nh7, Ch7, rfl⟩ := h7.shape
 replace hz := bStep hz hb
 replace hm := (hb.block m (lt_of_block hm)).trans hm
 replace hB := hB.mono hb
 clear hb
 go_wp2_with fail
 refine Calls.abs ?_
 intro w13 hW
 have Bl5 : Bx w13 w12.heap.size 34 #[.bool sh7, .slice ah7 nh7 ch7, .slice Ah7 Nh7 Ch7] := by rw [hW]; exact Bx.new _ _ _
 have hb : Below w12.heap.size w12 w13 := by rw [hW]; exact (Below.refl _ _).alloc (Nat.le_refl _) _
 replace hz := bStep hz hb
 replace h7 := h7.mono hb
 replace hm := (hb.block m (lt_of_block hm)).trans hm
 replace hB := hB.mono hb
 clear hb hW
 refine (al_Enter1 w13 hB hm hm2 (rowsP1 Bl5 h7) (by simp) (by simp)).mono ?_
 rintro e w14 ⟨rfl, ⟨ea, en, ec, ez, ed, ed', hm'⟩, hB', hbb⟩
 have hz' := hz.trans (hbb w10.heap.size hz.size hm1)
 replace hs := bStep hs hz'
 replace h2 := h2.mono hz'
 replace Blx := Blx.mono hz'
 clear hz hz' hbb hB hm Bl5 h7
 have HM' := Lib.hid hm'
 clear hm'
 have B2 := Blx.at 0 rfl
 have B3 := Blx.at 1 rfl
 have B4 := Blx.at 2 rfl
 go_wp2_with fail
 clear B2 B3 B4
 have hm' := HM'.out
 clear HM'
 with_reducible refine (al_TextS HX.out h2 sx.fit).mono ?_
 rintro e w15 ⟨rfl, hb⟩
 replace hs := bStep hs hb
 replace hm' := (hb.block m (lt_of_block hm')).trans hm'
 replace hB' := hB'.mono hb
 clear hb h2 Blx
 have HM' := Lib.hid hm'
 clear hm'
 go_wp2_with fail
 refine (al_Enter2 w15 hB' HM'.out ⟨_, _, _, _, rfl⟩).mono ?_
 rintro e w16 ⟨rfl, hb⟩
 replace hs := bStep hs hb
 clear hb HM' hB'
 go_wp2
 go_ret
 exact ⟨rfl, hs⟩
end Go.Proofs.YtlmemilmhdhgbaaGreat
