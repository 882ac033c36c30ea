/-
  Law 08: AllowHolds.
-/
import Derived.Test.YtmnipggjjcmjkaaPkHoldO
import Derived.Test.YtmnipggjjcmjkaaPkQntBO
import Derived.Test.YtmnipggjjcmjkaaPkOrdO
import Derived.Test.YtmnipggjjcmjkaaAlkVO
import Derived.Test.YtmnipggjjcmjkaaAlAwO
set_option linter.unusedSimpArgs false
set_option linter.unusedVariables false
set_option maxRecDepth 100000
set_option maxHeartbeats 16000000
namespace Go.Proofs.Ytmnipggjjcmjkaa
open Go.RowKit Dg
attribute [local go_sem ↓] Go.wp_at_zero Go.wp_at_succ
theorem l8_values4 {v : Value} {l : List Int} (w : World) (hl : RowsI 1 I8C w v l) (hl8 : ∀ x ∈ l, -128 ≤ x ∧ x ≤ 127) : Calls Try.prog 18 #[v, .int .i64 4] w (Ret1 (fun w v => Rows 3 26 PC w v (valQ l 4)) w) := l8_values (n := 4) w hl hl8 (by decide)
theorem al_Limit_ofH {v vu vc : Value} {L : List Rat} {u c q : Rat} (w : World) (hl : Rows 3 26 PC w v L) (hu : PV w vu u) (su : SzQ 1 u) (hc : PV w vc c) (sc : SzQ 1 c) (h : LimOk L u c q) : Calls Try.prog 32 #[v, vu, vc] w (RetPE w q 0) := by
 obtain ⟨h1, h2, h3, ⟨r, h4, h5⟩, h6⟩ := h
 exact al_Limit_ok w hl hu su hc sc h1 h2 h3 h4 h6 h5
theorem szQ_memH {L : List Rat} {K : Nat} (hz : ∀ i, i < L.length → SzQ K (nthQ L i)) {x : Rat} (hx : x ∈ L) : SzQ K x := by
 obtain ⟨i, hi, rfl⟩ := List.mem_iff_getElem.1 hx
 have e : nthQ L i = L[i] := by have h := nthQ_some hi; rw [List.getElem?_eq_getElem hi] at h; exact (Option.some.inj h).symm
 exact e ▸ hz i hi
theorem l8_Holds_nil (v : Value) (l : List Int) (n sh cf : Int) (w : World) (hl : RowsI 1 I8C w v l) (hl8 : ∀ x ∈ l, -128 ≤ x ∧ x ≤ 127) (b1 : 0 ≤ n ∧ n ≤ 255) (b2 : 0 ≤ sh ∧ sh ≤ 255) (b3 : 0 ≤ cf ∧ cf ≤ 255) (A : List Rat) (hA : valQ l 4 = A) (g1 : A.length = 0) :
  Calls Try.prog 7 #[v, .int .u8 n, .int .u8 sh, .int .u8 cf] w (RetV w (.bool true)) := by
 obtain ⟨ao, cap, rfl, hc1, hc2, hc3⟩ := hl.slice
 obtain ⟨b1a, b1b⟩ := b1
 obtain ⟨b2a, b2b⟩ := b2
 obtain ⟨b3a, b3b⟩ := b3
 have hs := Below.refl w.heap.size w
 have HL := Lib.hid hl
 have HL8 := Lib.hid hl8
 have HA := Lib.hid hA
 clear hl hl8 hA
 go_enter Try.func7, Try.ntmps7
 go_wp2_with fail
 with_reducible refine (l8_values4 _ (HL.out.mono I8C.kept hs) HL8.out).mono ?_
 rintro e w1 ⟨_, rfl, hA1, hb⟩
 rw [HA.out] at hA1
 obtain ⟨ahA1, khA1, rfl, hA11, hA12, -⟩ := hA1.toI.slice
 replace hs := bStep hs hb
 clear hb
 go_wp2_with fail
 with_reducible refine (l8_awake _).mono ?_
 rintro e w2 ⟨rfl, hb⟩
 replace hs := bStep hs hb
 replace hA1 := rowsJ PC.kept _ _ _ hA1 hb
 clear hb
 have q2 : A.length = 0 := (by omega)
 have q2b : ((A.length : Int) == 0) = true := beq_iff_eq.2 (by omega)
 have q2n : ((A.length : Int) != 0) = false := bne_eq_false_iff_eq.2 (by omega)
 have q2H := Lib.hid q2
 clear q2
 go_wp2_with fail
 with_reducible refine (l8_awake _).mono ?_
 rintro e w3 ⟨rfl, hb⟩
 replace hs := bStep hs hb
 replace hA1 := rowsJ PC.kept _ _ _ hA1 hb
 clear hb
 go_wp2
 go_ret
 exact ⟨rfl, hs⟩
theorem l8_Holds_bad (v : Value) (l : List Int) (n sh cf : Int) (w : World) (hl : RowsI 1 I8C w v l) (hl8 : ∀ x ∈ l, -128 ≤ x ∧ x ≤ 127) (b1 : 0 ≤ n ∧ n ≤ 255) (b2 : 0 ≤ sh ∧ sh ≤ 255) (b3 : 0 ≤ cf ∧ cf ≤ 255) (A : List Rat) (hA : valQ l 4 = A) (g1 : 1 ≤ A.length) (g4 : A.length ≤ 4) (hz1 : ∀ i, i < A.length → SzQ 1 (nthQ A i)) (m : Nat) (hm : 1 + n % 4 = (m : Int)) (m1 : 1 ≤ m) (m4 : m ≤ 4) (u c : Rat) (hu : ((sh % 17 : Int) : Rat) / ((16 : Int) : Rat) = u) (hc : ((cf % 17 : Int) : Rat) / ((16 : Int) : Rat) = c) (su : SzQ 1 u) (sc : SzQ 1 c) (r E : Int) (hr : rkV m u c = r) (hE : rkEr m u c = E) (hn : ¬ E = 0) (h80 : E = 80) :
  Calls Try.prog 7 #[v, .int .u8 n, .int .u8 sh, .int .u8 cf] w (RetV w (.bool true)) := by
 obtain ⟨ao, cap, rfl, hc1, hc2, hc3⟩ := hl.slice
 obtain ⟨b1a, b1b⟩ := b1
 obtain ⟨b2a, b2b⟩ := b2
 obtain ⟨b3a, b3b⟩ := b3
 have hs := Below.refl w.heap.size w
 have HL := Lib.hid hl
 have HL8 := Lib.hid hl8
 have HA := Lib.hid hA
 have HAZ1 := Lib.hid hz1
 have HMM := Lib.hid hm
 have HSU := Lib.hid hu
 have HSC := Lib.hid hc
 have HR := Lib.hid hr
 have HE := Lib.hid hE
 have HNE := Lib.hid hn
 have HE80 := Lib.hid h80
 clear hl hl8 hA hz1 hm hu hc hr hE hn h80
 go_enter Try.func7, Try.ntmps7
 go_wp2_with fail
 with_reducible refine (l8_values4 _ (HL.out.mono I8C.kept hs) HL8.out).mono ?_
 rintro e w1 ⟨_, rfl, hA1, hb⟩
 rw [HA.out] at hA1
 obtain ⟨bhA1, ohA1, khA1, rfl, hA11, hA12, -⟩ := hA1.open_ (by omega)
 replace hs := bStep hs hb
 clear hb
 go_wp2_with fail
 with_reducible refine (l8_awake _).mono ?_
 rintro e w2 ⟨rfl, hb⟩
 replace hs := bStep hs hb
 replace hA1 := rowsJ PC.kept _ _ _ hA1 hb
 clear hb
 have q2 : ¬ (A.length = 0) := (by omega)
 have q2b : ((A.length : Int) == 0) = false := beq_eq_false_iff_ne.2 (by omega)
 have q2n : ((A.length : Int) != 0) = true := bne_iff_ne.2 (by omega)
 have q2H := Lib.hid q2
 clear q2
 go_upto_region 5 with fail
 simp only [HMM.out]
 go_wp2_with fail
 with_reducible refine (l8_part _ HSU.out (by omega) (by omega) (by decide) (by decide)).mono ?_
 rintro e w3 ⟨_, rfl, h3, hb⟩
 obtain ⟨sh3, ah3, nh3, ch3, Ah3, Nh3, Ch3, rfl⟩ := h3.shape
 replace hs := bStep hs hb
 replace hA1 := rowsJ PC.kept _ _ _ hA1 hb
 clear hb
 go_wp2_with fail
 with_reducible refine (l8_part _ HSC.out (by omega) (by omega) (by decide) (by decide)).mono ?_
 rintro e w4 ⟨_, rfl, h4, hb⟩
 obtain ⟨sh4, ah4, nh4, ch4, Ah4, Nh4, Ch4, rfl⟩ := h4.shape
 replace hs := bStep hs hb
 replace h3 := h3.mono hb
 replace hA1 := rowsJ PC.kept _ _ _ hA1 hb
 clear hb
 go_wp2_with fail
 refine Calls.abs ?_
 intro w5 hW
 have hG : Gr [] w4 w5 := by rw [hW]; exact (Gr.refl _ _).alloc.alloc
 have hbw : Below w.heap.size w4 w5 := hG.below0 hs.size
 have hk : KeepD w4 w5 := hG.keep True.intro
 have sz_w5 : w.heap.size ≤ w4.heap.size := hs.size
 have nhA1_w5 : bhA1 < w4.heap.size := hA1.lt (by omega)
 have Bls : Bx w5 (w4.heap.size) 26 #[.bool sh3, .slice ah3 nh3 ch3, .slice Ah3 Nh3 Ch3] := by rw [hW]; exact ((Bx.new0 _ _ _).alloc _)
 have Blc : Bx w5 (w4.heap.size + 1) 26 #[.bool sh4, .slice ah4 nh4 ch4, .slice Ah4 Nh4 Ch4] := by rw [hW]; exact (Bx.new0 _ _ _)
 replace hs := hs.trans hbw
 replace hA1 := rowsJ PC.kept _ _ _ hA1 (hG.below0 (Nat.le_refl _))
 replace h3 := h3.keep hk
 replace h4 := h4.keep hk
 clear hW hG hk hbw
 have hz_w5 : w4.heap.size + 1 < w5.heap.size := Blc.lt
 with_reducible refine (al_Rank_all _ h3 su h4 sc HR.out HE.out).mono ?_
 rintro e w6 ⟨rfl, hb⟩
 replace hs := bStep hs hb
 replace Bls := Bls.mono hb
 replace Blc := Blc.mono hb
 replace h3 := h3.mono hb
 replace h4 := h4.mono hb
 replace hA1 := rowsJ PC.kept _ _ _ hA1 hb
 clear hb
 have q5 : ¬ (E = 0) := HNE.out
 have q5b : (E == 0) = false := beq_eq_false_iff_ne.2 (by omega)
 have q5n : (E != 0) = true := bne_iff_ne.2 (by omega)
 have q5H := Lib.hid q5
 clear q5
 have q6 : E = 80 := HE80.out
 have q6b : (E == 80) = true := beq_iff_eq.2 (by omega)
 have q6n : (E != 80) = false := bne_eq_false_iff_eq.2 (by omega)
 have q6H := Lib.hid q6
 clear q6
 go_wp2
 go_ret
 exact ⟨rfl, hs⟩
theorem l8_Holds_ok (v : Value) (l : List Int) (n sh cf : Int) (w : World) (hl : RowsI 1 I8C w v l) (hl8 : ∀ x ∈ l, -128 ≤ x ∧ x ≤ 127) (b1 : 0 ≤ n ∧ n ≤ 255) (b2 : 0 ≤ sh ∧ sh ≤ 255) (b3 : 0 ≤ cf ∧ cf ≤ 255) (A : List Rat) (hA : valQ l 4 = A) (g1 : 1 ≤ A.length) (g4 : A.length ≤ 4) (hz1 : ∀ i, i < A.length → SzQ 1 (nthQ A i)) (m : Nat) (hm : 1 + n % 4 = (m : Int)) (m1 : 1 ≤ m) (m4 : m ≤ 4) (u c : Rat) (hu : ((sh % 17 : Int) : Rat) / ((16 : Int) : Rat) = u) (hc : ((cf % 17 : Int) : Rat) / ((16 : Int) : Rat) = c) (su : SzQ 1 u) (sc : SzQ 1 c) (hch : 0 ≤ u ∧ u ≤ 1) (r : Nat) (hE : rkEr m u c = 0) (hr : rkV m u c = (r : Int)) (r1 : 1 ≤ r) (r2 : r ≤ m) (q : Rat) (hq : qtQ A u = q) (sq : SzQ 1 q) (NM : Nat) (hNM : A.length ^ m = NM) (NM0 : 0 < NM) (NM1 : NM ≤ 256) (pf : Rat) (hpf : ((cntD (gQ A q) A.length m r NM : Nat) : Rat) / ((NM : Nat) : Rat) = pf) (spf : SzQ 10 pf) (hcp : c ≤ pf) :
  Calls Try.prog 7 #[v, .int .u8 n, .int .u8 sh, .int .u8 cf] w (RetV w (.bool true)) := by
 obtain ⟨ao, cap, rfl, hc1, hc2, hc3⟩ := hl.slice
 obtain ⟨b1a, b1b⟩ := b1
 obtain ⟨b2a, b2b⟩ := b2
 obtain ⟨b3a, b3b⟩ := b3
 have hs := Below.refl w.heap.size w
 have HL := Lib.hid hl
 have HL8 := Lib.hid hl8
 have HA := Lib.hid hA
 have HAZ1 := Lib.hid hz1
 have HMM := Lib.hid hm
 have HSU := Lib.hid hu
 have HSC := Lib.hid hc
 have HCH := Lib.hid hch
 have HE := Lib.hid hE
 have HR := Lib.hid hr
 have HQ := Lib.hid hq
 have HNM := Lib.hid hNM
 have HPF := Lib.hid hpf
 have HCP := Lib.hid hcp
 clear hl hl8 hA hz1 hm hu hc hch hE hr hq hNM hpf hcp
 obtain ⟨i0, hi, hz0, hz1, hz2⟩ := info_parts alP_info
 obtain ⟨j0, hj, hy0, hy1, hy2⟩ := info_parts int_info8
 go_enter Try.func7, Try.ntmps7
 go_wp2_with fail
 with_reducible refine (l8_values4 _ (HL.out.mono I8C.kept hs) HL8.out).mono ?_
 rintro e w1 ⟨_, rfl, hA1, hb⟩
 rw [HA.out] at hA1
 obtain ⟨bhA1, ohA1, khA1, rfl, hA11, hA12, -⟩ := hA1.open_ (by omega)
 replace hs := bStep hs hb
 clear hb
 go_wp2_with fail
 with_reducible refine (l8_awake _).mono ?_
 rintro e w2 ⟨rfl, hb⟩
 replace hs := bStep hs hb
 replace hA1 := rowsJ PC.kept _ _ _ hA1 hb
 clear hb
 have q2 : ¬ (A.length = 0) := (by omega)
 have q2b : ((A.length : Int) == 0) = false := beq_eq_false_iff_ne.2 (by omega)
 have q2n : ((A.length : Int) != 0) = true := bne_iff_ne.2 (by omega)
 have q2H := Lib.hid q2
 clear q2
 go_upto_region 5 with fail
 simp only [HMM.out]
 go_wp2_with fail
 with_reducible refine (l8_part _ HSU.out (by omega) (by omega) (by decide) (by decide)).mono ?_
 rintro e w3 ⟨_, rfl, h3, hb⟩
 obtain ⟨sh3, ah3, nh3, ch3, Ah3, Nh3, Ch3, rfl⟩ := h3.shape
 replace hs := bStep hs hb
 replace hA1 := rowsJ PC.kept _ _ _ hA1 hb
 clear hb
 go_wp2_with fail
 with_reducible refine (l8_part _ HSC.out (by omega) (by omega) (by decide) (by decide)).mono ?_
 rintro e w4 ⟨_, rfl, h4, hb⟩
 obtain ⟨sh4, ah4, nh4, ch4, Ah4, Nh4, Ch4, rfl⟩ := h4.shape
 replace hs := bStep hs hb
 replace h3 := h3.mono hb
 replace hA1 := rowsJ PC.kept _ _ _ hA1 hb
 clear hb
 go_wp2_with fail
 refine Calls.abs ?_
 intro w5 hW
 have hG : Gr [] w4 w5 := by rw [hW]; exact (Gr.refl _ _).alloc.alloc
 have hbw : Below w.heap.size w4 w5 := hG.below0 hs.size
 have hk : KeepD w4 w5 := hG.keep True.intro
 have sz_w5 : w.heap.size ≤ w4.heap.size := hs.size
 have nhA1_w5 : bhA1 < w4.heap.size := hA1.lt (by omega)
 have Bls : Bx w5 (w4.heap.size) 26 #[.bool sh3, .slice ah3 nh3 ch3, .slice Ah3 Nh3 Ch3] := by rw [hW]; exact ((Bx.new0 _ _ _).alloc _)
 have Blc : Bx w5 (w4.heap.size + 1) 26 #[.bool sh4, .slice ah4 nh4 ch4, .slice Ah4 Nh4 Ch4] := by rw [hW]; exact (Bx.new0 _ _ _)
 replace hs := hs.trans hbw
 replace hA1 := rowsJ PC.kept _ _ _ hA1 (hG.below0 (Nat.le_refl _))
 replace h3 := h3.keep hk
 replace h4 := h4.keep hk
 clear hW hG hk hbw
 have hz_w5 : w4.heap.size + 1 < w5.heap.size := Blc.lt
 with_reducible refine (al_Rank_all _ h3 su h4 sc HR.out HE.out).mono ?_
 rintro e w6 ⟨rfl, hb⟩
 replace hs := bStep hs hb
 replace Bls := Bls.mono hb
 replace Blc := Blc.mono hb
 replace h3 := h3.mono hb
 replace h4 := h4.mono hb
 replace hA1 := rowsJ PC.kept _ _ _ hA1 hb
 clear hb
 have B7 : w6.cell? ⟨w4.heap.size, 0, none⟩ = some (.bool sh3) := Bls.at 0 rfl
 have B8 : w6.cell? ⟨w4.heap.size, 1, none⟩ = some (.slice ah3 nh3 ch3) := Bls.at 1 rfl
 have B9 : w6.cell? ⟨w4.heap.size, 2, none⟩ = some (.slice Ah3 Nh3 Ch3) := Bls.at 2 rfl
 have Ls : w4.heap.size < w6.heap.size := Bls.lt
 go_wp2_with fail
 clear B7 B8 B9 Ls
 with_reducible refine (al_Quantile_ok _ hA1 h3 su g1 (by omega) HCH.out HAZ1.out HQ.out).mono ?_
 rintro e w7 ⟨_, rfl, h5, hb⟩
 obtain ⟨sh5, ah5, nh5, ch5, Ah5, Nh5, Ch5, rfl⟩ := h5.shape
 replace hs := bStep hs hb
 replace Bls := Bls.mono hb
 replace Blc := Blc.mono hb
 replace h3 := h3.mono hb
 replace h4 := h4.mono hb
 replace hA1 := rowsJ PC.kept _ _ _ hA1 hb
 clear hb
 go_wp2_with (at_make; refine wpList.stop ?_)
 refine ⟨?_⟩
 refine wpList.abs ?_
 intro w8 hW
 have hG : Gr [] w7 w8 := by rw [hW]; exact (Gr.refl _ _).alloc
 have hbw : Below w.heap.size w7 w8 := hG.below0 hs.size
 have hk : KeepD w7 w8 := hG.keep True.intro
 have sz_w8 : w.heap.size ≤ w7.heap.size := hs.size
 have ns_w8 : w4.heap.size < w7.heap.size := Bls.lt
 have nc_w8 : w4.heap.size + 1 < w7.heap.size := Blc.lt
 have nhA1_w8 : bhA1 < w7.heap.size := hA1.lt (by omega)
 have Blq : Bx w8 (w7.heap.size) 26 #[.bool sh5, .slice ah5 nh5 ch5, .slice Ah5 Nh5 Ch5] := by rw [hW]; exact (Bx.new0 _ _ _)
 replace hs := hs.trans hbw
 replace hA1 := rowsJ PC.kept _ _ _ hA1 (hG.below0 (Nat.le_refl _))
 replace Bls := hG.bx Bls notMem0
 replace Blc := hG.bx Blc notMem0
 replace h3 := h3.keep hk
 replace h4 := h4.keep hk
 replace h5 := h5.keep hk
 clear hW hG hk hbw
 have hz_w8 : w7.heap.size < w8.heap.size := Blq.lt
 refine wpList_make_full _ rfl _ _ _ rfl w.heap.size 3 j0 _ 1 Try.underlying64 hj hy0 hy1 _ _ _ _ (m) rfl rfl (by omega) (by omega) (by rw [hy2]; omega) (by unfold maxLen; omega) hs.size ?_
 intro w9 hown hgrow
 have hb : Below w8.heap.size w8 w9 := (Below.refl _ _).grown hgrow (Nat.le_refl _) (fun k hk => by cases hk)
 have hv_at : w.heap.size ≤ w8.heap.size := hs.size
 have ns_w9 : w4.heap.size < w8.heap.size := Bls.lt
 have nc_w9 : w4.heap.size + 1 < w8.heap.size := Blc.lt
 have nq_w9 : w7.heap.size < w8.heap.size := Blq.lt
 have nhA1_w9 : bhA1 < w8.heap.size := hA1.lt (by omega)
 replace hs := bStep hs hb
 replace Bls := Bls.mono hb
 replace Blc := Blc.mono hb
 replace Blq := Blq.mono hb
 replace h3 := h3.mono hb
 replace h4 := h4.mono hb
 replace h5 := h5.mono hb
 replace hA1 := rowsJ PC.kept _ _ _ hA1 hb
 clear hb
 have Vat : VecR 3 1 IC w9 (w8.heap.size) (dgI A.length m 0) := by rw [← dgI_zero]; exact VecR.made1 hown (by omega) rfl
 clear hown hgrow
 have Lv_at : w8.heap.size < w9.heap.size := Vat.lt
 go_wp2
 go_loopw [18, 17] (fun s18 s17 wq => ∃ ee : Nat, ee ≤ NM ∧ s17 = .int .i64 ee ∧ s18 = .int .i64 (((cntD (gQ A q) A.length m r ee : Nat) : Int)) ∧ Below w.heap.size w wq ∧ Bx wq (w4.heap.size) 26 #[.bool sh3, .slice ah3 nh3 ch3, .slice Ah3 Nh3 Ch3] ∧ Bx wq (w4.heap.size + 1) 26 #[.bool sh4, .slice ah4 nh4 ch4, .slice Ah4 Nh4 Ch4] ∧ Bx wq (w7.heap.size) 26 #[.bool sh5, .slice ah5 nh5 ch5, .slice Ah5 Nh5 Ch5] ∧ PV wq (.agg #[.bool sh3, .slice ah3 nh3 ch3, .slice Ah3 Nh3 Ch3]) (u) ∧ PV wq (.agg #[.bool sh4, .slice ah4 nh4 ch4, .slice Ah4 Nh4 Ch4]) (c) ∧ PV wq (.agg #[.bool sh5, .slice ah5 nh5 ch5, .slice Ah5 Nh5 Ch5]) (q) ∧ Rows 3 26 PC wq (.slice (some ⟨bhA1, ohA1, none⟩) A.length khA1) A ∧ (ee < NM) ∧ (VecR 3 1 IC wq (w8.heap.size) (dgI A.length m ee))) (fun s18 s17 _ => NM - (intOf s17).toNat)
 case atStart => exact ⟨0, Nat.zero_le _, rfl, rfl, hs, Bls, Blc, Blq, h3, h4, h5, hA1, (by omega), Vat⟩
 case round =>
  clear Bls Blc Blq h3 h4 h5 hA1 hs
  obtain ⟨ee, ee_le, rfl, rfl, hs, Bls, Blc, Blq, h3, h4, h5, hA1, HLT, Vat⟩ := hrel
  obtain ⟨wo, hwo⟩ : ∃ x, x = wr := ⟨_, rfl⟩
  subst hwo
  replace HLT := Lib.hid HLT
  replace Vat := Lib.hid Vat
  replace Vat := Vat.out
  have hlt := HLT.out
  obtain ⟨gd, hgd⟩ : ∃ z : Nat, cntD (gQ A q) A.length m r ee = z := ⟨_, rfl⟩
  rw [hgd]
  have gdb := cntD_le (gQ A q) A.length m r ee
  rw [hgd] at gdb
  have HGD := Lib.hid hgd
  clear hgd
  obtain ⟨DW, hDW⟩ : ∃ D, dwL A (digs A.length m ee) = D := ⟨_, rfl⟩
  have lDW : DW.length = m := by rw [← hDW, dwL_len, digs_len]
  have szDW : ∀ i, i < DW.length → SzQ 1 (nthQ DW i) := hDW ▸ dwL_sz rfl (by omega) HAZ1.out
  obtain ⟨x, hx⟩ : ∃ x, ordQ DW (r - 1) = x := ⟨_, rfl⟩
  have sx : SzQ 1 x := hx ▸ szQ_memH szDW (ordQ_mem (by omega))
  have HLO := Lib.hid (show LimOk DW u c x from ⟨by omega, by omega, by rw [lDW]; exact HE.out, ⟨r, by rw [lDW]; exact HR.out, hx⟩, fun i hi => (szDW i hi).mono (by decide)⟩)
  have lDW1 := Nat.le_of_eq lDW
  have lDW2 := Nat.le_of_eq lDW.symm
  have HX := Lib.hid hx
  have HDW := Lib.hid hDW
  clear hx hDW lDW szDW
  go_wp2
  have HB0_6 := Lib.hid hs
  clear hs
  have hs := Below.refl wo.heap.size wo
  have nb_s : w4.heap.size < wo.heap.size := Bls.lt
  have nb_c : w4.heap.size + 1 < wo.heap.size := Blc.lt
  have nb_q : w7.heap.size < wo.heap.size := Blq.lt
  have FhA1 := Lib.hid hA1
  clear hA1
  have FVat := Lib.hid Vat
  clear Vat
  go_loopw [20, 71] (fun s20 s71 wq => ∃ i : Nat, i ≤ m ∧ s71 = .int .i64 i ∧ Below wo.heap.size wo wq ∧ Bx wq (w4.heap.size) 26 #[.bool sh3, .slice ah3 nh3 ch3, .slice Ah3 Nh3 Ch3] ∧ Bx wq (w4.heap.size + 1) 26 #[.bool sh4, .slice ah4 nh4 ch4, .slice Ah4 Nh4 Ch4] ∧ Bx wq (w7.heap.size) 26 #[.bool sh5, .slice ah5 nh5 ch5, .slice Ah5 Nh5 Ch5] ∧ PV wq (.agg #[.bool sh3, .slice ah3 nh3 ch3, .slice Ah3 Nh3 Ch3]) (u) ∧ PV wq (.agg #[.bool sh4, .slice ah4 nh4 ch4, .slice Ah4 Nh4 Ch4]) (c) ∧ PV wq (.agg #[.bool sh5, .slice ah5 nh5 ch5, .slice Ah5 Nh5 Ch5]) (q) ∧ OwnR wo.heap.size 26 3 PC wq s20 (dwK A A.length m ee i)) (fun s20 s71 _ => m - (intOf s71).toNat)
  case atStart => exact ⟨0, Nat.zero_le _, rfl, hs, Bls, Blc, Blq, h3, h4, h5, OwnR.nil _ _ _ _ _⟩
  case round =>
   clear Bls Blc Blq h3 h4 h5 hs
   obtain ⟨i, i_le, rfl, hs, Bls, Blc, Blq, h3, h4, h5, Odr⟩ := hrel
   have ldr := Nat.le_of_eq (dwK_len A (N := A.length) (e := ee) i_le)
   by_cases q7 : i < m
   ·have q7d : ((i : Int) < (m : Int)) = True := eq_true (by omega)
    have BI8a : i < m := by omega
    have BI8b : ((i : Int) : Int) < (m : Int) := by omega
    obtain ⟨Bb, le9⟩ := vecI_at (VecR.mono IC.kept FVat.out hs) (show i < (dgI A.length m ee).length by (first | (rw [dgI_len]; omega) | (rw [zkI_len (by omega)]; omega) | (rw [icI_len (by omega)]; omega)))
    obtain ⟨de9, hde9, bde9⟩ := dgI_at (N := A.length) (m := m) (e := ee) (by omega) (show i < m by omega)
    rw [hde9] at Bb
    replace hde9 := Lib.hid hde9
    have Hde9 := hde9
    clear hde9
    have BI10a : de9 < A.length := by omega
    have BI10b : ((de9 : Int) : Int) < (A.length : Int) := by omega
    obtain ⟨ge11a, ae11a, ne11a, ce11a, Ae11a, Ne11a, De11a, Bc, Bd, Be, he11a, le11⟩ := rowP_at (rowsJ PC.kept _ _ _ FhA1.out hs) (show de9 < A.length by omega)
    go_wp2_with (at_builtin; refine wpList.stop ?_)
    refine ⟨?_⟩
    clear le9 Bb le11 Bc Bd Be
    have nv12 : w8.heap.size < wr.heap.size := (VecR.mono IC.kept FVat.out hs).lt
    refine wpList.abs ?_
    intro w50 hW
    have hG : Gr [] wr w50 := by rw [hW]; exact (Gr.refl _ _).alloc
    have hbw : Below wo.heap.size wr w50 := hG.below0 hs.size
    have hk : KeepD wr w50 := hG.keep True.intro
    have sz_w50 : wo.heap.size ≤ wr.heap.size := hs.size
    have ns_w50 : w4.heap.size < wr.heap.size := Bls.lt
    have nc_w50 : w4.heap.size + 1 < wr.heap.size := Blc.lt
    have nq_w50 : w7.heap.size < wr.heap.size := Blq.lt
    have Ba : Bx w50 (wr.heap.size) 26 #[.bool ge11a, .slice ae11a ne11a ce11a, .slice Ae11a Ne11a De11a] := by rw [hW]; exact (Bx.new0 _ _ _)
    replace hs := hs.trans hbw
    replace Bls := hG.bx Bls notMem0
    replace Blc := hG.bx Blc notMem0
    replace Blq := hG.bx Blq notMem0
    replace h3 := h3.keep hk
    replace h4 := h4.keep hk
    replace h5 := h5.keep hk
    replace he11a := he11a.keep hk
    replace Odr := Odr.mono PC.kept (hG.below0 (Nat.le_refl _))
    clear hW hG hk hbw
    have hz_w50 : wr.heap.size < w50.heap.size := Ba.lt
    obtain ⟨css, ho1, ho2, ho3, hown0⟩ := Odr
    refine wpList_append_lies _ rfl _ _ _ rfl wo.heap.size 26 i0 _ 3 56 Try.underlying41 hi hz0 hz1 hz2 rfl (by omega) _ _ css.flatten rfl hown0 ⟨wr.heap.size, 0, none⟩ 1 1 [.bool ge11a, .slice ae11a ne11a ce11a, .slice Ae11a Ne11a De11a] rfl rfl Ba.news ?_ (by omega) ?_ ?_ ?_ _ rfl ?_
    ·intro u hu; simp only [List.mem_cons, List.mem_nil_iff, or_false] at hu; rcases hu with rfl | rfl | rfl <;> rfl
    ·unfold maxLen; (try simp only [List.length_append, List.length_cons, List.length_nil]); omega
    ·(try simp only [List.length_append, List.length_cons, List.length_nil]); omega
    ·exact hs.size
    intro gdr capdr w51 hown1 hgrow hat hlt_
    have hk_ := KeepD.owns hown0 hgrow (by decide)
    have ho := owns_onlyT hown0 hgrow
    replace hs := hs.grown hgrow hs.size (fun k hk => (hown0.lt k hk).1)
    replace Odr := OwnR.push' PC.kept ho1 ho2 ho3 (x := nthQ A de9) rfl ⟨_, _, _, rfl, he11a⟩ (by simp) hown1 hk_
    replace Bls := Bls.grown hgrow (fun e => by have := (hown0.lt _ e.symm).1; omega)
    replace Blc := Blc.grown hgrow (fun e => by have := (hown0.lt _ e.symm).1; omega)
    replace Blq := Blq.grown hgrow (fun e => by have := (hown0.lt _ e.symm).1; omega)
    replace h3 := h3.keep hk_
    replace h4 := h4.keep hk_
    replace h5 := h5.keep hk_
    replace he11a := he11a.keep hk_
    clear hk_ ho ho1 ho2 ho3 hown0 hown1 hgrow hat hlt_ Ba
    go_wp2
    go_roundw
    case rel => exact ⟨i + 1, by omega, by go_num, hs, Bls, Blc, Blq, h3, h4, h5, (by rw [dwK_next (show i < m by omega) Hde9.out]; exact Odr)⟩
    all_goals first | (simp [intOf]; done) | (simp [intOf]; omega)
   ·have q7d : ((i : Int) < (m : Int)) = False := eq_false (by omega)
    have hD := Odr.rows
    rw [show i = m by omega, dwK_all, HDW.out] at hD
    clear Odr ldr
    have hA1 := rowsJ PC.kept _ _ _ FhA1.out hs
    have Vat := VecR.mono IC.kept FVat.out hs
    replace hs := bStep HB0_6.out hs
    obtain ⟨aD, kD, rfl, hD1, hD2, -⟩ := hD.toI.slice
    have B7 : wr.cell? ⟨w4.heap.size, 0, none⟩ = some (.bool sh3) := Bls.at 0 rfl
    have B8 : wr.cell? ⟨w4.heap.size, 1, none⟩ = some (.slice ah3 nh3 ch3) := Bls.at 1 rfl
    have B9 : wr.cell? ⟨w4.heap.size, 2, none⟩ = some (.slice Ah3 Nh3 Ch3) := Bls.at 2 rfl
    have Ls : w4.heap.size < wr.heap.size := Bls.lt
    have B0 : wr.cell? ⟨w4.heap.size + 1, 0, none⟩ = some (.bool sh4) := Blc.at 0 rfl
    have B1 : wr.cell? ⟨w4.heap.size + 1, 1, none⟩ = some (.slice ah4 nh4 ch4) := Blc.at 1 rfl
    have B2 : wr.cell? ⟨w4.heap.size + 1, 2, none⟩ = some (.slice Ah4 Nh4 Ch4) := Blc.at 2 rfl
    have Lc : w4.heap.size + 1 < wr.heap.size := Blc.lt
    go_wp2_with fail
    clear B7 B8 B9 B0 B1 B2 Ls Lc
    with_reducible refine (al_Limit_ofH _ hD h3 su h4 sc HLO.out).mono ?_
    rintro e w50 ⟨_, rfl, h8, hb⟩
    obtain ⟨sh8, ah8, nh8, ch8, Ah8, Nh8, Ch8, rfl⟩ := h8.shape
    replace hs := bStep hs hb
    replace Bls := Bls.mono hb
    replace Blc := Blc.mono hb
    replace Blq := Blq.mono hb
    replace h3 := h3.mono hb
    replace h4 := h4.mono hb
    replace h5 := h5.mono hb
    replace hA1 := rowsJ PC.kept _ _ _ hA1 hb
    replace Vat := VecR.mono IC.kept Vat hb
    replace hD := rowsJ PC.kept _ _ _ hD hb
    clear hb
    clear hD
    have Bf : w50.cell? ⟨w7.heap.size, 0, none⟩ = some (.bool sh5) := Blq.at 0 rfl
    have Bg : w50.cell? ⟨w7.heap.size, 1, none⟩ = some (.slice ah5 nh5 ch5) := Blq.at 1 rfl
    have Bh : w50.cell? ⟨w7.heap.size, 2, none⟩ = some (.slice Ah5 Nh5 Ch5) := Blq.at 2 rfl
    have Lq : w7.heap.size < w50.heap.size := Blq.lt
    go_wp2_with fail
    clear Bf Bg Bh Lq
    have nv9 : w8.heap.size < w50.heap.size := Vat.lt
    refine Calls.abs ?_
    intro w51 hW
    have hG : Gr [] w50 w51 := by rw [hW]; exact (Gr.refl _ _).alloc
    have hbw : Below w.heap.size w50 w51 := hG.below0 hs.size
    have hk : KeepD w50 w51 := hG.keep True.intro
    have sz_w51 : w.heap.size ≤ w50.heap.size := hs.size
    have ns_w51 : w4.heap.size < w50.heap.size := Bls.lt
    have nc_w51 : w4.heap.size + 1 < w50.heap.size := Blc.lt
    have nq_w51 : w7.heap.size < w50.heap.size := Blq.lt
    have nhA1_w51 : bhA1 < w50.heap.size := hA1.lt (by omega)
    have Blx : Bx w51 (w50.heap.size) 26 #[.bool sh8, .slice ah8 nh8 ch8, .slice Ah8 Nh8 Ch8] := by rw [hW]; exact (Bx.new0 _ _ _)
    replace hs := hs.trans hbw
    replace hA1 := rowsJ PC.kept _ _ _ hA1 (hG.below0 (Nat.le_refl _))
    replace Vat := VecR.mono IC.kept Vat (hG.below0 (Nat.le_refl _))
    replace Bls := hG.bx Bls notMem0
    replace Blc := hG.bx Blc notMem0
    replace Blq := hG.bx Blq notMem0
    replace h3 := h3.keep hk
    replace h4 := h4.keep hk
    replace h5 := h5.keep hk
    replace h8 := h8.keep hk
    clear hW hG hk hbw
    have hz_w51 : w50.heap.size < w51.heap.size := Blx.lt
    with_reducible refine (pCmp h8 h5 (SzQ.fit sx) (SzQ.fit sq)).mono ?_
    rintro e w52 ⟨rfl, hb⟩
    replace hs := bStep hs hb
    replace Bls := Bls.mono hb
    replace Blc := Blc.mono hb
    replace Blq := Blq.mono hb
    replace Blx := Blx.mono hb
    replace h3 := h3.mono hb
    replace h4 := h4.mono hb
    replace h5 := h5.mono hb
    replace h8 := h8.mono hb
    replace hA1 := rowsJ PC.kept _ _ _ hA1 hb
    replace Vat := VecR.mono IC.kept Vat hb
    clear hb
    obtain ⟨sg10, Hsg10⟩ : ∃ s : Int, s = sgQ (x - q) := ⟨_, rfl⟩
    rw [← Hsg10]
    replace Hsg10 := Lib.hid Hsg10
    by_cases q11 : x ≤ q
    ·have q11_ : sg10 ≤ 0 := by have h := sq_le x q; rw [← Hsg10.out] at h; exact h.2 q11
     have q11H := Lib.hid q11
     clear q11
     have q11d : decide (sg10 ≤ 0) = true := decide_eq_true q11_
     go_wp2
     go_loopw [25] (fun s25 wq => ∃ j : Nat, j ≤ m ∧ s25 = .int .i64 j ∧ Below w.heap.size w wq ∧ Bx wq (w4.heap.size) 26 #[.bool sh3, .slice ah3 nh3 ch3, .slice Ah3 Nh3 Ch3] ∧ Bx wq (w4.heap.size + 1) 26 #[.bool sh4, .slice ah4 nh4 ch4, .slice Ah4 Nh4 Ch4] ∧ Bx wq (w7.heap.size) 26 #[.bool sh5, .slice ah5 nh5 ch5, .slice Ah5 Nh5 Ch5] ∧ Bx wq (w50.heap.size) 26 #[.bool sh8, .slice ah8 nh8 ch8, .slice Ah8 Nh8 Ch8] ∧ PV wq (.agg #[.bool sh3, .slice ah3 nh3 ch3, .slice Ah3 Nh3 Ch3]) (u) ∧ PV wq (.agg #[.bool sh4, .slice ah4 nh4 ch4, .slice Ah4 Nh4 Ch4]) (c) ∧ PV wq (.agg #[.bool sh5, .slice ah5 nh5 ch5, .slice Ah5 Nh5 Ch5]) (q) ∧ PV wq (.agg #[.bool sh8, .slice ah8 nh8 ch8, .slice Ah8 Nh8 Ch8]) (x) ∧ Rows 3 26 PC wq (.slice (some ⟨bhA1, ohA1, none⟩) A.length khA1) A ∧ (cyP A.length m ee j) ∧ (VecR 3 1 IC wq (w8.heap.size) (zkI A.length m ee j))) (fun s25 _ => m - (intOf s25).toNat)
     case atStart => exact ⟨0, Nat.zero_le _, rfl, hs, Bls, Blc, Blq, Blx, h3, h4, h5, h8, hA1, (cyP_zero _ _ _), Vat⟩
     case round =>
      clear Bls Blc Blq Blx h3 h4 h5 h8 hA1 hs
      obtain ⟨j, j_le, rfl, hs, Bls, Blc, Blq, Blx, h3, h4, h5, h8, hA1, HCY, Vat⟩ := hrel
      replace HCY := Lib.hid HCY
      replace Vat := Lib.hid Vat
      replace Vat := Vat.out
      by_cases q12 : j < m
      ·have q12d : ((j : Int) < (m : Int)) = True := eq_true (by omega)
       have BI13a : j < m := by omega
       have BI13b : ((j : Int) : Int) < (m : Int) := by omega
       obtain ⟨B3, le14⟩ := vecI_at Vat (show j < (zkI A.length m ee j).length by (first | (rw [dgI_len]; omega) | (rw [zkI_len (by omega)]; omega) | (rw [icI_len (by omega)]; omega)))
       obtain ⟨de14, hde14, bde14⟩ := zkI_at (N := A.length) (m := m) (e := ee) (by omega) (show j < m by omega)
       rw [hde14] at B3
       replace hde14 := Lib.hid hde14
       have Hde14 := hde14
       clear hde14
       obtain ⟨B4, le15⟩ := vecI_at Vat (show j < (zkI A.length m ee j).length by (first | (rw [dgI_len]; omega) | (rw [zkI_len (by omega)]; omega) | (rw [icI_len (by omega)]; omega)))
       obtain ⟨ie15, Hie15⟩ : ∃ z : Int, z = nthI (zkI A.length m ee j) j := ⟨_, rfl⟩
       rw [← Hie15] at B4
       replace Hie15 := Lib.hid Hie15.symm
       have fVat := Vat.free
       have LVat : w8.heap.size < wr.heap.size := Vat.lt
       go_upto_region 29 with fail
       clear fVat LVat le14 B3 le15 B4
       refine Code.abs ?_
       intro w73 hW
       have hG : Gr [w8.heap.size] wr w73 := by rw [hW]; exact (Gr.refl _ _).set
       have hsz := hs.size
       have hbw : Below w.heap.size wr w73 := hG.below1 hs.size (by first | omega | assumption)
       have hk : KeepD wr w73 := hG.keep ⟨⟨_, Vat.ty, by decide⟩, True.intro⟩
       have V1at : VecR 3 1 IC w73 (w8.heap.size) ((zkI A.length m ee j).set j (((de14 : Int)) + 1)) := by rw [hW]; exact (Vat.put1 IC.kept (show j < (zkI A.length m ee j).length by (first | (rw [dgI_len]; omega) | (rw [zkI_len (by omega)]; omega) | (rw [icI_len (by omega)]; omega))) (by decide) rfl ((Gr.refl _ _)))
       rw [ic_eq Hde14.out] at V1at
       replace hs := hs.trans hbw
       replace hA1 := hA1.onlyT PC.kept (hG.onlyT (by intro g hg; simp only [List.mem_cons, List.mem_nil_iff, or_false] at hg; rcases hg with rfl <;> first | exact Vat.ty)) (by decide) (by decide)
       replace Bls := hG.bx Bls (notMem1 (by omega))
       replace Blc := hG.bx Blc (notMem1 (by omega))
       replace Blq := hG.bx Blq (notMem1 (by omega))
       replace Blx := hG.bx Blx (notMem1 (by omega))
       replace Vat := V1at
       clear V1at
       replace h3 := h3.keep hk
       replace h4 := h4.keep hk
       replace h5 := h5.keep hk
       replace h8 := h8.keep hk
       clear hW hG hk hbw hsz
       obtain ⟨B5, le16⟩ := vecI_at Vat (show j < (icI A.length m ee j).length by (first | (rw [dgI_len]; omega) | (rw [zkI_len (by omega)]; omega) | (rw [icI_len (by omega)]; omega)))
       rw [icI_at (show j < m by omega), Hde14.out] at B5
       by_cases q17 : (de14 : Int) + 1 < (A.length : Int)
       ·have q17d : ((de14 : Int) + 1 < (A.length : Int)) = True := eq_true (by omega)
        obtain ⟨hnx, hic⟩ := cy_step (show j < m by omega) (show ee < A.length ^ m by rw [HNM.out]; exact hlt) Hde14.out (by omega) HCY.out
        rw [HNM.out] at hnx
        rw [hic] at Vat
        clear hic
        have q18 : ¬ (j = m) := (by omega)
        have q18b : ((j : Int) == (m : Int)) = false := beq_eq_false_iff_ne.2 (by omega)
        have q18n : ((j : Int) != (m : Int)) = true := bne_iff_ne.2 (by omega)
        have q18H := Lib.hid q18
        clear q18
        go_wp2
        go_roundw
        case rel => exact ⟨ee + 1, by omega, by go_num, (congrArg _ (show ((gd : Int)) + 1 = ((cntD (gQ A q) A.length m r (ee + 1) : Nat) : Int) by rw [hold_yes r1 r2 (by rw [HDW.out, HX.out]; exact q11H.out), HGD.out]; omega)), hs, Bls, Blc, Blq, h3, h4, h5, hA1, hnx, Vat⟩
        all_goals first | (simp [intOf]; done) | (simp [intOf]; omega)
       ·have q17d : ((de14 : Int) + 1 < (A.length : Int)) = False := eq_false (by omega)
        obtain ⟨B6, le18⟩ := vecI_at Vat (show j < (icI A.length m ee j).length by (first | (rw [dgI_len]; omega) | (rw [zkI_len (by omega)]; omega) | (rw [icI_len (by omega)]; omega)))
        obtain ⟨ie18, Hie18⟩ : ∃ z : Int, z = nthI (icI A.length m ee j) j := ⟨_, rfl⟩
        rw [← Hie18] at B6
        replace Hie18 := Lib.hid Hie18.symm
        have fVat := Vat.free
        have LVat : w8.heap.size < w73.heap.size := Vat.lt
        go_upto_region 31 with fail
        clear fVat LVat le16 B5 le18 B6
        refine Code.abs ?_
        intro w74 hW
        have hG : Gr [w8.heap.size] w73 w74 := by rw [hW]; exact (Gr.refl _ _).set
        have hsz := hs.size
        have hbw : Below w.heap.size w73 w74 := hG.below1 hs.size (by first | omega | assumption)
        have hk : KeepD w73 w74 := hG.keep ⟨⟨_, Vat.ty, by decide⟩, True.intro⟩
        have V1at : VecR 3 1 IC w74 (w8.heap.size) ((icI A.length m ee j).set j (0)) := by rw [hW]; exact (Vat.put1 IC.kept (show j < (icI A.length m ee j).length by (first | (rw [dgI_len]; omega) | (rw [zkI_len (by omega)]; omega) | (rw [icI_len (by omega)]; omega))) (by decide) rfl ((Gr.refl _ _)))
        rw [zkI_next (show j < m by omega)] at V1at
        replace hs := hs.trans hbw
        replace hA1 := hA1.onlyT PC.kept (hG.onlyT (by intro g hg; simp only [List.mem_cons, List.mem_nil_iff, or_false] at hg; rcases hg with rfl <;> first | exact Vat.ty)) (by decide) (by decide)
        replace Bls := hG.bx Bls (notMem1 (by omega))
        replace Blc := hG.bx Blc (notMem1 (by omega))
        replace Blq := hG.bx Blq (notMem1 (by omega))
        replace Blx := hG.bx Blx (notMem1 (by omega))
        replace Vat := V1at
        clear V1at
        replace h3 := h3.keep hk
        replace h4 := h4.keep hk
        replace h5 := h5.keep hk
        replace h8 := h8.keep hk
        clear hW hG hk hbw hsz
        go_wp2
        go_roundw
        case rel => exact ⟨j + 1, by omega, by go_num, hs, Bls, Blc, Blq, Blx, h3, h4, h5, h8, hA1, (cyP_next (show j < m by omega) Hde14.out (by omega) HCY.out), Vat⟩
        all_goals first | (simp [intOf]; done) | (simp [intOf]; omega)
      ·have q12d : ((j : Int) < (m : Int)) = False := eq_false (by omega)
       have hnm : ee + 1 = NM := (cy_end (N := A.length) (by rw [HNM.out]; exact hlt) ((show j = m by omega) ▸ HCY.out)).trans HNM.out
       have HFP := Lib.hid (show ((((gd : Int)) + 1 : Int) : Rat) / (((ee : Int) + 1 : Int) : Rat) = pf by rw [← HPF.out, ← hnm, hold_yes r1 r2 (by rw [HDW.out, HX.out]; exact q11H.out), HGD.out]; rfl)
       have q13 : j = m := (by omega)
       have q13b : ((j : Int) == (m : Int)) = true := beq_iff_eq.2 (by omega)
       have q13n : ((j : Int) != (m : Int)) = false := bne_eq_false_iff_eq.2 (by omega)
       have q13H := Lib.hid q13
       clear q13
       go_upto_region 33 with fail
       obtain ⟨sg15, Hsg15⟩ : ∃ s : Int, s = sgQ (pf - c) := ⟨_, rfl⟩
       replace Hsg15 := Lib.hid Hsg15
       refine U_region (S := fun w' => w'.cell? ⟨w4.heap.size + 1, 0, none⟩ = some (.bool sh4) ∧ w'.cell? ⟨w4.heap.size + 1, 1, none⟩ = some (.slice ah4 nh4 ch4) ∧ w'.cell? ⟨w4.heap.size + 1, 2, none⟩ = some (.slice Ah4 Nh4 Ch4)) (by kernel_rfl) 7 ?_
       refine AnyU.abs ?_
       intro w73 hW
       have hb : Below wr.heap.size wr w73 := by rw [hW]; exact bDrew _
       replace hs := bStep hs hb
       replace Bls := Bls.mono hb
       replace Blc := Blc.mono hb
       replace Blq := Blq.mono hb
       replace Blx := Blx.mono hb
       replace h3 := h3.mono hb
       replace h4 := h4.mono hb
       replace h5 := h5.mono hb
       replace h8 := h8.mono hb
       replace hA1 := rowsJ PC.kept _ _ _ hA1 hb
       replace Vat := VecR.mono IC.kept Vat hb
       clear hb hW
       have B0 : w73.cell? ⟨w4.heap.size + 1, 0, none⟩ = some (.bool sh4) := Blc.at 0 rfl
       have B1 : w73.cell? ⟨w4.heap.size + 1, 1, none⟩ = some (.slice ah4 nh4 ch4) := Blc.at 1 rfl
       have B2 : w73.cell? ⟨w4.heap.size + 1, 2, none⟩ = some (.slice Ah4 Nh4 Ch4) := Blc.at 2 rfl
       have hH := (show w73.cell? ⟨w4.heap.size + 1, 0, none⟩ = some (.bool sh4) ∧ w73.cell? ⟨w4.heap.size + 1, 1, none⟩ = some (.slice ah4 nh4 ch4) ∧ w73.cell? ⟨w4.heap.size + 1, 2, none⟩ = some (.slice Ah4 Nh4 Ch4) from ⟨B0, B1, B2⟩)
       refine U_tk 0 124 ?_ ?_ hH ?_
       rotate_left
       ·(intro w hSw; (try dsimp only at hSw); go_simp; try with_reducible rfl)
       simp only [LY]
       refine U_tk 1 125 ?_ ?_ hH ?_
       rotate_left
       ·(intro w hSw; (try dsimp only at hSw); go_simp; try with_reducible rfl)
       simp only [LY]
       refine U_tk 3 127 ?_ ?_ hH ?_
       rotate_left
       ·(intro w hSw; (try dsimp only at hSw); go_simp; try with_reducible rfl)
       simp only [LY]
       clear hH
       refine U_one (i := 2) (by kernel_rfl) rfl (fun K hK => ?_)
       go_simp
       (with_reducible refine (l8_part _ HFP.out (by omega) (by omega) (by omega) (by omega)).mono ?_)
       rintro e w74 ⟨_, rfl, h14, hb⟩
       obtain ⟨sh14, ah14, nh14, ch14, Ah14, Nh14, Ch14, rfl⟩ := h14.shape
       replace hs := bStep hs hb
       replace Bls := Bls.mono hb
       replace Blc := Blc.mono hb
       replace Blq := Blq.mono hb
       replace Blx := Blx.mono hb
       replace h3 := h3.mono hb
       replace h4 := h4.mono hb
       replace h5 := h5.mono hb
       replace h8 := h8.mono hb
       replace hA1 := rowsJ PC.kept _ _ _ hA1 hb
       replace Vat := VecR.mono IC.kept Vat hb
       replace B0 := cellK B0 hb
       replace B1 := cellK B1 hb
       replace B2 := cellK B2 hb
       clear hb
       try go_wp2_with fail
       refine hK.out _ _ ⟨B0, B1, B2⟩ (fun hH => ?_)
       clear hK K
       try simp only [LY]
       clear hH
       refine U_one (i := 4) (by kernel_rfl) rfl (fun K hK => ?_)
       go_simp
       (with_reducible refine (pCmp h14 h4 (SzQ.fit spf) (SzQ.fit sc)).mono ?_)
       rintro e w75 ⟨rfl, hb⟩
       replace hs := bStep hs hb
       replace Bls := Bls.mono hb
       replace Blc := Blc.mono hb
       replace Blq := Blq.mono hb
       replace Blx := Blx.mono hb
       replace h3 := h3.mono hb
       replace h4 := h4.mono hb
       replace h5 := h5.mono hb
       replace h8 := h8.mono hb
       replace h14 := h14.mono hb
       replace hA1 := rowsJ PC.kept _ _ _ hA1 hb
       replace Vat := VecR.mono IC.kept Vat hb
       replace B0 := cellK B0 hb
       replace B1 := cellK B1 hb
       replace B2 := cellK B2 hb
       clear hb
       rw [← Hsg15.out]
       try go_wp2_with fail
       refine hK.out _ _ ⟨B0, B1, B2⟩ (fun hH => ?_)
       clear hK K
       try simp only [LY]
       refine U_tk 5 129 ?_ ?_ hH ?_
       rotate_left
       ·(intro w hSw; (try dsimp only at hSw); go_simp; try with_reducible rfl)
       simp only [LY]
       refine U_tk 6 8 ?_ ?_ hH ?_
       rotate_left
       ·(intro w hSw; (try dsimp only at hSw); go_simp; try with_reducible rfl)
       simp only [LY]
       clear hH
       refine U_endN (by kernel_rfl) ?_
       clear B0 B1 B2
       have q16 : c ≤ pf := HCP.out
       have q16_ : 0 ≤ sg15 := by have h := sq_ge pf c; rw [← Hsg15.out] at h; exact h.2 q16
       have q16H := Lib.hid q16
       clear q16
       have q16d : decide (0 ≤ sg15) = true := decide_eq_true q16_
       try simp only [q16d]
       go_wp2
       go_ret
       exact ⟨rfl, hs⟩
    ·have q11_ : ¬ (sg10 ≤ 0) := by have h := sq_le x q; rw [← Hsg10.out] at h; exact fun h1 => q11 (h.1 h1)
     have q11H := Lib.hid q11
     clear q11
     have q11d : decide (sg10 ≤ 0) = false := decide_eq_false q11_
     go_wp2
     go_loopw [25] (fun s25 wq => ∃ j : Nat, j ≤ m ∧ s25 = .int .i64 j ∧ Below w.heap.size w wq ∧ Bx wq (w4.heap.size) 26 #[.bool sh3, .slice ah3 nh3 ch3, .slice Ah3 Nh3 Ch3] ∧ Bx wq (w4.heap.size + 1) 26 #[.bool sh4, .slice ah4 nh4 ch4, .slice Ah4 Nh4 Ch4] ∧ Bx wq (w7.heap.size) 26 #[.bool sh5, .slice ah5 nh5 ch5, .slice Ah5 Nh5 Ch5] ∧ Bx wq (w50.heap.size) 26 #[.bool sh8, .slice ah8 nh8 ch8, .slice Ah8 Nh8 Ch8] ∧ PV wq (.agg #[.bool sh3, .slice ah3 nh3 ch3, .slice Ah3 Nh3 Ch3]) (u) ∧ PV wq (.agg #[.bool sh4, .slice ah4 nh4 ch4, .slice Ah4 Nh4 Ch4]) (c) ∧ PV wq (.agg #[.bool sh5, .slice ah5 nh5 ch5, .slice Ah5 Nh5 Ch5]) (q) ∧ PV wq (.agg #[.bool sh8, .slice ah8 nh8 ch8, .slice Ah8 Nh8 Ch8]) (x) ∧ Rows 3 26 PC wq (.slice (some ⟨bhA1, ohA1, none⟩) A.length khA1) A ∧ (cyP A.length m ee j) ∧ (VecR 3 1 IC wq (w8.heap.size) (zkI A.length m ee j))) (fun s25 _ => m - (intOf s25).toNat)
     case atStart => exact ⟨0, Nat.zero_le _, rfl, hs, Bls, Blc, Blq, Blx, h3, h4, h5, h8, hA1, (cyP_zero _ _ _), Vat⟩
     case round =>
      clear Bls Blc Blq Blx h3 h4 h5 h8 hA1 hs
      obtain ⟨j, j_le, rfl, hs, Bls, Blc, Blq, Blx, h3, h4, h5, h8, hA1, HCY, Vat⟩ := hrel
      replace HCY := Lib.hid HCY
      replace Vat := Lib.hid Vat
      replace Vat := Vat.out
      by_cases q12 : j < m
      ·have q12d : ((j : Int) < (m : Int)) = True := eq_true (by omega)
       have BI13a : j < m := by omega
       have BI13b : ((j : Int) : Int) < (m : Int) := by omega
       obtain ⟨B3, le14⟩ := vecI_at Vat (show j < (zkI A.length m ee j).length by (first | (rw [dgI_len]; omega) | (rw [zkI_len (by omega)]; omega) | (rw [icI_len (by omega)]; omega)))
       obtain ⟨de14, hde14, bde14⟩ := zkI_at (N := A.length) (m := m) (e := ee) (by omega) (show j < m by omega)
       rw [hde14] at B3
       replace hde14 := Lib.hid hde14
       have Hde14 := hde14
       clear hde14
       obtain ⟨B4, le15⟩ := vecI_at Vat (show j < (zkI A.length m ee j).length by (first | (rw [dgI_len]; omega) | (rw [zkI_len (by omega)]; omega) | (rw [icI_len (by omega)]; omega)))
       obtain ⟨ie15, Hie15⟩ : ∃ z : Int, z = nthI (zkI A.length m ee j) j := ⟨_, rfl⟩
       rw [← Hie15] at B4
       replace Hie15 := Lib.hid Hie15.symm
       have fVat := Vat.free
       have LVat : w8.heap.size < wr.heap.size := Vat.lt
       go_upto_region 29 with fail
       clear fVat LVat le14 B3 le15 B4
       refine Code.abs ?_
       intro w73 hW
       have hG : Gr [w8.heap.size] wr w73 := by rw [hW]; exact (Gr.refl _ _).set
       have hsz := hs.size
       have hbw : Below w.heap.size wr w73 := hG.below1 hs.size (by first | omega | assumption)
       have hk : KeepD wr w73 := hG.keep ⟨⟨_, Vat.ty, by decide⟩, True.intro⟩
       have V1at : VecR 3 1 IC w73 (w8.heap.size) ((zkI A.length m ee j).set j (((de14 : Int)) + 1)) := by rw [hW]; exact (Vat.put1 IC.kept (show j < (zkI A.length m ee j).length by (first | (rw [dgI_len]; omega) | (rw [zkI_len (by omega)]; omega) | (rw [icI_len (by omega)]; omega))) (by decide) rfl ((Gr.refl _ _)))
       rw [ic_eq Hde14.out] at V1at
       replace hs := hs.trans hbw
       replace hA1 := hA1.onlyT PC.kept (hG.onlyT (by intro g hg; simp only [List.mem_cons, List.mem_nil_iff, or_false] at hg; rcases hg with rfl <;> first | exact Vat.ty)) (by decide) (by decide)
       replace Bls := hG.bx Bls (notMem1 (by omega))
       replace Blc := hG.bx Blc (notMem1 (by omega))
       replace Blq := hG.bx Blq (notMem1 (by omega))
       replace Blx := hG.bx Blx (notMem1 (by omega))
       replace Vat := V1at
       clear V1at
       replace h3 := h3.keep hk
       replace h4 := h4.keep hk
       replace h5 := h5.keep hk
       replace h8 := h8.keep hk
       clear hW hG hk hbw hsz
       obtain ⟨B5, le16⟩ := vecI_at Vat (show j < (icI A.length m ee j).length by (first | (rw [dgI_len]; omega) | (rw [zkI_len (by omega)]; omega) | (rw [icI_len (by omega)]; omega)))
       rw [icI_at (show j < m by omega), Hde14.out] at B5
       by_cases q17 : (de14 : Int) + 1 < (A.length : Int)
       ·have q17d : ((de14 : Int) + 1 < (A.length : Int)) = True := eq_true (by omega)
        obtain ⟨hnx, hic⟩ := cy_step (show j < m by omega) (show ee < A.length ^ m by rw [HNM.out]; exact hlt) Hde14.out (by omega) HCY.out
        rw [HNM.out] at hnx
        rw [hic] at Vat
        clear hic
        have q18 : ¬ (j = m) := (by omega)
        have q18b : ((j : Int) == (m : Int)) = false := beq_eq_false_iff_ne.2 (by omega)
        have q18n : ((j : Int) != (m : Int)) = true := bne_iff_ne.2 (by omega)
        have q18H := Lib.hid q18
        clear q18
        go_wp2
        go_roundw
        case rel => exact ⟨ee + 1, by omega, by go_num, (congrArg _ (show (gd : Int) = ((cntD (gQ A q) A.length m r (ee + 1) : Nat) : Int) by rw [hold_no r1 r2 (by rw [HDW.out, HX.out]; exact q11H.out), HGD.out])), hs, Bls, Blc, Blq, h3, h4, h5, hA1, hnx, Vat⟩
        all_goals first | (simp [intOf]; done) | (simp [intOf]; omega)
       ·have q17d : ((de14 : Int) + 1 < (A.length : Int)) = False := eq_false (by omega)
        obtain ⟨B6, le18⟩ := vecI_at Vat (show j < (icI A.length m ee j).length by (first | (rw [dgI_len]; omega) | (rw [zkI_len (by omega)]; omega) | (rw [icI_len (by omega)]; omega)))
        obtain ⟨ie18, Hie18⟩ : ∃ z : Int, z = nthI (icI A.length m ee j) j := ⟨_, rfl⟩
        rw [← Hie18] at B6
        replace Hie18 := Lib.hid Hie18.symm
        have fVat := Vat.free
        have LVat : w8.heap.size < w73.heap.size := Vat.lt
        go_upto_region 31 with fail
        clear fVat LVat le16 B5 le18 B6
        refine Code.abs ?_
        intro w74 hW
        have hG : Gr [w8.heap.size] w73 w74 := by rw [hW]; exact (Gr.refl _ _).set
        have hsz := hs.size
        have hbw : Below w.heap.size w73 w74 := hG.below1 hs.size (by first | omega | assumption)
        have hk : KeepD w73 w74 := hG.keep ⟨⟨_, Vat.ty, by decide⟩, True.intro⟩
        have V1at : VecR 3 1 IC w74 (w8.heap.size) ((icI A.length m ee j).set j (0)) := by rw [hW]; exact (Vat.put1 IC.kept (show j < (icI A.length m ee j).length by (first | (rw [dgI_len]; omega) | (rw [zkI_len (by omega)]; omega) | (rw [icI_len (by omega)]; omega))) (by decide) rfl ((Gr.refl _ _)))
        rw [zkI_next (show j < m by omega)] at V1at
        replace hs := hs.trans hbw
        replace hA1 := hA1.onlyT PC.kept (hG.onlyT (by intro g hg; simp only [List.mem_cons, List.mem_nil_iff, or_false] at hg; rcases hg with rfl <;> first | exact Vat.ty)) (by decide) (by decide)
        replace Bls := hG.bx Bls (notMem1 (by omega))
        replace Blc := hG.bx Blc (notMem1 (by omega))
        replace Blq := hG.bx Blq (notMem1 (by omega))
        replace Blx := hG.bx Blx (notMem1 (by omega))
        replace Vat := V1at
        clear V1at
        replace h3 := h3.keep hk
        replace h4 := h4.keep hk
        replace h5 := h5.keep hk
        replace h8 := h8.keep hk
        clear hW hG hk hbw hsz
        go_wp2
        go_roundw
        case rel => exact ⟨j + 1, by omega, by go_num, hs, Bls, Blc, Blq, Blx, h3, h4, h5, h8, hA1, (cyP_next (show j < m by omega) Hde14.out (by omega) HCY.out), Vat⟩
        all_goals first | (simp [intOf]; done) | (simp [intOf]; omega)
      ·have q12d : ((j : Int) < (m : Int)) = False := eq_false (by omega)
       have hnm : ee + 1 = NM := (cy_end (N := A.length) (by rw [HNM.out]; exact hlt) ((show j = m by omega) ▸ HCY.out)).trans HNM.out
       have HFP := Lib.hid (show (((gd : Int) : Int) : Rat) / (((ee : Int) + 1 : Int) : Rat) = pf by rw [← HPF.out, ← hnm, hold_no r1 r2 (by rw [HDW.out, HX.out]; exact q11H.out), HGD.out]; rfl)
       have q13 : j = m := (by omega)
       have q13b : ((j : Int) == (m : Int)) = true := beq_iff_eq.2 (by omega)
       have q13n : ((j : Int) != (m : Int)) = false := bne_eq_false_iff_eq.2 (by omega)
       have q13H := Lib.hid q13
       clear q13
       go_upto_region 33 with fail
       obtain ⟨sg15, Hsg15⟩ : ∃ s : Int, s = sgQ (pf - c) := ⟨_, rfl⟩
       replace Hsg15 := Lib.hid Hsg15
       refine U_region (S := fun w' => w'.cell? ⟨w4.heap.size + 1, 0, none⟩ = some (.bool sh4) ∧ w'.cell? ⟨w4.heap.size + 1, 1, none⟩ = some (.slice ah4 nh4 ch4) ∧ w'.cell? ⟨w4.heap.size + 1, 2, none⟩ = some (.slice Ah4 Nh4 Ch4)) (by kernel_rfl) 7 ?_
       refine AnyU.abs ?_
       intro w73 hW
       have hb : Below wr.heap.size wr w73 := by rw [hW]; exact bDrew _
       replace hs := bStep hs hb
       replace Bls := Bls.mono hb
       replace Blc := Blc.mono hb
       replace Blq := Blq.mono hb
       replace Blx := Blx.mono hb
       replace h3 := h3.mono hb
       replace h4 := h4.mono hb
       replace h5 := h5.mono hb
       replace h8 := h8.mono hb
       replace hA1 := rowsJ PC.kept _ _ _ hA1 hb
       replace Vat := VecR.mono IC.kept Vat hb
       clear hb hW
       have B0 : w73.cell? ⟨w4.heap.size + 1, 0, none⟩ = some (.bool sh4) := Blc.at 0 rfl
       have B1 : w73.cell? ⟨w4.heap.size + 1, 1, none⟩ = some (.slice ah4 nh4 ch4) := Blc.at 1 rfl
       have B2 : w73.cell? ⟨w4.heap.size + 1, 2, none⟩ = some (.slice Ah4 Nh4 Ch4) := Blc.at 2 rfl
       have hH := (show w73.cell? ⟨w4.heap.size + 1, 0, none⟩ = some (.bool sh4) ∧ w73.cell? ⟨w4.heap.size + 1, 1, none⟩ = some (.slice ah4 nh4 ch4) ∧ w73.cell? ⟨w4.heap.size + 1, 2, none⟩ = some (.slice Ah4 Nh4 Ch4) from ⟨B0, B1, B2⟩)
       refine U_tk 0 124 ?_ ?_ hH ?_
       rotate_left
       ·(intro w hSw; (try dsimp only at hSw); go_simp; try with_reducible rfl)
       simp only [LY]
       refine U_tk 1 125 ?_ ?_ hH ?_
       rotate_left
       ·(intro w hSw; (try dsimp only at hSw); go_simp; try with_reducible rfl)
       simp only [LY]
       refine U_tk 3 127 ?_ ?_ hH ?_
       rotate_left
       ·(intro w hSw; (try dsimp only at hSw); go_simp; try with_reducible rfl)
       simp only [LY]
       clear hH
       refine U_one (i := 2) (by kernel_rfl) rfl (fun K hK => ?_)
       go_simp
       (with_reducible refine (l8_part _ HFP.out (by omega) (by omega) (by omega) (by omega)).mono ?_)
       rintro e w74 ⟨_, rfl, h14, hb⟩
       obtain ⟨sh14, ah14, nh14, ch14, Ah14, Nh14, Ch14, rfl⟩ := h14.shape
       replace hs := bStep hs hb
       replace Bls := Bls.mono hb
       replace Blc := Blc.mono hb
       replace Blq := Blq.mono hb
       replace Blx := Blx.mono hb
       replace h3 := h3.mono hb
       replace h4 := h4.mono hb
       replace h5 := h5.mono hb
       replace h8 := h8.mono hb
       replace hA1 := rowsJ PC.kept _ _ _ hA1 hb
       replace Vat := VecR.mono IC.kept Vat hb
       replace B0 := cellK B0 hb
       replace B1 := cellK B1 hb
       replace B2 := cellK B2 hb
       clear hb
       try go_wp2_with fail
       refine hK.out _ _ ⟨B0, B1, B2⟩ (fun hH => ?_)
       clear hK K
       try simp only [LY]
       clear hH
       refine U_one (i := 4) (by kernel_rfl) rfl (fun K hK => ?_)
       go_simp
       (with_reducible refine (pCmp h14 h4 (SzQ.fit spf) (SzQ.fit sc)).mono ?_)
       rintro e w75 ⟨rfl, hb⟩
       replace hs := bStep hs hb
       replace Bls := Bls.mono hb
       replace Blc := Blc.mono hb
       replace Blq := Blq.mono hb
       replace Blx := Blx.mono hb
       replace h3 := h3.mono hb
       replace h4 := h4.mono hb
       replace h5 := h5.mono hb
       replace h8 := h8.mono hb
       replace h14 := h14.mono hb
       replace hA1 := rowsJ PC.kept _ _ _ hA1 hb
       replace Vat := VecR.mono IC.kept Vat hb
       replace B0 := cellK B0 hb
       replace B1 := cellK B1 hb
       replace B2 := cellK B2 hb
       clear hb
       rw [← Hsg15.out]
       try go_wp2_with fail
       refine hK.out _ _ ⟨B0, B1, B2⟩ (fun hH => ?_)
       clear hK K
       try simp only [LY]
       refine U_tk 5 129 ?_ ?_ hH ?_
       rotate_left
       ·(intro w hSw; (try dsimp only at hSw); go_simp; try with_reducible rfl)
       simp only [LY]
       refine U_tk 6 8 ?_ ?_ hH ?_
       rotate_left
       ·(intro w hSw; (try dsimp only at hSw); go_simp; try with_reducible rfl)
       simp only [LY]
       clear hH
       refine U_endN (by kernel_rfl) ?_
       clear B0 B1 B2
       have q16 : c ≤ pf := HCP.out
       have q16_ : 0 ≤ sg15 := by have h := sq_ge pf c; rw [← Hsg15.out] at h; exact h.2 q16
       have q16H := Lib.hid q16
       clear q16
       have q16d : decide (0 ≤ sg15) = true := decide_eq_true q16_
       try simp only [q16d]
       go_wp2
       go_ret
       exact ⟨rfl, hs⟩
end Go.Proofs.Ytmnipggjjcmjkaa
namespace Go.Proofs.Ytmnipggjjcmjkaa
open Go.RowKit Dg
theorem rkEr_80H {n : Int} {u c : Rat} (h1 : 1 ≤ n) (h2 : n ≤ 64) (hu : 0 ≤ u ∧ u ≤ 1) (hc : 0 ≤ c ∧ c ≤ 1) (h : ¬ rkEr n u c = 0) : rkEr n u c = 80 := by
  have hw : ¬ rkWrong n u c := fun e => by
    rcases e with e | e | e | e
    · omega
    · omega
    · exact e hu
    · exact e hc
  unfold rkEr at *
  rw [if_neg hw] at *
  unfold rkE at *
  split at h
  · rw [if_pos (by assumption)]
  · exact absurd rfl h
theorem rk_rangeM {m : Nat} {u c : Rat} {r : Nat} (hE : rkEr m u c = 0) (hr : rkV m u c = (r : Int)) : 1 ≤ r ∧ r ≤ m := by
  unfold rkEr at hE
  unfold rkV at hr
  by_cases h : rkWrong m u c
  · rw [if_pos h] at hE; cases hE
  · rw [if_neg h] at hE hr
    rw [Int.toNat_natCast] at hE hr
    have hle := rkF_le (1 - u) c m m
    by_cases h0 : rkF (1 - u) m c m = 0
    · rw [h0] at hE; cases hE
    · omega
theorem l8_AllowHolds (v : Value) (l : List Int) (n sh cf : Int) (w : World) (hl : RowsI 1 I8C w v l) (hl8 : ∀ x ∈ l, -128 ≤ x ∧ x ≤ 127) (b1 : 0 ≤ n ∧ n ≤ 255) (b2 : 0 ≤ sh ∧ sh ≤ 255) (b3 : 0 ≤ cf ∧ cf ≤ 255) :
    Calls Try.prog 7 #[v, .int .u8 n, .int .u8 sh, .int .u8 cf] w (RetV w (.bool true)) := by
  obtain ⟨A, hA⟩ : ∃ A, valQ l 4 = A := ⟨_, rfl⟩
  have la := (valQ_len l 4).1
  rw [hA] at la
  by_cases h0 : A.length = 0
  · exact l8_Holds_nil v l n sh cf w hl hl8 b1 b2 b3 A hA h0
  · have g1 : 1 ≤ A.length := by omega
    have hz1 : ∀ i, i < A.length → SzQ 1 (nthQ A i) := fun i hi => hA ▸ valQ_sz hl8 (hA.symm ▸ hi)
    obtain ⟨u, hu⟩ : ∃ q : Rat, ((sh % 17 : Int) : Rat) / ((16 : Int) : Rat) = q := ⟨_, rfl⟩
    obtain ⟨c, hc⟩ : ∃ q : Rat, ((cf % 17 : Int) : Rat) / ((16 : Int) : Rat) = q := ⟨_, rfl⟩
    have su : SzQ 1 u := hu ▸ szQ_frac (by omega) (by decide) (by decide)
    have sc : SzQ 1 c := hc ▸ szQ_frac (by omega) (by decide) (by decide)
    have cu := div_bd hu (by omega) (by omega) (by decide)
    have cc := div_bd hc (by omega) (by omega) (by decide)
    obtain ⟨m, hm⟩ : ∃ m : Nat, 1 + n % 4 = (m : Int) := ⟨(1 + n % 4).toNat, by omega⟩
    have m1 : 1 ≤ m := by omega
    have m4 : m ≤ 4 := by omega
    by_cases hE : rkEr m u c = 0
    · obtain ⟨r, hr⟩ : ∃ r : Nat, rkV m u c = (r : Int) := by
        unfold rkV
        split
        · exact ⟨0, rfl⟩
        · exact ⟨_, rfl⟩
      obtain ⟨r1, r2⟩ := rk_rangeM hE hr
      have law := hold_law g1 cu hE hr
      obtain ⟨q0, q1⟩ := qt_same g1 cu.2
      have hb := (bqF_bd A (u * ((A.length : Int) : Rat)) A.length).2
      have sq : SzQ 1 (qtQ A u) := q1 ▸ hz1 _ (by omega)
      have p0 : 0 < A.length ^ m := Nat.pow_pos (by omega)
      have p1 : A.length ^ m ≤ 256 := Nat.le_trans (Nat.pow_le_pow_left la m) (Nat.le_trans (Nat.pow_le_pow_right (by decide) m4) (by decide))
      have hcn := cntD_le (gQ A (qtQ A u)) A.length m r (A.length ^ m)
      have spf : SzQ 10 (((cntD (gQ A (qtQ A u)) A.length m r (A.length ^ m) : Nat) : Rat) / ((A.length ^ m : Nat) : Rat)) :=
        SzQ.mono (szQ_frac (n := ((cntD (gQ A (qtQ A u)) A.length m r (A.length ^ m) : Nat) : Int)) (d := ((A.length ^ m : Nat) : Int)) (by omega) (by omega) (by omega)) (by decide)
      exact l8_Holds_ok v l n sh cf w hl hl8 b1 b2 b3 A hA g1 la hz1 m hm m1 m4 u c hu hc su sc cu r hE hr r1 r2 _ rfl sq _ rfl p0 p1 _ rfl spf law
    · have h80 := rkEr_80H (show (1 : Int) ≤ m by omega) (by omega) cu cc hE
      exact l8_Holds_bad v l n sh cf w hl hl8 b1 b2 b3 A hA g1 la hz1 m hm m1 m4 u c hu hc su sc _ _ rfl rfl hE h80
end Go.Proofs.Ytmnipggjjcmjkaa
