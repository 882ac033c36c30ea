/-
  Law 08: AllowOrders.
-/
import Derived.Test.YtmnipggjjcmjkaaGreatPkOrdO
import Derived.Test.YtmnipggjjcmjkaaGreatRevQO
import Derived.Test.YtmnipggjjcmjkaaGreatAlkVO
import Derived.Test.YtmnipggjjcmjkaaGreatAlAwO
set_option linter.unusedSimpArgs false
set_option linter.unusedVariables false
namespace Go.Proofs.YtmnipggjjcmjkaaGreat
open Go.RowKit Dg
attribute [local go_sem ↓] Go.wp_at_zero Go.wp_at_succ

theorem l8_values8 {v : Value} {l : List Int} (w : World) (hl : RowsI 1 I8C w v l) (hl8 : ∀ x ∈ l, -128 ≤ x ∧ x ≤ 127) : Calls Tryz.prog 42 #[v, .int .i64 8] w (Ret1 (fun w v => Rows 3 29 PC w v (valQ l 8)) w) := l8_values (n := 8) w hl hl8 (by decide)
theorem p_ZeroB {v : Value} {q : Rat} {w : World} {b : Bool} (h : PV w v q) (hb : decide (q = 0) = b) : Calls Tryz.prog 48 #[v] w (RetV w (.bool b)) := by
  subst hb; exact p_Zero_calls _ _ _ h
theorem al_Limit_of {v vu vc : Value} {L : List Rat} {u c q : Rat} (w : World) (hl : Rows 3 29 PC w v L) (hu : PV w vu u) (su : SzQ 1 u) (hc : PV w vc c) (sc : SzQ 1 c) (h : LimOk L u c q) : Calls Tryz.prog 44 #[v, vu, vc] w (RetPE w q 0) := by
  obtain ⟨h1, h2, h3, ⟨r, h4, h5⟩, h6⟩ := h
  exact al_Limit_ok w hl hu su hc sc h1 h2 h3 h4 h6 h5

theorem p_Int_9 {n : Int} {f : Rat} (w : World) (h : ((1 + n : Int) : Rat) = f) (h1 : 0 ≤ n) (h2 : n ≤ 255) : Calls Tryz.prog 50 #[.int .i64 (1 + n)] w (RetP w f) := p_Int_8 w h (by omega) (by omega)
set_option maxRecDepth 100000 in
set_option maxHeartbeats 16000000 in
theorem l8_Orders_nil (v : Value) (l : List Int) (sh cf bb tm aa mo : Int) (w : World) (hl : RowsI 1 I8C w v l) (hl8 : ∀ x ∈ l, -128 ≤ x ∧ x ≤ 127) (b1 : 0 ≤ sh ∧ sh ≤ 255) (b2 : 0 ≤ cf ∧ cf ≤ 255) (b3 : -128 ≤ bb ∧ bb ≤ 127) (b4 : 0 ≤ tm ∧ tm ≤ 255) (b5 : 0 ≤ aa ∧ aa ≤ 255) (b6 : 0 ≤ mo ∧ mo ≤ 255) (A : List Rat) (hA : valQ l 8 = A) (g1 : A.length = 0) :
    Calls Tryz.prog 8 #[v, .int .u8 sh, .int .u8 cf, .int .i8 bb, .int .u8 tm, .int .u8 aa, .int .u8 mo] w (RetV w (.bool true)) := by
  obtain ⟨ao, cap, rfl, hc1, hc2, hc3⟩ := hl.slice
  obtain ⟨b1a, b1b⟩ := b1
  obtain ⟨b2a, b2b⟩ := b2
  obtain ⟨b3a, b3b⟩ := b3
  obtain ⟨b4a, b4b⟩ := b4
  obtain ⟨b5a, b5b⟩ := b5
  obtain ⟨b6a, b6b⟩ := b6
  have hs := Below.refl w.heap.size w
  have HL := Lib.hid hl
  have HL8 := Lib.hid hl8
  have HA := Lib.hid hA
  clear hl hl8 hA
  go_enter Tryz.func8, Tryz.ntmps8
  go_wp2_with fail
  with_reducible refine (l8_values8 _ (HL.out.mono I8C.kept hs) HL8.out).mono ?_
  rintro e w1 ⟨_, rfl, hA1, hb⟩
  rw [HA.out] at hA1
  obtain ⟨ahA1, khA1, rfl, hA11, hA12, -⟩ := hA1.toI.slice
  replace hs := bStep hs hb
  clear hb
  go_wp2_with fail
  with_reducible refine (l8_awake _).mono ?_
  rintro e w2 ⟨rfl, hb⟩
  replace hs := bStep hs hb
  replace hA1 := rowsJ PC.kept _ _ _ hA1 hb
  clear hb
  have q2 : A.length = 0 := (by omega)
  have q2b : ((A.length : Int) == 0) = true := beq_iff_eq.2 (by omega)
  have q2n : ((A.length : Int) != 0) = false := bne_eq_false_iff_eq.2 (by omega)
  have q2H := Lib.hid q2
  clear q2
  go_wp2_with fail
  with_reducible refine (l8_awake _).mono ?_
  rintro e w3 ⟨rfl, hb⟩
  replace hs := bStep hs hb
  replace hA1 := rowsJ PC.kept _ _ _ hA1 hb
  clear hb
  go_wp2
  go_ret
  exact ⟨rfl, hs⟩

set_option maxRecDepth 100000 in
set_option maxHeartbeats 16000000 in
theorem l8_Orders_bad (v : Value) (l : List Int) (sh cf bb tm aa mo : Int) (w : World) (hl : RowsI 1 I8C w v l) (hl8 : ∀ x ∈ l, -128 ≤ x ∧ x ≤ 127) (b1 : 0 ≤ sh ∧ sh ≤ 255) (b2 : 0 ≤ cf ∧ cf ≤ 255) (b3 : -128 ≤ bb ∧ bb ≤ 127) (b4 : 0 ≤ tm ∧ tm ≤ 255) (b5 : 0 ≤ aa ∧ aa ≤ 255) (b6 : 0 ≤ mo ∧ mo ≤ 255) (A : List Rat) (hA : valQ l 8 = A) (g1 : 1 ≤ A.length) (g8 : A.length ≤ 8) (hz1 : ∀ i, i < A.length → SzQ 1 (nthQ A i)) (u c : Rat) (hu : ((sh % 9 : Int) : Rat) / ((8 : Int) : Rat) = u) (hc : ((cf % 9 : Int) : Rat) / ((8 : Int) : Rat) = c) (su : SzQ 1 u) (sc : SzQ 1 c) (m va : Rat) (hm : meanQ A = m) (hva : varQ A = va) (sm : SzQ 1000 m) (sva : SzQ 7000 va) (hvg : ¬ va < 0) (hve : decide (va = 0) = eqK A A.length) (E : Int) (hE : rkEr A.length u c = E) (hn : ¬ E = 0) (h80 : E = 80) :
    Calls Tryz.prog 8 #[v, .int .u8 sh, .int .u8 cf, .int .i8 bb, .int .u8 tm, .int .u8 aa, .int .u8 mo] w (RetV w (.bool true)) := by
  obtain ⟨ao, cap, rfl, hc1, hc2, hc3⟩ := hl.slice
  obtain ⟨b1a, b1b⟩ := b1
  obtain ⟨b2a, b2b⟩ := b2
  obtain ⟨b3a, b3b⟩ := b3
  obtain ⟨b4a, b4b⟩ := b4
  obtain ⟨b5a, b5b⟩ := b5
  obtain ⟨b6a, b6b⟩ := b6
  have hs := Below.refl w.heap.size w
  have HL := Lib.hid hl
  have HL8 := Lib.hid hl8
  have HA := Lib.hid hA
  have HAZ1 := Lib.hid hz1
  have HSU := Lib.hid hu
  have HSC := Lib.hid hc
  have HM := Lib.hid hm
  have HV := Lib.hid hva
  have HVG := Lib.hid hvg
  have HVE := Lib.hid hve
  have HE := Lib.hid hE
  have HNE := Lib.hid hn
  have HE80 := Lib.hid h80
  clear hl hl8 hA hz1 hu hc hm hva hvg hve hE hn h80
  go_enter Tryz.func8, Tryz.ntmps8
  go_wp2_with fail
  with_reducible refine (l8_values8 _ (HL.out.mono I8C.kept hs) HL8.out).mono ?_
  rintro e w1 ⟨_, rfl, hA1, hb⟩
  rw [HA.out] at hA1
  obtain ⟨bhA1, ohA1, khA1, rfl, hA11, hA12, -⟩ := hA1.open_ (by omega)
  replace hs := bStep hs hb
  clear hb
  go_wp2_with fail
  with_reducible refine (l8_awake _).mono ?_
  rintro e w2 ⟨rfl, hb⟩
  replace hs := bStep hs hb
  replace hA1 := rowsJ PC.kept _ _ _ hA1 hb
  clear hb
  have q2 : ¬ (A.length = 0) := (by omega)
  have q2b : ((A.length : Int) == 0) = false := beq_eq_false_iff_ne.2 (by omega)
  have q2n : ((A.length : Int) != 0) = true := bne_iff_ne.2 (by omega)
  have q2H := Lib.hid q2
  clear q2
  go_wp2_with fail
  with_reducible refine (l8_part _ HSU.out (by omega) (by omega) (by decide) (by decide)).mono ?_
  rintro e w3 ⟨_, rfl, h3, hb⟩
  obtain ⟨sh3, ah3, nh3, ch3, Ah3, Nh3, Ch3, rfl⟩ := h3.shape
  replace hs := bStep hs hb
  replace hA1 := rowsJ PC.kept _ _ _ hA1 hb
  clear hb
  go_wp2_with fail
  with_reducible refine (l8_part _ HSC.out (by omega) (by omega) (by decide) (by decide)).mono ?_
  rintro e w4 ⟨_, rfl, h4, hb⟩
  obtain ⟨sh4, ah4, nh4, ch4, Ah4, Nh4, Ch4, rfl⟩ := h4.shape
  replace hs := bStep hs hb
  replace h3 := h3.mono hb
  replace hA1 := rowsJ PC.kept _ _ _ hA1 hb
  clear hb
  go_wp2_with fail
  refine Calls.abs ?_
  intro w5 hW
  have hG : Gr [] w4 w5 := by rw [hW]; exact (Gr.refl _ _).alloc.alloc
  have hbw : Below w.heap.size w4 w5 := hG.below0 hs.size
  have hk : KeepD w4 w5 := hG.keep True.intro
  have sz_w5 : w.heap.size ≤ w4.heap.size := hs.size
  have nhA1_w5 : bhA1 < w4.heap.size := hA1.lt (by omega)
  have Bls : Bx w5 (w4.heap.size) 29 #[.bool sh3, .slice ah3 nh3 ch3, .slice Ah3 Nh3 Ch3] := by rw [hW]; exact ((Bx.new0 _ _ _).alloc _)
  have Blc : Bx w5 (w4.heap.size + 1) 29 #[.bool sh4, .slice ah4 nh4 ch4, .slice Ah4 Nh4 Ch4] := by rw [hW]; exact (Bx.new0 _ _ _)
  replace hs := hs.trans hbw
  replace hA1 := rowsJ PC.kept _ _ _ hA1 (hG.below0 (Nat.le_refl _))
  replace h3 := h3.keep hk
  replace h4 := h4.keep hk
  clear hW hG hk hbw
  have hz_w5 : w4.heap.size + 1 < w5.heap.size := Blc.lt
  with_reducible refine (al_Limit_rank _ hA1 h3 su h4 sc g1 (by omega) HE.out HNE.out).mono ?_
  rintro e w6 ⟨_, rfl, h5, hb⟩
  obtain ⟨sh5, ah5, nh5, ch5, Ah5, Nh5, Ch5, rfl⟩ := h5.shape
  replace hs := bStep hs hb
  replace Bls := Bls.mono hb
  replace Blc := Blc.mono hb
  replace h3 := h3.mono hb
  replace h4 := h4.mono hb
  replace hA1 := rowsJ PC.kept _ _ _ hA1 hb
  clear hb
  go_wp2_with fail
  refine Calls.abs ?_
  intro w7 hW
  have hG : Gr [] w6 w7 := by rw [hW]; exact (Gr.refl _ _).alloc
  have hbw : Below w.heap.size w6 w7 := hG.below0 hs.size
  have hk : KeepD w6 w7 := hG.keep True.intro
  have sz_w7 : w.heap.size ≤ w6.heap.size := hs.size
  have ns_w7 : w4.heap.size < w6.heap.size := Bls.lt
  have nc_w7 : w4.heap.size + 1 < w6.heap.size := Blc.lt
  have nhA1_w7 : bhA1 < w6.heap.size := hA1.lt (by omega)
  have Blx : Bx w7 (w6.heap.size) 29 #[.bool sh5, .slice ah5 nh5 ch5, .slice Ah5 Nh5 Ch5] := by rw [hW]; exact (Bx.new0 _ _ _)
  replace hs := hs.trans hbw
  replace hA1 := rowsJ PC.kept _ _ _ hA1 (hG.below0 (Nat.le_refl _))
  replace Bls := hG.bx Bls notMem0
  replace Blc := hG.bx Blc notMem0
  replace h3 := h3.keep hk
  replace h4 := h4.keep hk
  replace h5 := h5.keep hk
  clear hW hG hk hbw
  have hz_w7 : w6.heap.size < w7.heap.size := Blx.lt
  with_reducible refine (al_Mean _ hA1 g1 (by omega) HAZ1.out HM.out HV.out).mono ?_
  rintro e w8 ⟨_, _, _, rfl, h6, h7, rfl, hb⟩
  obtain ⟨sh6, ah6, nh6, ch6, Ah6, Nh6, Ch6, rfl⟩ := h6.shape
  obtain ⟨sh7, ah7, nh7, ch7, Ah7, Nh7, Ch7, rfl⟩ := h7.shape
  replace hs := bStep hs hb
  replace Bls := Bls.mono hb
  replace Blc := Blc.mono hb
  replace Blx := Blx.mono hb
  replace h3 := h3.mono hb
  replace h4 := h4.mono hb
  replace h5 := h5.mono hb
  replace hA1 := rowsJ PC.kept _ _ _ hA1 hb
  clear hb
  go_wp2
  refine Code.abs ?_
  intro w9 hW
  have hG : Gr [] w8 w9 := by rw [hW]; exact (Gr.refl _ _).alloc.alloc
  have hbw : Below w.heap.size w8 w9 := hG.below0 hs.size
  have hk : KeepD w8 w9 := hG.keep True.intro
  have sz_w9 : w.heap.size ≤ w8.heap.size := hs.size
  have ns_w9 : w4.heap.size < w8.heap.size := Bls.lt
  have nc_w9 : w4.heap.size + 1 < w8.heap.size := Blc.lt
  have nx_w9 : w6.heap.size < w8.heap.size := Blx.lt
  have nhA1_w9 : bhA1 < w8.heap.size := hA1.lt (by omega)
  have Blk : Bx w9 (w8.heap.size) 29 #[.bool sh6, .slice ah6 nh6 ch6, .slice Ah6 Nh6 Ch6] := by rw [hW]; exact ((Bx.new0 _ _ _).alloc _)
  have Blv : Bx w9 (w8.heap.size + 1) 29 #[.bool sh7, .slice ah7 nh7 ch7, .slice Ah7 Nh7 Ch7] := by rw [hW]; exact (Bx.new0 _ _ _)
  replace hs := hs.trans hbw
  replace hA1 := rowsJ PC.kept _ _ _ hA1 (hG.below0 (Nat.le_refl _))
  replace Bls := hG.bx Bls notMem0
  replace Blc := hG.bx Blc notMem0
  replace Blx := hG.bx Blx notMem0
  replace h3 := h3.keep hk
  replace h4 := h4.keep hk
  replace h5 := h5.keep hk
  replace h6 := h6.keep hk
  replace h7 := h7.keep hk
  clear hW hG hk hbw
  have hz_w9 : w8.heap.size + 1 < w9.heap.size := Blv.lt
  go_loopw [23, 71] (fun s23 s71 wq => ∃ k : Nat, k ≤ A.length ∧ s71 = .int .i64 k ∧ s23 = .bool (eqK A k) ∧ Below w.heap.size w wq ∧ Bx wq (w4.heap.size) 29 #[.bool sh3, .slice ah3 nh3 ch3, .slice Ah3 Nh3 Ch3] ∧ Bx wq (w4.heap.size + 1) 29 #[.bool sh4, .slice ah4 nh4 ch4, .slice Ah4 Nh4 Ch4] ∧ Bx wq (w6.heap.size) 29 #[.bool sh5, .slice ah5 nh5 ch5, .slice Ah5 Nh5 Ch5] ∧ Bx wq (w8.heap.size) 29 #[.bool sh6, .slice ah6 nh6 ch6, .slice Ah6 Nh6 Ch6] ∧ Bx wq (w8.heap.size + 1) 29 #[.bool sh7, .slice ah7 nh7 ch7, .slice Ah7 Nh7 Ch7] ∧ PV wq (.agg #[.bool sh3, .slice ah3 nh3 ch3, .slice Ah3 Nh3 Ch3]) (u) ∧ PV wq (.agg #[.bool sh4, .slice ah4 nh4 ch4, .slice Ah4 Nh4 Ch4]) (c) ∧ PV wq (.agg #[.bool sh5, .slice ah5 nh5 ch5, .slice Ah5 Nh5 Ch5]) (0) ∧ PV wq (.agg #[.bool sh6, .slice ah6 nh6 ch6, .slice Ah6 Nh6 Ch6]) (m) ∧ PV wq (.agg #[.bool sh7, .slice ah7 nh7 ch7, .slice Ah7 Nh7 Ch7]) (va) ∧ Rows 3 29 PC wq (.slice (some ⟨bhA1, ohA1, none⟩) A.length khA1) A) (fun s23 s71 _ => A.length - (intOf s71).toNat)
  case atStart => exact ⟨0, Nat.zero_le _, rfl, rfl, hs, Bls, Blc, Blx, Blk, Blv, h3, h4, h5, h6, h7, hA1⟩
  case round =>
    clear Bls Blc Blx Blk Blv h3 h4 h5 h6 h7 hA1 hs
    obtain ⟨k, k_le, rfl, rfl, hs, Bls, Blc, Blx, Blk, Blv, h3, h4, h5, h6, h7, hA1⟩ := hrel
    obtain ⟨b8, Hb8⟩ : ∃ b : Bool, b = eqK A k := ⟨_, rfl⟩
    rw [← Hb8]
    replace Hb8 := Lib.hid Hb8
    by_cases q9 : k < A.length
    · have q9d : ((k : Int) < (A.length : Int)) = True := eq_true (by omega)
      have BI10a : k < A.length := by omega
      have BI10b : ((k : Int) : Int) < (A.length : Int) := by omega
      obtain ⟨ge11a, ae11a, ne11a, ce11a, Ae11a, Ne11a, De11a, Ee110, Ee111, Ee112, he11a, le11⟩ := rowP_at hA1 (show k < A.length by omega)
      go_upto_region 11 with fail
      clear le11 Ee110 Ee111 Ee112
      refine Code.abs ?_
      intro w30 hW
      have hG : Gr [] wr w30 := by rw [hW]; exact (Gr.refl _ _).alloc
      have hbw : Below w.heap.size wr w30 := hG.below0 hs.size
      have hk : KeepD wr w30 := hG.keep True.intro
      have sz_w30 : w.heap.size ≤ wr.heap.size := hs.size
      have ns_w30 : w4.heap.size < wr.heap.size := Bls.lt
      have nc_w30 : w4.heap.size + 1 < wr.heap.size := Blc.lt
      have nx_w30 : w6.heap.size < wr.heap.size := Blx.lt
      have nk_w30 : w8.heap.size < wr.heap.size := Blk.lt
      have nv_w30 : w8.heap.size + 1 < wr.heap.size := Blv.lt
      have nhA1_w30 : bhA1 < wr.heap.size := hA1.lt (by omega)
      have Bly : Bx w30 (wr.heap.size) 29 #[.bool ge11a, .slice ae11a ne11a ce11a, .slice Ae11a Ne11a De11a] := by rw [hW]; exact (Bx.new0 _ _ _)
      replace hs := hs.trans hbw
      replace hA1 := rowsJ PC.kept _ _ _ hA1 (hG.below0 (Nat.le_refl _))
      replace Bls := hG.bx Bls notMem0
      replace Blc := hG.bx Blc notMem0
      replace Blx := hG.bx Blx notMem0
      replace Blk := hG.bx Blk notMem0
      replace Blv := hG.bx Blv notMem0
      replace h3 := h3.keep hk
      replace h4 := h4.keep hk
      replace h5 := h5.keep hk
      replace h6 := h6.keep hk
      replace h7 := h7.keep hk
      replace he11a := he11a.keep hk
      clear hW hG hk hbw
      have hz_w30 : wr.heap.size < w30.heap.size := Bly.lt
      by_cases q12 : eqK A k = true
      · obtain rfl : b8 = true := by rw [Hb8.out]; exact q12
        have q12H := Lib.hid q12
        clear q12
        have BI13a : 0 < A.length := by omega
        have BI13b : (0 : Int) < (A.length : Int) := by omega
        obtain ⟨ge14a, ae14a, ne14a, ce14a, Ae14a, Ne14a, De14a, Ee140, Ee141, Ee142, he14a, le14⟩ := rowP_at hA1 (show 0 < A.length by omega)
        simp only [Nat.zero_mul, Nat.add_zero] at Ee140 Ee141 Ee142
        obtain ⟨b15, Hb15⟩ : ∃ b : Bool, b = decide (nthQ A k = nthQ A 0) := ⟨_, rfl⟩
        replace Hb15 := Lib.hid Hb15
        by_cases q16 : nthQ A k = nthQ A 0
        · obtain rfl : b15 = true := by rw [Hb15.out]; exact decide_eq_true q16
          have q16H := Lib.hid q16
          clear q16
          refine U_region (S := fun w' => w'.cell? ⟨wr.heap.size, 0, none⟩ = some (.bool ge11a) ∧ w'.cell? ⟨wr.heap.size, 1, none⟩ = some (.slice ae11a ne11a ce11a) ∧ w'.cell? ⟨wr.heap.size, 2, none⟩ = some (.slice Ae11a Ne11a De11a) ∧ w'.cell? ⟨bhA1, ohA1, none⟩ = some (.bool ge14a) ∧ w'.cell? ⟨bhA1, ohA1 + 1, none⟩ = some (.slice ae14a ne14a ce14a) ∧ w'.cell? ⟨bhA1, ohA1 + 2, none⟩ = some (.slice Ae14a Ne14a De14a)) (by kernel_rfl) 9 ?_
          refine AnyU.abs ?_
          intro w31 hW
          have hb : Below w30.heap.size w30 w31 := by rw [hW]; exact bDrew _
          replace hs := bStep hs hb
          replace Bls := Bls.mono hb
          replace Blc := Blc.mono hb
          replace Blx := Blx.mono hb
          replace Blk := Blk.mono hb
          replace Blv := Blv.mono hb
          replace Bly := Bly.mono hb
          replace h3 := h3.mono hb
          replace h4 := h4.mono hb
          replace h5 := h5.mono hb
          replace h6 := h6.mono hb
          replace h7 := h7.mono hb
          replace he11a := he11a.mono hb
          replace he14a := he14a.mono hb
          replace hA1 := rowsJ PC.kept _ _ _ hA1 hb
          replace Ee140 := cellK Ee140 hb
          replace Ee141 := cellK Ee141 hb
          replace Ee142 := cellK Ee142 hb
          clear hb hW
          have cy_0 : w31.cell? ⟨wr.heap.size, 0, none⟩ = some (.bool ge11a) := Bly.at 0 rfl
          have cy_1 : w31.cell? ⟨wr.heap.size, 1, none⟩ = some (.slice ae11a ne11a ce11a) := Bly.at 1 rfl
          have cy_2 : w31.cell? ⟨wr.heap.size, 2, none⟩ = some (.slice Ae11a Ne11a De11a) := Bly.at 2 rfl
          have hH := (show w31.cell? ⟨wr.heap.size, 0, none⟩ = some (.bool ge11a) ∧ w31.cell? ⟨wr.heap.size, 1, none⟩ = some (.slice ae11a ne11a ce11a) ∧ w31.cell? ⟨wr.heap.size, 2, none⟩ = some (.slice Ae11a Ne11a De11a) ∧ w31.cell? ⟨bhA1, ohA1, none⟩ = some (.bool ge14a) ∧ w31.cell? ⟨bhA1, ohA1 + 1, none⟩ = some (.slice ae14a ne14a ce14a) ∧ w31.cell? ⟨bhA1, ohA1 + 2, none⟩ = some (.slice Ae14a Ne14a De14a) from ⟨cy_0, cy_1, cy_2, Ee140, Ee141, Ee142⟩)
          refine U_tk 0 75 ?_ ?_ hH ?_
          rotate_left
          · (intro w hSw; (try dsimp only at hSw); go_simp; try with_reducible rfl)
          simp only [LY]
          refine U_tk 1 76 ?_ ?_ hH ?_
          rotate_left
          · (intro w hSw; (try dsimp only at hSw); go_simp; try with_reducible rfl)
          simp only [LY]
          refine U_tk 2 77 ?_ ?_ hH ?_
          rotate_left
          · (intro w hSw; (try dsimp only at hSw); go_simp; try with_reducible rfl)
          simp only [LY]
          refine U_tk 3 78 ?_ ?_ hH ?_
          rotate_left
          · (intro w hSw; (try dsimp only at hSw); go_simp; try with_reducible rfl)
          simp only [LY]
          refine U_tk 4 79 ?_ ?_ hH ?_
          rotate_left
          · (intro w hSw; (try dsimp only at hSw); go_simp; try with_reducible rfl)
          simp only [LY]
          refine U_tk 5 80 ?_ ?_ hH ?_
          rotate_left
          · (intro w hSw; (try dsimp only at hSw); go_simp; try with_reducible rfl)
          simp only [LY]
          clear hH
          refine U_one (i := 6) (by kernel_rfl) rfl (fun K hK => ?_)
          go_simp
          (with_reducible refine (p_Same_calls _ _ _ _ _ he11a he14a).mono ?_)
          rintro e w32 ⟨rfl, hb⟩
          replace hs := bStep hs hb
          replace Bls := Bls.mono hb
          replace Blc := Blc.mono hb
          replace Blx := Blx.mono hb
          replace Blk := Blk.mono hb
          replace Blv := Blv.mono hb
          replace Bly := Bly.mono hb
          replace h3 := h3.mono hb
          replace h4 := h4.mono hb
          replace h5 := h5.mono hb
          replace h6 := h6.mono hb
          replace h7 := h7.mono hb
          replace he11a := he11a.mono hb
          replace he14a := he14a.mono hb
          replace hA1 := rowsJ PC.kept _ _ _ hA1 hb
          replace cy_0 := cellK cy_0 hb
          replace cy_1 := cellK cy_1 hb
          replace cy_2 := cellK cy_2 hb
          replace Ee140 := cellK Ee140 hb
          replace Ee141 := cellK Ee141 hb
          replace Ee142 := cellK Ee142 hb
          clear hb
          rw [← Hb15.out]
          try go_wp2_with fail
          refine hK.out _ _ ⟨cy_0, cy_1, cy_2, Ee140, Ee141, Ee142⟩ (fun hH => ?_)
          clear hK K
          try simp only [LY]
          refine U_tk 7 82 ?_ ?_ hH ?_
          rotate_left
          · (intro w hSw; (try dsimp only at hSw); go_simp; try with_reducible rfl)
          simp only [LY]
          refine U_tk 8 23 ?_ ?_ hH ?_
          rotate_left
          · (intro w hSw; (try dsimp only at hSw); go_simp; try with_reducible rfl)
          simp only [LY]
          clear hH
          refine U_endN (by kernel_rfl) ?_
          clear cy_0 cy_1 cy_2 Ee140 Ee141 Ee142
          go_wp2
          go_roundw
          case rel => exact ⟨k + 1, by omega, by go_num, (congrArg _ (eqK_T q12H.out q16H.out)), hs, Bls, Blc, Blx, Blk, Blv, h3, h4, h5, h6, h7, hA1⟩
          all_goals first | (simp [intOf]; done) | (simp [intOf]; omega)
        · obtain rfl : b15 = false := by rw [Hb15.out]; exact decide_eq_false q16
          have q16H := Lib.hid q16
          clear q16
          refine U_region (S := fun w' => w'.cell? ⟨wr.heap.size, 0, none⟩ = some (.bool ge11a) ∧ w'.cell? ⟨wr.heap.size, 1, none⟩ = some (.slice ae11a ne11a ce11a) ∧ w'.cell? ⟨wr.heap.size, 2, none⟩ = some (.slice Ae11a Ne11a De11a) ∧ w'.cell? ⟨bhA1, ohA1, none⟩ = some (.bool ge14a) ∧ w'.cell? ⟨bhA1, ohA1 + 1, none⟩ = some (.slice ae14a ne14a ce14a) ∧ w'.cell? ⟨bhA1, ohA1 + 2, none⟩ = some (.slice Ae14a Ne14a De14a)) (by kernel_rfl) 9 ?_
          refine AnyU.abs ?_
          intro w31 hW
          have hb : Below w30.heap.size w30 w31 := by rw [hW]; exact bDrew _
          replace hs := bStep hs hb
          replace Bls := Bls.mono hb
          replace Blc := Blc.mono hb
          replace Blx := Blx.mono hb
          replace Blk := Blk.mono hb
          replace Blv := Blv.mono hb
          replace Bly := Bly.mono hb
          replace h3 := h3.mono hb
          replace h4 := h4.mono hb
          replace h5 := h5.mono hb
          replace h6 := h6.mono hb
          replace h7 := h7.mono hb
          replace he11a := he11a.mono hb
          replace he14a := he14a.mono hb
          replace hA1 := rowsJ PC.kept _ _ _ hA1 hb
          replace Ee140 := cellK Ee140 hb
          replace Ee141 := cellK Ee141 hb
          replace Ee142 := cellK Ee142 hb
          clear hb hW
          have cy_0 : w31.cell? ⟨wr.heap.size, 0, none⟩ = some (.bool ge11a) := Bly.at 0 rfl
          have cy_1 : w31.cell? ⟨wr.heap.size, 1, none⟩ = some (.slice ae11a ne11a ce11a) := Bly.at 1 rfl
          have cy_2 : w31.cell? ⟨wr.heap.size, 2, none⟩ = some (.slice Ae11a Ne11a De11a) := Bly.at 2 rfl
          have hH := (show w31.cell? ⟨wr.heap.size, 0, none⟩ = some (.bool ge11a) ∧ w31.cell? ⟨wr.heap.size, 1, none⟩ = some (.slice ae11a ne11a ce11a) ∧ w31.cell? ⟨wr.heap.size, 2, none⟩ = some (.slice Ae11a Ne11a De11a) ∧ w31.cell? ⟨bhA1, ohA1, none⟩ = some (.bool ge14a) ∧ w31.cell? ⟨bhA1, ohA1 + 1, none⟩ = some (.slice ae14a ne14a ce14a) ∧ w31.cell? ⟨bhA1, ohA1 + 2, none⟩ = some (.slice Ae14a Ne14a De14a) from ⟨cy_0, cy_1, cy_2, Ee140, Ee141, Ee142⟩)
          refine U_tk 0 75 ?_ ?_ hH ?_
          rotate_left
          · (intro w hSw; (try dsimp only at hSw); go_simp; try with_reducible rfl)
          simp only [LY]
          refine U_tk 1 76 ?_ ?_ hH ?_
          rotate_left
          · (intro w hSw; (try dsimp only at hSw); go_simp; try with_reducible rfl)
          simp only [LY]
          refine U_tk 2 77 ?_ ?_ hH ?_
          rotate_left
          · (intro w hSw; (try dsimp only at hSw); go_simp; try with_reducible rfl)
          simp only [LY]
          refine U_tk 3 78 ?_ ?_ hH ?_
          rotate_left
          · (intro w hSw; (try dsimp only at hSw); go_simp; try with_reducible rfl)
          simp only [LY]
          refine U_tk 4 79 ?_ ?_ hH ?_
          rotate_left
          · (intro w hSw; (try dsimp only at hSw); go_simp; try with_reducible rfl)
          simp only [LY]
          refine U_tk 5 80 ?_ ?_ hH ?_
          rotate_left
          · (intro w hSw; (try dsimp only at hSw); go_simp; try with_reducible rfl)
          simp only [LY]
          clear hH
          refine U_one (i := 6) (by kernel_rfl) rfl (fun K hK => ?_)
          go_simp
          (with_reducible refine (p_Same_calls _ _ _ _ _ he11a he14a).mono ?_)
          rintro e w32 ⟨rfl, hb⟩
          replace hs := bStep hs hb
          replace Bls := Bls.mono hb
          replace Blc := Blc.mono hb
          replace Blx := Blx.mono hb
          replace Blk := Blk.mono hb
          replace Blv := Blv.mono hb
          replace Bly := Bly.mono hb
          replace h3 := h3.mono hb
          replace h4 := h4.mono hb
          replace h5 := h5.mono hb
          replace h6 := h6.mono hb
          replace h7 := h7.mono hb
          replace he11a := he11a.mono hb
          replace he14a := he14a.mono hb
          replace hA1 := rowsJ PC.kept _ _ _ hA1 hb
          replace cy_0 := cellK cy_0 hb
          replace cy_1 := cellK cy_1 hb
          replace cy_2 := cellK cy_2 hb
          replace Ee140 := cellK Ee140 hb
          replace Ee141 := cellK Ee141 hb
          replace Ee142 := cellK Ee142 hb
          clear hb
          rw [← Hb15.out]
          try go_wp2_with fail
          refine hK.out _ _ ⟨cy_0, cy_1, cy_2, Ee140, Ee141, Ee142⟩ (fun hH => ?_)
          clear hK K
          try simp only [LY]
          refine U_tk 7 82 ?_ ?_ hH ?_
          rotate_left
          · (intro w hSw; (try dsimp only at hSw); go_simp; try with_reducible rfl)
          simp only [LY]
          refine U_tk 8 23 ?_ ?_ hH ?_
          rotate_left
          · (intro w hSw; (try dsimp only at hSw); go_simp; try with_reducible rfl)
          simp only [LY]
          clear hH
          refine U_endN (by kernel_rfl) ?_
          clear cy_0 cy_1 cy_2 Ee140 Ee141 Ee142
          go_wp2
          go_roundw
          case rel => exact ⟨k + 1, by omega, by go_num, (congrArg _ (eqK_F2 q16H.out)), hs, Bls, Blc, Blx, Blk, Blv, h3, h4, h5, h6, h7, hA1⟩
          all_goals first | (simp [intOf]; done) | (simp [intOf]; omega)
      · obtain rfl : b8 = false := by rw [Hb8.out]; simpa using q12
        have q12H := Lib.hid q12
        clear q12
        refine U_region (S := fun w' => True) (by kernel_rfl) 9 ?_
        refine AnyU.abs ?_
        intro w31 hW
        have hb : Below w30.heap.size w30 w31 := by rw [hW]; exact bDrew _
        replace hs := bStep hs hb
        replace Bls := Bls.mono hb
        replace Blc := Blc.mono hb
        replace Blx := Blx.mono hb
        replace Blk := Blk.mono hb
        replace Blv := Blv.mono hb
        replace Bly := Bly.mono hb
        replace h3 := h3.mono hb
        replace h4 := h4.mono hb
        replace h5 := h5.mono hb
        replace h6 := h6.mono hb
        replace h7 := h7.mono hb
        replace he11a := he11a.mono hb
        replace hA1 := rowsJ PC.kept _ _ _ hA1 hb
        clear hb hW
        have hH := (show True from True.intro)
        refine U_tk 0 75 ?_ ?_ hH ?_
        rotate_left
        · (intro w hSw; (try dsimp only at hSw); go_simp; try with_reducible rfl)
        simp only [LY]
        refine U_tk 1 76 ?_ ?_ hH ?_
        rotate_left
        · (intro w hSw; (try dsimp only at hSw); go_simp; try with_reducible rfl)
        simp only [LY]
        refine U_tu 2 77 hH ?_
        simp only [LY]
        refine U_tu 3 78 hH ?_
        simp only [LY]
        refine U_tu 4 79 hH ?_
        simp only [LY]
        refine U_tu 5 80 hH ?_
        simp only [LY]
        clear hH
        refine U_one (i := 6) (by kernel_rfl) rfl (fun K hK => ?_)
        go_simp
        refine hK.out _ _ True.intro (fun hH => ?_)
        clear hK K
        try simp only [LY]
        refine U_tk 7 82 ?_ ?_ hH ?_
        rotate_left
        · (intro w hSw; (try dsimp only at hSw); go_simp; try with_reducible rfl)
        simp only [LY]
        refine U_tk 8 23 ?_ ?_ hH ?_
        rotate_left
        · (intro w hSw; (try dsimp only at hSw); go_simp; try with_reducible rfl)
        simp only [LY]
        clear hH
        refine U_endN (by kernel_rfl) ?_
        go_wp2
        go_roundw
        case rel => exact ⟨k + 1, by omega, by go_num, (congrArg _ (eqK_F1 q12H.out)), hs, Bls, Blc, Blx, Blk, Blv, h3, h4, h5, h6, h7, hA1⟩
        all_goals first | (simp [intOf]; done) | (simp [intOf]; omega)
    · have q9d : ((k : Int) < (A.length : Int)) = False := eq_false (by omega)
      obtain rfl : k = A.length := by omega
      have HBZ := Lib.hid (show decide (va = 0) = b8 from HVE.out.trans Hb8.out.symm)
      have cv_0 : wr.cell? ⟨w8.heap.size + 1, 0, none⟩ = some (.bool sh7) := Blv.at 0 rfl
      have cv_1 : wr.cell? ⟨w8.heap.size + 1, 1, none⟩ = some (.slice ah7 nh7 ch7) := Blv.at 1 rfl
      have cv_2 : wr.cell? ⟨w8.heap.size + 1, 2, none⟩ = some (.slice Ah7 Nh7 Ch7) := Blv.at 2 rfl
      have Lv : w8.heap.size + 1 < wr.heap.size := Blv.lt
      go_wp2_with fail
      clear cv_0 cv_1 cv_2 Lv
      with_reducible refine (pSign h7).mono ?_
      rintro e w30 ⟨rfl, hb⟩
      replace hs := bStep hs hb
      replace Bls := Bls.mono hb
      replace Blc := Blc.mono hb
      replace Blx := Blx.mono hb
      replace Blk := Blk.mono hb
      replace Blv := Blv.mono hb
      replace h3 := h3.mono hb
      replace h4 := h4.mono hb
      replace h5 := h5.mono hb
      replace h6 := h6.mono hb
      replace h7 := h7.mono hb
      replace hA1 := rowsJ PC.kept _ _ _ hA1 hb
      clear hb
      obtain ⟨sg10, Hsg10⟩ : ∃ s : Int, s = sgQ va := ⟨_, rfl⟩
      rw [← Hsg10]
      replace Hsg10 := Lib.hid Hsg10
      have q11 : ¬ (va < 0) := HVG.out
      have q11_ : ¬ (sg10 < 0) := by have h := s1_lt va; rw [← Hsg10.out] at h; exact fun h1 => q11 (h.1 h1)
      have q11H := Lib.hid q11
      clear q11
      have q11d : decide (sg10 < 0) = false := decide_eq_false q11_
      have cv_0 : w30.cell? ⟨w8.heap.size + 1, 0, none⟩ = some (.bool sh7) := Blv.at 0 rfl
      have cv_1 : w30.cell? ⟨w8.heap.size + 1, 1, none⟩ = some (.slice ah7 nh7 ch7) := Blv.at 1 rfl
      have cv_2 : w30.cell? ⟨w8.heap.size + 1, 2, none⟩ = some (.slice Ah7 Nh7 Ch7) := Blv.at 2 rfl
      have Lv : w8.heap.size + 1 < w30.heap.size := Blv.lt
      go_wp2_with fail
      clear cv_0 cv_1 cv_2 Lv
      with_reducible refine (p_ZeroB h7 HBZ.out).mono ?_
      rintro e w31 ⟨rfl, hb⟩
      replace hs := bStep hs hb
      replace Bls := Bls.mono hb
      replace Blc := Blc.mono hb
      replace Blx := Blx.mono hb
      replace Blk := Blk.mono hb
      replace Blv := Blv.mono hb
      replace h3 := h3.mono hb
      replace h4 := h4.mono hb
      replace h5 := h5.mono hb
      replace h6 := h6.mono hb
      replace h7 := h7.mono hb
      replace hA1 := rowsJ PC.kept _ _ _ hA1 hb
      clear hb
      have q12 : ¬ (E = 0) := HNE.out
      have q12b : (E == 0) = false := beq_eq_false_iff_ne.2 (by omega)
      have q12n : (E != 0) = true := bne_iff_ne.2 (by omega)
      have q12H := Lib.hid q12
      clear q12
      have q13 : E = 80 := HE80.out
      have q13b : (E == 80) = true := beq_iff_eq.2 (by omega)
      have q13n : (E != 80) = false := bne_eq_false_iff_eq.2 (by omega)
      have q13H := Lib.hid q13
      clear q13
      go_wp2
      go_ret
      exact ⟨rfl, hs⟩

set_option maxRecDepth 100000 in
set_option maxHeartbeats 16000000 in
theorem l8_Orders_ok (v : Value) (l : List Int) (sh cf bb tm aa mo : Int) (w : World) (hl : RowsI 1 I8C w v l) (hl8 : ∀ x ∈ l, -128 ≤ x ∧ x ≤ 127) (b1 : 0 ≤ sh ∧ sh ≤ 255) (b2 : 0 ≤ cf ∧ cf ≤ 255) (b3 : -128 ≤ bb ∧ bb ≤ 127) (b4 : 0 ≤ tm ∧ tm ≤ 255) (b5 : 0 ≤ aa ∧ aa ≤ 255) (b6 : 0 ≤ mo ∧ mo ≤ 255) (A : List Rat) (hA : valQ l 8 = A) (g1 : 1 ≤ A.length) (g8 : A.length ≤ 8) (hz1 : ∀ i, i < A.length → SzQ 1 (nthQ A i)) (u c : Rat) (hu : ((sh % 9 : Int) : Rat) / ((8 : Int) : Rat) = u) (hc : ((cf % 9 : Int) : Rat) / ((8 : Int) : Rat) = c) (su : SzQ 1 u) (sc : SzQ 1 c) (m va : Rat) (hm : meanQ A = m) (hva : varQ A = va) (sm : SzQ 1000 m) (sva : SzQ 7000 va) (hvg : ¬ va < 0) (hve : decide (va = 0) = eqK A A.length) (t yb n x z g : Rat) (ii : Nat) (hii : ii < A.length) (hi2 : aa % (A.length : Int) = (ii : Int)) (ht : ((1 + tm : Int) : Rat) = t) (hb : ((bb : Int) : Rat) = yb) (hmo : ((mo : Int) : Rat) = n) (st : SzQ 1 t) (sb : SzQ 1 yb) (sn : SzQ 1 n) (sx : SzQ 10 x) (sz : SzQ 10 z) (sg : SzQ 10 g) (hz : ∀ i, i < A.length → SzQ 100000 (nthQ A i)) (la : LimOk A u c x) (lb : LimOk A.reverse u c x) (lm : LimOk (mvK A t yb A.length) u c z) (lg : LimOk (A.set ii (nthQ A ii + n)) u c g) (hze : z = x * t + yb) (hge : x ≤ g) (han : anK A x A.length = true) :
    Calls Tryz.prog 8 #[v, .int .u8 sh, .int .u8 cf, .int .i8 bb, .int .u8 tm, .int .u8 aa, .int .u8 mo] w (RetV w (.bool true)) := by
  obtain ⟨ao, cap, rfl, hc1, hc2, hc3⟩ := hl.slice
  obtain ⟨b1a, b1b⟩ := b1
  obtain ⟨b2a, b2b⟩ := b2
  obtain ⟨b3a, b3b⟩ := b3
  obtain ⟨b4a, b4b⟩ := b4
  obtain ⟨b5a, b5b⟩ := b5
  obtain ⟨b6a, b6b⟩ := b6
  have hs := Below.refl w.heap.size w
  have HL := Lib.hid hl
  have HL8 := Lib.hid hl8
  have HA := Lib.hid hA
  have HAZ1 := Lib.hid hz1
  have HSU := Lib.hid hu
  have HSC := Lib.hid hc
  have HM := Lib.hid hm
  have HV := Lib.hid hva
  have HVG := Lib.hid hvg
  have HVE := Lib.hid hve
  have HII := Lib.hid hi2
  have HT := Lib.hid ht
  have HB := Lib.hid hb
  have HMO := Lib.hid hmo
  have HAZ := Lib.hid hz
  have HLA := Lib.hid la
  have HLB := Lib.hid lb
  have HLM := Lib.hid lm
  have HLG := Lib.hid lg
  have HZE := Lib.hid hze
  have HGE := Lib.hid hge
  have HAN := Lib.hid han
  clear hl hl8 hA hz1 hu hc hm hva hvg hve hi2 ht hb hmo hz la lb lm lg hze hge han
  obtain ⟨i0, hi, hz0, hz1, hz2⟩ := info_parts alP_info
  go_enter Tryz.func8, Tryz.ntmps8
  go_wp2_with fail
  with_reducible refine (l8_values8 _ (HL.out.mono I8C.kept hs) HL8.out).mono ?_
  rintro e w1 ⟨_, rfl, hA1, hb⟩
  rw [HA.out] at hA1
  obtain ⟨bhA1, ohA1, khA1, rfl, hA11, hA12, -⟩ := hA1.open_ (by omega)
  replace hs := bStep hs hb
  clear hb
  go_wp2_with fail
  with_reducible refine (l8_awake _).mono ?_
  rintro e w2 ⟨rfl, hb⟩
  replace hs := bStep hs hb
  replace hA1 := rowsJ PC.kept _ _ _ hA1 hb
  clear hb
  have q2 : ¬ (A.length = 0) := (by omega)
  have q2b : ((A.length : Int) == 0) = false := beq_eq_false_iff_ne.2 (by omega)
  have q2n : ((A.length : Int) != 0) = true := bne_iff_ne.2 (by omega)
  have q2H := Lib.hid q2
  clear q2
  go_wp2_with fail
  with_reducible refine (l8_part _ HSU.out (by omega) (by omega) (by decide) (by decide)).mono ?_
  rintro e w3 ⟨_, rfl, h3, hb⟩
  obtain ⟨sh3, ah3, nh3, ch3, Ah3, Nh3, Ch3, rfl⟩ := h3.shape
  replace hs := bStep hs hb
  replace hA1 := rowsJ PC.kept _ _ _ hA1 hb
  clear hb
  go_wp2_with fail
  with_reducible refine (l8_part _ HSC.out (by omega) (by omega) (by decide) (by decide)).mono ?_
  rintro e w4 ⟨_, rfl, h4, hb⟩
  obtain ⟨sh4, ah4, nh4, ch4, Ah4, Nh4, Ch4, rfl⟩ := h4.shape
  replace hs := bStep hs hb
  replace h3 := h3.mono hb
  replace hA1 := rowsJ PC.kept _ _ _ hA1 hb
  clear hb
  go_wp2_with fail
  refine Calls.abs ?_
  intro w5 hW
  have hG : Gr [] w4 w5 := by rw [hW]; exact (Gr.refl _ _).alloc.alloc
  have hbw : Below w.heap.size w4 w5 := hG.below0 hs.size
  have hk : KeepD w4 w5 := hG.keep True.intro
  have sz_w5 : w.heap.size ≤ w4.heap.size := hs.size
  have nhA1_w5 : bhA1 < w4.heap.size := hA1.lt (by omega)
  have Bls : Bx w5 (w4.heap.size) 29 #[.bool sh3, .slice ah3 nh3 ch3, .slice Ah3 Nh3 Ch3] := by rw [hW]; exact ((Bx.new0 _ _ _).alloc _)
  have Blc : Bx w5 (w4.heap.size + 1) 29 #[.bool sh4, .slice ah4 nh4 ch4, .slice Ah4 Nh4 Ch4] := by rw [hW]; exact (Bx.new0 _ _ _)
  replace hs := hs.trans hbw
  replace hA1 := rowsJ PC.kept _ _ _ hA1 (hG.below0 (Nat.le_refl _))
  replace h3 := h3.keep hk
  replace h4 := h4.keep hk
  clear hW hG hk hbw
  have hz_w5 : w4.heap.size + 1 < w5.heap.size := Blc.lt
  with_reducible refine (al_Limit_of _ hA1 h3 su h4 sc HLA.out).mono ?_
  rintro e w6 ⟨_, rfl, h5, hb⟩
  obtain ⟨sh5, ah5, nh5, ch5, Ah5, Nh5, Ch5, rfl⟩ := h5.shape
  replace hs := bStep hs hb
  replace Bls := Bls.mono hb
  replace Blc := Blc.mono hb
  replace h3 := h3.mono hb
  replace h4 := h4.mono hb
  replace hA1 := rowsJ PC.kept _ _ _ hA1 hb
  clear hb
  go_wp2_with fail
  refine Calls.abs ?_
  intro w7 hW
  have hG : Gr [] w6 w7 := by rw [hW]; exact (Gr.refl _ _).alloc
  have hbw : Below w.heap.size w6 w7 := hG.below0 hs.size
  have hk : KeepD w6 w7 := hG.keep True.intro
  have sz_w7 : w.heap.size ≤ w6.heap.size := hs.size
  have ns_w7 : w4.heap.size < w6.heap.size := Bls.lt
  have nc_w7 : w4.heap.size + 1 < w6.heap.size := Blc.lt
  have nhA1_w7 : bhA1 < w6.heap.size := hA1.lt (by omega)
  have Blx : Bx w7 (w6.heap.size) 29 #[.bool sh5, .slice ah5 nh5 ch5, .slice Ah5 Nh5 Ch5] := by rw [hW]; exact (Bx.new0 _ _ _)
  replace hs := hs.trans hbw
  replace hA1 := rowsJ PC.kept _ _ _ hA1 (hG.below0 (Nat.le_refl _))
  replace Bls := hG.bx Bls notMem0
  replace Blc := hG.bx Blc notMem0
  replace h3 := h3.keep hk
  replace h4 := h4.keep hk
  replace h5 := h5.keep hk
  clear hW hG hk hbw
  have hz_w7 : w6.heap.size < w7.heap.size := Blx.lt
  with_reducible refine (al_Mean _ hA1 g1 (by omega) HAZ1.out HM.out HV.out).mono ?_
  rintro e w8 ⟨_, _, _, rfl, h6, h7, rfl, hb⟩
  obtain ⟨sh6, ah6, nh6, ch6, Ah6, Nh6, Ch6, rfl⟩ := h6.shape
  obtain ⟨sh7, ah7, nh7, ch7, Ah7, Nh7, Ch7, rfl⟩ := h7.shape
  replace hs := bStep hs hb
  replace Bls := Bls.mono hb
  replace Blc := Blc.mono hb
  replace Blx := Blx.mono hb
  replace h3 := h3.mono hb
  replace h4 := h4.mono hb
  replace h5 := h5.mono hb
  replace hA1 := rowsJ PC.kept _ _ _ hA1 hb
  clear hb
  go_wp2
  refine Code.abs ?_
  intro w9 hW
  have hG : Gr [] w8 w9 := by rw [hW]; exact (Gr.refl _ _).alloc.alloc
  have hbw : Below w.heap.size w8 w9 := hG.below0 hs.size
  have hk : KeepD w8 w9 := hG.keep True.intro
  have sz_w9 : w.heap.size ≤ w8.heap.size := hs.size
  have ns_w9 : w4.heap.size < w8.heap.size := Bls.lt
  have nc_w9 : w4.heap.size + 1 < w8.heap.size := Blc.lt
  have nx_w9 : w6.heap.size < w8.heap.size := Blx.lt
  have nhA1_w9 : bhA1 < w8.heap.size := hA1.lt (by omega)
  have Blk : Bx w9 (w8.heap.size) 29 #[.bool sh6, .slice ah6 nh6 ch6, .slice Ah6 Nh6 Ch6] := by rw [hW]; exact ((Bx.new0 _ _ _).alloc _)
  have Blv : Bx w9 (w8.heap.size + 1) 29 #[.bool sh7, .slice ah7 nh7 ch7, .slice Ah7 Nh7 Ch7] := by rw [hW]; exact (Bx.new0 _ _ _)
  replace hs := hs.trans hbw
  replace hA1 := rowsJ PC.kept _ _ _ hA1 (hG.below0 (Nat.le_refl _))
  replace Bls := hG.bx Bls notMem0
  replace Blc := hG.bx Blc notMem0
  replace Blx := hG.bx Blx notMem0
  replace h3 := h3.keep hk
  replace h4 := h4.keep hk
  replace h5 := h5.keep hk
  replace h6 := h6.keep hk
  replace h7 := h7.keep hk
  clear hW hG hk hbw
  have hz_w9 : w8.heap.size + 1 < w9.heap.size := Blv.lt
  go_loopw [23, 71] (fun s23 s71 wq => ∃ k : Nat, k ≤ A.length ∧ s71 = .int .i64 k ∧ s23 = .bool (eqK A k) ∧ Below w.heap.size w wq ∧ Bx wq (w4.heap.size) 29 #[.bool sh3, .slice ah3 nh3 ch3, .slice Ah3 Nh3 Ch3] ∧ Bx wq (w4.heap.size + 1) 29 #[.bool sh4, .slice ah4 nh4 ch4, .slice Ah4 Nh4 Ch4] ∧ Bx wq (w6.heap.size) 29 #[.bool sh5, .slice ah5 nh5 ch5, .slice Ah5 Nh5 Ch5] ∧ Bx wq (w8.heap.size) 29 #[.bool sh6, .slice ah6 nh6 ch6, .slice Ah6 Nh6 Ch6] ∧ Bx wq (w8.heap.size + 1) 29 #[.bool sh7, .slice ah7 nh7 ch7, .slice Ah7 Nh7 Ch7] ∧ PV wq (.agg #[.bool sh3, .slice ah3 nh3 ch3, .slice Ah3 Nh3 Ch3]) (u) ∧ PV wq (.agg #[.bool sh4, .slice ah4 nh4 ch4, .slice Ah4 Nh4 Ch4]) (c) ∧ PV wq (.agg #[.bool sh5, .slice ah5 nh5 ch5, .slice Ah5 Nh5 Ch5]) (x) ∧ PV wq (.agg #[.bool sh6, .slice ah6 nh6 ch6, .slice Ah6 Nh6 Ch6]) (m) ∧ PV wq (.agg #[.bool sh7, .slice ah7 nh7 ch7, .slice Ah7 Nh7 Ch7]) (va) ∧ Rows 3 29 PC wq (.slice (some ⟨bhA1, ohA1, none⟩) A.length khA1) A) (fun s23 s71 _ => A.length - (intOf s71).toNat)
  case atStart => exact ⟨0, Nat.zero_le _, rfl, rfl, hs, Bls, Blc, Blx, Blk, Blv, h3, h4, h5, h6, h7, hA1⟩
  case round =>
    clear Bls Blc Blx Blk Blv h3 h4 h5 h6 h7 hA1 hs
    obtain ⟨k, k_le, rfl, rfl, hs, Bls, Blc, Blx, Blk, Blv, h3, h4, h5, h6, h7, hA1⟩ := hrel
    obtain ⟨b8, Hb8⟩ : ∃ b : Bool, b = eqK A k := ⟨_, rfl⟩
    rw [← Hb8]
    replace Hb8 := Lib.hid Hb8
    by_cases q9 : k < A.length
    · have q9d : ((k : Int) < (A.length : Int)) = True := eq_true (by omega)
      have BI10a : k < A.length := by omega
      have BI10b : ((k : Int) : Int) < (A.length : Int) := by omega
      obtain ⟨ge11a, ae11a, ne11a, ce11a, Ae11a, Ne11a, De11a, Ee110, Ee111, Ee112, he11a, le11⟩ := rowP_at hA1 (show k < A.length by omega)
      go_upto_region 11 with fail
      clear le11 Ee110 Ee111 Ee112
      refine Code.abs ?_
      intro w30 hW
      have hG : Gr [] wr w30 := by rw [hW]; exact (Gr.refl _ _).alloc
      have hbw : Below w.heap.size wr w30 := hG.below0 hs.size
      have hk : KeepD wr w30 := hG.keep True.intro
      have sz_w30 : w.heap.size ≤ wr.heap.size := hs.size
      have ns_w30 : w4.heap.size < wr.heap.size := Bls.lt
      have nc_w30 : w4.heap.size + 1 < wr.heap.size := Blc.lt
      have nx_w30 : w6.heap.size < wr.heap.size := Blx.lt
      have nk_w30 : w8.heap.size < wr.heap.size := Blk.lt
      have nv_w30 : w8.heap.size + 1 < wr.heap.size := Blv.lt
      have nhA1_w30 : bhA1 < wr.heap.size := hA1.lt (by omega)
      have Bly : Bx w30 (wr.heap.size) 29 #[.bool ge11a, .slice ae11a ne11a ce11a, .slice Ae11a Ne11a De11a] := by rw [hW]; exact (Bx.new0 _ _ _)
      replace hs := hs.trans hbw
      replace hA1 := rowsJ PC.kept _ _ _ hA1 (hG.below0 (Nat.le_refl _))
      replace Bls := hG.bx Bls notMem0
      replace Blc := hG.bx Blc notMem0
      replace Blx := hG.bx Blx notMem0
      replace Blk := hG.bx Blk notMem0
      replace Blv := hG.bx Blv notMem0
      replace h3 := h3.keep hk
      replace h4 := h4.keep hk
      replace h5 := h5.keep hk
      replace h6 := h6.keep hk
      replace h7 := h7.keep hk
      replace he11a := he11a.keep hk
      clear hW hG hk hbw
      have hz_w30 : wr.heap.size < w30.heap.size := Bly.lt
      by_cases q12 : eqK A k = true
      · obtain rfl : b8 = true := by rw [Hb8.out]; exact q12
        have q12H := Lib.hid q12
        clear q12
        have BI13a : 0 < A.length := by omega
        have BI13b : (0 : Int) < (A.length : Int) := by omega
        obtain ⟨ge14a, ae14a, ne14a, ce14a, Ae14a, Ne14a, De14a, Ee140, Ee141, Ee142, he14a, le14⟩ := rowP_at hA1 (show 0 < A.length by omega)
        simp only [Nat.zero_mul, Nat.add_zero] at Ee140 Ee141 Ee142
        obtain ⟨b15, Hb15⟩ : ∃ b : Bool, b = decide (nthQ A k = nthQ A 0) := ⟨_, rfl⟩
        replace Hb15 := Lib.hid Hb15
        by_cases q16 : nthQ A k = nthQ A 0
        · obtain rfl : b15 = true := by rw [Hb15.out]; exact decide_eq_true q16
          have q16H := Lib.hid q16
          clear q16
          refine U_region (S := fun w' => w'.cell? ⟨wr.heap.size, 0, none⟩ = some (.bool ge11a) ∧ w'.cell? ⟨wr.heap.size, 1, none⟩ = some (.slice ae11a ne11a ce11a) ∧ w'.cell? ⟨wr.heap.size, 2, none⟩ = some (.slice Ae11a Ne11a De11a) ∧ w'.cell? ⟨bhA1, ohA1, none⟩ = some (.bool ge14a) ∧ w'.cell? ⟨bhA1, ohA1 + 1, none⟩ = some (.slice ae14a ne14a ce14a) ∧ w'.cell? ⟨bhA1, ohA1 + 2, none⟩ = some (.slice Ae14a Ne14a De14a)) (by kernel_rfl) 9 ?_
          refine AnyU.abs ?_
          intro w31 hW
          have hb : Below w30.heap.size w30 w31 := by rw [hW]; exact bDrew _
          replace hs := bStep hs hb
          replace Bls := Bls.mono hb
          replace Blc := Blc.mono hb
          replace Blx := Blx.mono hb
          replace Blk := Blk.mono hb
          replace Blv := Blv.mono hb
          replace Bly := Bly.mono hb
          replace h3 := h3.mono hb
          replace h4 := h4.mono hb
          replace h5 := h5.mono hb
          replace h6 := h6.mono hb
          replace h7 := h7.mono hb
          replace he11a := he11a.mono hb
          replace he14a := he14a.mono hb
          replace hA1 := rowsJ PC.kept _ _ _ hA1 hb
          replace Ee140 := cellK Ee140 hb
          replace Ee141 := cellK Ee141 hb
          replace Ee142 := cellK Ee142 hb
          clear hb hW
          have cy_0 : w31.cell? ⟨wr.heap.size, 0, none⟩ = some (.bool ge11a) := Bly.at 0 rfl
          have cy_1 : w31.cell? ⟨wr.heap.size, 1, none⟩ = some (.slice ae11a ne11a ce11a) := Bly.at 1 rfl
          have cy_2 : w31.cell? ⟨wr.heap.size, 2, none⟩ = some (.slice Ae11a Ne11a De11a) := Bly.at 2 rfl
          have hH := (show w31.cell? ⟨wr.heap.size, 0, none⟩ = some (.bool ge11a) ∧ w31.cell? ⟨wr.heap.size, 1, none⟩ = some (.slice ae11a ne11a ce11a) ∧ w31.cell? ⟨wr.heap.size, 2, none⟩ = some (.slice Ae11a Ne11a De11a) ∧ w31.cell? ⟨bhA1, ohA1, none⟩ = some (.bool ge14a) ∧ w31.cell? ⟨bhA1, ohA1 + 1, none⟩ = some (.slice ae14a ne14a ce14a) ∧ w31.cell? ⟨bhA1, ohA1 + 2, none⟩ = some (.slice Ae14a Ne14a De14a) from ⟨cy_0, cy_1, cy_2, Ee140, Ee141, Ee142⟩)
          refine U_tk 0 75 ?_ ?_ hH ?_
          rotate_left
          · (intro w hSw; (try dsimp only at hSw); go_simp; try with_reducible rfl)
          simp only [LY]
          refine U_tk 1 76 ?_ ?_ hH ?_
          rotate_left
          · (intro w hSw; (try dsimp only at hSw); go_simp; try with_reducible rfl)
          simp only [LY]
          refine U_tk 2 77 ?_ ?_ hH ?_
          rotate_left
          · (intro w hSw; (try dsimp only at hSw); go_simp; try with_reducible rfl)
          simp only [LY]
          refine U_tk 3 78 ?_ ?_ hH ?_
          rotate_left
          · (intro w hSw; (try dsimp only at hSw); go_simp; try with_reducible rfl)
          simp only [LY]
          refine U_tk 4 79 ?_ ?_ hH ?_
          rotate_left
          · (intro w hSw; (try dsimp only at hSw); go_simp; try with_reducible rfl)
          simp only [LY]
          refine U_tk 5 80 ?_ ?_ hH ?_
          rotate_left
          · (intro w hSw; (try dsimp only at hSw); go_simp; try with_reducible rfl)
          simp only [LY]
          clear hH
          refine U_one (i := 6) (by kernel_rfl) rfl (fun K hK => ?_)
          go_simp
          (with_reducible refine (p_Same_calls _ _ _ _ _ he11a he14a).mono ?_)
          rintro e w32 ⟨rfl, hb⟩
          replace hs := bStep hs hb
          replace Bls := Bls.mono hb
          replace Blc := Blc.mono hb
          replace Blx := Blx.mono hb
          replace Blk := Blk.mono hb
          replace Blv := Blv.mono hb
          replace Bly := Bly.mono hb
          replace h3 := h3.mono hb
          replace h4 := h4.mono hb
          replace h5 := h5.mono hb
          replace h6 := h6.mono hb
          replace h7 := h7.mono hb
          replace he11a := he11a.mono hb
          replace he14a := he14a.mono hb
          replace hA1 := rowsJ PC.kept _ _ _ hA1 hb
          replace cy_0 := cellK cy_0 hb
          replace cy_1 := cellK cy_1 hb
          replace cy_2 := cellK cy_2 hb
          replace Ee140 := cellK Ee140 hb
          replace Ee141 := cellK Ee141 hb
          replace Ee142 := cellK Ee142 hb
          clear hb
          rw [← Hb15.out]
          try go_wp2_with fail
          refine hK.out _ _ ⟨cy_0, cy_1, cy_2, Ee140, Ee141, Ee142⟩ (fun hH => ?_)
          clear hK K
          try simp only [LY]
          refine U_tk 7 82 ?_ ?_ hH ?_
          rotate_left
          · (intro w hSw; (try dsimp only at hSw); go_simp; try with_reducible rfl)
          simp only [LY]
          refine U_tk 8 23 ?_ ?_ hH ?_
          rotate_left
          · (intro w hSw; (try dsimp only at hSw); go_simp; try with_reducible rfl)
          simp only [LY]
          clear hH
          refine U_endN (by kernel_rfl) ?_
          clear cy_0 cy_1 cy_2 Ee140 Ee141 Ee142
          go_wp2
          go_roundw
          case rel => exact ⟨k + 1, by omega, by go_num, (congrArg _ (eqK_T q12H.out q16H.out)), hs, Bls, Blc, Blx, Blk, Blv, h3, h4, h5, h6, h7, hA1⟩
          all_goals first | (simp [intOf]; done) | (simp [intOf]; omega)
        · obtain rfl : b15 = false := by rw [Hb15.out]; exact decide_eq_false q16
          have q16H := Lib.hid q16
          clear q16
          refine U_region (S := fun w' => w'.cell? ⟨wr.heap.size, 0, none⟩ = some (.bool ge11a) ∧ w'.cell? ⟨wr.heap.size, 1, none⟩ = some (.slice ae11a ne11a ce11a) ∧ w'.cell? ⟨wr.heap.size, 2, none⟩ = some (.slice Ae11a Ne11a De11a) ∧ w'.cell? ⟨bhA1, ohA1, none⟩ = some (.bool ge14a) ∧ w'.cell? ⟨bhA1, ohA1 + 1, none⟩ = some (.slice ae14a ne14a ce14a) ∧ w'.cell? ⟨bhA1, ohA1 + 2, none⟩ = some (.slice Ae14a Ne14a De14a)) (by kernel_rfl) 9 ?_
          refine AnyU.abs ?_
          intro w31 hW
          have hb : Below w30.heap.size w30 w31 := by rw [hW]; exact bDrew _
          replace hs := bStep hs hb
          replace Bls := Bls.mono hb
          replace Blc := Blc.mono hb
          replace Blx := Blx.mono hb
          replace Blk := Blk.mono hb
          replace Blv := Blv.mono hb
          replace Bly := Bly.mono hb
          replace h3 := h3.mono hb
          replace h4 := h4.mono hb
          replace h5 := h5.mono hb
          replace h6 := h6.mono hb
          replace h7 := h7.mono hb
          replace he11a := he11a.mono hb
          replace he14a := he14a.mono hb
          replace hA1 := rowsJ PC.kept _ _ _ hA1 hb
          replace Ee140 := cellK Ee140 hb
          replace Ee141 := cellK Ee141 hb
          replace Ee142 := cellK Ee142 hb
          clear hb hW
          have cy_0 : w31.cell? ⟨wr.heap.size, 0, none⟩ = some (.bool ge11a) := Bly.at 0 rfl
          have cy_1 : w31.cell? ⟨wr.heap.size, 1, none⟩ = some (.slice ae11a ne11a ce11a) := Bly.at 1 rfl
          have cy_2 : w31.cell? ⟨wr.heap.size, 2, none⟩ = some (.slice Ae11a Ne11a De11a) := Bly.at 2 rfl
          have hH := (show w31.cell? ⟨wr.heap.size, 0, none⟩ = some (.bool ge11a) ∧ w31.cell? ⟨wr.heap.size, 1, none⟩ = some (.slice ae11a ne11a ce11a) ∧ w31.cell? ⟨wr.heap.size, 2, none⟩ = some (.slice Ae11a Ne11a De11a) ∧ w31.cell? ⟨bhA1, ohA1, none⟩ = some (.bool ge14a) ∧ w31.cell? ⟨bhA1, ohA1 + 1, none⟩ = some (.slice ae14a ne14a ce14a) ∧ w31.cell? ⟨bhA1, ohA1 + 2, none⟩ = some (.slice Ae14a Ne14a De14a) from ⟨cy_0, cy_1, cy_2, Ee140, Ee141, Ee142⟩)
          refine U_tk 0 75 ?_ ?_ hH ?_
          rotate_left
          · (intro w hSw; (try dsimp only at hSw); go_simp; try with_reducible rfl)
          simp only [LY]
          refine U_tk 1 76 ?_ ?_ hH ?_
          rotate_left
          · (intro w hSw; (try dsimp only at hSw); go_simp; try with_reducible rfl)
          simp only [LY]
          refine U_tk 2 77 ?_ ?_ hH ?_
          rotate_left
          · (intro w hSw; (try dsimp only at hSw); go_simp; try with_reducible rfl)
          simp only [LY]
          refine U_tk 3 78 ?_ ?_ hH ?_
          rotate_left
          · (intro w hSw; (try dsimp only at hSw); go_simp; try with_reducible rfl)
          simp only [LY]
          refine U_tk 4 79 ?_ ?_ hH ?_
          rotate_left
          · (intro w hSw; (try dsimp only at hSw); go_simp; try with_reducible rfl)
          simp only [LY]
          refine U_tk 5 80 ?_ ?_ hH ?_
          rotate_left
          · (intro w hSw; (try dsimp only at hSw); go_simp; try with_reducible rfl)
          simp only [LY]
          clear hH
          refine U_one (i := 6) (by kernel_rfl) rfl (fun K hK => ?_)
          go_simp
          (with_reducible refine (p_Same_calls _ _ _ _ _ he11a he14a).mono ?_)
          rintro e w32 ⟨rfl, hb⟩
          replace hs := bStep hs hb
          replace Bls := Bls.mono hb
          replace Blc := Blc.mono hb
          replace Blx := Blx.mono hb
          replace Blk := Blk.mono hb
          replace Blv := Blv.mono hb
          replace Bly := Bly.mono hb
          replace h3 := h3.mono hb
          replace h4 := h4.mono hb
          replace h5 := h5.mono hb
          replace h6 := h6.mono hb
          replace h7 := h7.mono hb
          replace he11a := he11a.mono hb
          replace he14a := he14a.mono hb
          replace hA1 := rowsJ PC.kept _ _ _ hA1 hb
          replace cy_0 := cellK cy_0 hb
          replace cy_1 := cellK cy_1 hb
          replace cy_2 := cellK cy_2 hb
          replace Ee140 := cellK Ee140 hb
          replace Ee141 := cellK Ee141 hb
          replace Ee142 := cellK Ee142 hb
          clear hb
          rw [← Hb15.out]
          try go_wp2_with fail
          refine hK.out _ _ ⟨cy_0, cy_1, cy_2, Ee140, Ee141, Ee142⟩ (fun hH => ?_)
          clear hK K
          try simp only [LY]
          refine U_tk 7 82 ?_ ?_ hH ?_
          rotate_left
          · (intro w hSw; (try dsimp only at hSw); go_simp; try with_reducible rfl)
          simp only [LY]
          refine U_tk 8 23 ?_ ?_ hH ?_
          rotate_left
          · (intro w hSw; (try dsimp only at hSw); go_simp; try with_reducible rfl)
          simp only [LY]
          clear hH
          refine U_endN (by kernel_rfl) ?_
          clear cy_0 cy_1 cy_2 Ee140 Ee141 Ee142
          go_wp2
          go_roundw
          case rel => exact ⟨k + 1, by omega, by go_num, (congrArg _ (eqK_F2 q16H.out)), hs, Bls, Blc, Blx, Blk, Blv, h3, h4, h5, h6, h7, hA1⟩
          all_goals first | (simp [intOf]; done) | (simp [intOf]; omega)
      · obtain rfl : b8 = false := by rw [Hb8.out]; simpa using q12
        have q12H := Lib.hid q12
        clear q12
        refine U_region (S := fun w' => True) (by kernel_rfl) 9 ?_
        refine AnyU.abs ?_
        intro w31 hW
        have hb : Below w30.heap.size w30 w31 := by rw [hW]; exact bDrew _
        replace hs := bStep hs hb
        replace Bls := Bls.mono hb
        replace Blc := Blc.mono hb
        replace Blx := Blx.mono hb
        replace Blk := Blk.mono hb
        replace Blv := Blv.mono hb
        replace Bly := Bly.mono hb
        replace h3 := h3.mono hb
        replace h4 := h4.mono hb
        replace h5 := h5.mono hb
        replace h6 := h6.mono hb
        replace h7 := h7.mono hb
        replace he11a := he11a.mono hb
        replace hA1 := rowsJ PC.kept _ _ _ hA1 hb
        clear hb hW
        have hH := (show True from True.intro)
        refine U_tk 0 75 ?_ ?_ hH ?_
        rotate_left
        · (intro w hSw; (try dsimp only at hSw); go_simp; try with_reducible rfl)
        simp only [LY]
        refine U_tk 1 76 ?_ ?_ hH ?_
        rotate_left
        · (intro w hSw; (try dsimp only at hSw); go_simp; try with_reducible rfl)
        simp only [LY]
        refine U_tu 2 77 hH ?_
        simp only [LY]
        refine U_tu 3 78 hH ?_
        simp only [LY]
        refine U_tu 4 79 hH ?_
        simp only [LY]
        refine U_tu 5 80 hH ?_
        simp only [LY]
        clear hH
        refine U_one (i := 6) (by kernel_rfl) rfl (fun K hK => ?_)
        go_simp
        refine hK.out _ _ True.intro (fun hH => ?_)
        clear hK K
        try simp only [LY]
        refine U_tk 7 82 ?_ ?_ hH ?_
        rotate_left
        · (intro w hSw; (try dsimp only at hSw); go_simp; try with_reducible rfl)
        simp only [LY]
        refine U_tk 8 23 ?_ ?_ hH ?_
        rotate_left
        · (intro w hSw; (try dsimp only at hSw); go_simp; try with_reducible rfl)
        simp only [LY]
        clear hH
        refine U_endN (by kernel_rfl) ?_
        go_wp2
        go_roundw
        case rel => exact ⟨k + 1, by omega, by go_num, (congrArg _ (eqK_F1 q12H.out)), hs, Bls, Blc, Blx, Blk, Blv, h3, h4, h5, h6, h7, hA1⟩
        all_goals first | (simp [intOf]; done) | (simp [intOf]; omega)
    · have q9d : ((k : Int) < (A.length : Int)) = False := eq_false (by omega)
      obtain rfl : k = A.length := by omega
      have HBZ := Lib.hid (show decide (va = 0) = b8 from HVE.out.trans Hb8.out.symm)
      have cv_0 : wr.cell? ⟨w8.heap.size + 1, 0, none⟩ = some (.bool sh7) := Blv.at 0 rfl
      have cv_1 : wr.cell? ⟨w8.heap.size + 1, 1, none⟩ = some (.slice ah7 nh7 ch7) := Blv.at 1 rfl
      have cv_2 : wr.cell? ⟨w8.heap.size + 1, 2, none⟩ = some (.slice Ah7 Nh7 Ch7) := Blv.at 2 rfl
      have Lv : w8.heap.size + 1 < wr.heap.size := Blv.lt
      go_wp2_with fail
      clear cv_0 cv_1 cv_2 Lv
      with_reducible refine (pSign h7).mono ?_
      rintro e w30 ⟨rfl, hb⟩
      replace hs := bStep hs hb
      replace Bls := Bls.mono hb
      replace Blc := Blc.mono hb
      replace Blx := Blx.mono hb
      replace Blk := Blk.mono hb
      replace Blv := Blv.mono hb
      replace h3 := h3.mono hb
      replace h4 := h4.mono hb
      replace h5 := h5.mono hb
      replace h6 := h6.mono hb
      replace h7 := h7.mono hb
      replace hA1 := rowsJ PC.kept _ _ _ hA1 hb
      clear hb
      obtain ⟨sg10, Hsg10⟩ : ∃ s : Int, s = sgQ va := ⟨_, rfl⟩
      rw [← Hsg10]
      replace Hsg10 := Lib.hid Hsg10
      have q11 : ¬ (va < 0) := HVG.out
      have q11_ : ¬ (sg10 < 0) := by have h := s1_lt va; rw [← Hsg10.out] at h; exact fun h1 => q11 (h.1 h1)
      have q11H := Lib.hid q11
      clear q11
      have q11d : decide (sg10 < 0) = false := decide_eq_false q11_
      have cv_0 : w30.cell? ⟨w8.heap.size + 1, 0, none⟩ = some (.bool sh7) := Blv.at 0 rfl
      have cv_1 : w30.cell? ⟨w8.heap.size + 1, 1, none⟩ = some (.slice ah7 nh7 ch7) := Blv.at 1 rfl
      have cv_2 : w30.cell? ⟨w8.heap.size + 1, 2, none⟩ = some (.slice Ah7 Nh7 Ch7) := Blv.at 2 rfl
      have Lv : w8.heap.size + 1 < w30.heap.size := Blv.lt
      go_wp2_with fail
      clear cv_0 cv_1 cv_2 Lv
      with_reducible refine (p_ZeroB h7 HBZ.out).mono ?_
      rintro e w31 ⟨rfl, hb⟩
      replace hs := bStep hs hb
      replace Bls := Bls.mono hb
      replace Blc := Blc.mono hb
      replace Blx := Blx.mono hb
      replace Blk := Blk.mono hb
      replace Blv := Blv.mono hb
      replace h3 := h3.mono hb
      replace h4 := h4.mono hb
      replace h5 := h5.mono hb
      replace h6 := h6.mono hb
      replace h7 := h7.mono hb
      replace hA1 := rowsJ PC.kept _ _ _ hA1 hb
      clear hb
      go_wp2_with fail
      have nc_bk_s : w4.heap.size < w31.heap.size := Bls.lt
      have nc_bk_c : w4.heap.size + 1 < w31.heap.size := Blc.lt
      have nc_bk_x : w6.heap.size < w31.heap.size := Blx.lt
      have nc_bk_k : w8.heap.size < w31.heap.size := Blk.lt
      have nc_bk_v : w8.heap.size + 1 < w31.heap.size := Blv.lt
      have nc_bk_hA1 : bhA1 < w31.heap.size := hA1.lt (by omega)
      with_reducible refine (sl_CloneQ _ hA1 g1 (by omega)).mono ?_
      rintro e w32 ⟨vbk, rfl, Obk, hb⟩
      obtain ⟨gbk, cbk, rfl, gbbk, -, -⟩ := Obk.openG (by omega)
      have Vbk : OwnG w.heap.size 29 3 PC cbk w32 gbk A := Obk.base hs.size
      clear Obk
      have Lv_bk : gbk < w32.heap.size := Vbk.lt
      replace hs := bStep hs hb
      replace Bls := Bls.mono hb
      replace Blc := Blc.mono hb
      replace Blx := Blx.mono hb
      replace Blk := Blk.mono hb
      replace Blv := Blv.mono hb
      replace h3 := h3.mono hb
      replace h4 := h4.mono hb
      replace h5 := h5.mono hb
      replace h6 := h6.mono hb
      replace h7 := h7.mono hb
      replace hA1 := rowsJ PC.kept _ _ _ hA1 hb
      clear hb
      go_wp2_with fail
      with_reducible refine (p_Int_9 _ HT.out (by omega) (by omega)).mono ?_
      rintro e w33 ⟨_, rfl, h12, hb⟩
      obtain ⟨sh12, ah12, nh12, ch12, Ah12, Nh12, Ch12, rfl⟩ := h12.shape
      replace hs := bStep hs hb
      replace Bls := Bls.mono hb
      replace Blc := Blc.mono hb
      replace Blx := Blx.mono hb
      replace Blk := Blk.mono hb
      replace Blv := Blv.mono hb
      replace h3 := h3.mono hb
      replace h4 := h4.mono hb
      replace h5 := h5.mono hb
      replace h6 := h6.mono hb
      replace h7 := h7.mono hb
      replace hA1 := rowsJ PC.kept _ _ _ hA1 hb
      replace Vbk := OwnG.mono PC.kept Vbk hb
      clear hb
      go_wp2_with fail
      have nv13 : gbk < w33.heap.size := Vbk.lt
      refine Calls.abs ?_
      intro w34 hW
      have hG : Gr [] w33 w34 := by rw [hW]; exact (Gr.refl _ _).alloc
      have hbw : Below w.heap.size w33 w34 := hG.below0 hs.size
      have hk : KeepD w33 w34 := hG.keep True.intro
      have sz_w34 : w.heap.size ≤ w33.heap.size := hs.size
      have ns_w34 : w4.heap.size < w33.heap.size := Bls.lt
      have nc_w34 : w4.heap.size + 1 < w33.heap.size := Blc.lt
      have nx_w34 : w6.heap.size < w33.heap.size := Blx.lt
      have nk_w34 : w8.heap.size < w33.heap.size := Blk.lt
      have nv_w34 : w8.heap.size + 1 < w33.heap.size := Blv.lt
      have nhA1_w34 : bhA1 < w33.heap.size := hA1.lt (by omega)
      have Blk5 : Bx w34 (w33.heap.size) 29 #[.bool sh12, .slice ah12 nh12 ch12, .slice Ah12 Nh12 Ch12] := by rw [hW]; exact (Bx.new0 _ _ _)
      replace hs := hs.trans hbw
      replace hA1 := rowsJ PC.kept _ _ _ hA1 (hG.below0 (Nat.le_refl _))
      replace Vbk := OwnG.mono PC.kept Vbk (hG.below0 (Nat.le_refl _))
      replace Bls := hG.bx Bls notMem0
      replace Blc := hG.bx Blc notMem0
      replace Blx := hG.bx Blx notMem0
      replace Blk := hG.bx Blk notMem0
      replace Blv := hG.bx Blv notMem0
      replace h3 := h3.keep hk
      replace h4 := h4.keep hk
      replace h5 := h5.keep hk
      replace h6 := h6.keep hk
      replace h7 := h7.keep hk
      replace h12 := h12.keep hk
      clear hW hG hk hbw
      have hz_w34 : w33.heap.size < w34.heap.size := Blk5.lt
      with_reducible refine (sl_RevQ _ Vbk g1 (by omega) HAZ.out).mono ?_
      rintro e w35 ⟨rfl, V1bk, hG⟩
      have hsz := hs.size
      have low_ := Vbk.low
      have hbw : Below w.heap.size w34 w35 := hG.below1 hs.size (by first | omega | assumption)
      have hk : KeepD w34 w35 := hG.keep ⟨⟨_, Vbk.ty, by decide⟩, True.intro⟩
      replace hs := hs.trans hbw
      replace hA1 := hA1.gr PC.kept hG (notMem1 (by omega)) hk
      replace Bls := hG.bx Bls (notMem1 (by omega))
      replace Blc := hG.bx Blc (notMem1 (by omega))
      replace Blx := hG.bx Blx (notMem1 (by omega))
      replace Blk := hG.bx Blk (notMem1 (by omega))
      replace Blv := hG.bx Blv (notMem1 (by omega))
      replace Blk5 := hG.bx Blk5 (notMem1 (by omega))
      replace Vbk := V1bk
      clear V1bk
      replace h3 := h3.keep hk
      replace h4 := h4.keep hk
      replace h5 := h5.keep hk
      replace h6 := h6.keep hk
      replace h7 := h7.keep hk
      replace h12 := h12.keep hk
      clear hG hk hbw hsz low_
      have cs_0 : w35.cell? ⟨w4.heap.size, 0, none⟩ = some (.bool sh3) := Bls.at 0 rfl
      have cs_1 : w35.cell? ⟨w4.heap.size, 1, none⟩ = some (.slice ah3 nh3 ch3) := Bls.at 1 rfl
      have cs_2 : w35.cell? ⟨w4.heap.size, 2, none⟩ = some (.slice Ah3 Nh3 Ch3) := Bls.at 2 rfl
      have Ls : w4.heap.size < w35.heap.size := Bls.lt
      have cc_0 : w35.cell? ⟨w4.heap.size + 1, 0, none⟩ = some (.bool sh4) := Blc.at 0 rfl
      have cc_1 : w35.cell? ⟨w4.heap.size + 1, 1, none⟩ = some (.slice ah4 nh4 ch4) := Blc.at 1 rfl
      have cc_2 : w35.cell? ⟨w4.heap.size + 1, 2, none⟩ = some (.slice Ah4 Nh4 Ch4) := Blc.at 2 rfl
      have Lc : w4.heap.size + 1 < w35.heap.size := Blc.lt
      go_wp2_with fail
      clear cs_0 cs_1 cs_2 cc_0 cc_1 cc_2 Ls Lc
      with_reducible refine (al_Limit_of _ (by have h := Vbk.rows; rw [List.length_reverse] at h; exact h) h3 su h4 sc HLB.out).mono ?_
      rintro e w36 ⟨_, rfl, h14, hb⟩
      obtain ⟨sh14, ah14, nh14, ch14, Ah14, Nh14, Ch14, rfl⟩ := h14.shape
      replace hs := bStep hs hb
      replace Bls := Bls.mono hb
      replace Blc := Blc.mono hb
      replace Blx := Blx.mono hb
      replace Blk := Blk.mono hb
      replace Blv := Blv.mono hb
      replace Blk5 := Blk5.mono hb
      replace h3 := h3.mono hb
      replace h4 := h4.mono hb
      replace h5 := h5.mono hb
      replace h6 := h6.mono hb
      replace h7 := h7.mono hb
      replace h12 := h12.mono hb
      replace hA1 := rowsJ PC.kept _ _ _ hA1 hb
      replace Vbk := OwnG.mono PC.kept Vbk hb
      clear hb
      clear Vbk
      go_wp2
      refine Code.abs ?_
      intro w37 hW
      have hG : Gr [] w36 w37 := by rw [hW]; exact (Gr.refl _ _).alloc
      have hbw : Below w.heap.size w36 w37 := hG.below0 hs.size
      have hk : KeepD w36 w37 := hG.keep True.intro
      have sz_w37 : w.heap.size ≤ w36.heap.size := hs.size
      have ns_w37 : w4.heap.size < w36.heap.size := Bls.lt
      have nc_w37 : w4.heap.size + 1 < w36.heap.size := Blc.lt
      have nx_w37 : w6.heap.size < w36.heap.size := Blx.lt
      have nk_w37 : w8.heap.size < w36.heap.size := Blk.lt
      have nv_w37 : w8.heap.size + 1 < w36.heap.size := Blv.lt
      have nk5_w37 : w33.heap.size < w36.heap.size := Blk5.lt
      have nhA1_w37 : bhA1 < w36.heap.size := hA1.lt (by omega)
      have Bly : Bx w37 (w36.heap.size) 29 #[.bool sh14, .slice ah14 nh14 ch14, .slice Ah14 Nh14 Ch14] := by rw [hW]; exact (Bx.new0 _ _ _)
      replace hs := hs.trans hbw
      replace hA1 := rowsJ PC.kept _ _ _ hA1 (hG.below0 (Nat.le_refl _))
      replace Bls := hG.bx Bls notMem0
      replace Blc := hG.bx Blc notMem0
      replace Blx := hG.bx Blx notMem0
      replace Blk := hG.bx Blk notMem0
      replace Blv := hG.bx Blv notMem0
      replace Blk5 := hG.bx Blk5 notMem0
      replace h3 := h3.keep hk
      replace h4 := h4.keep hk
      replace h5 := h5.keep hk
      replace h6 := h6.keep hk
      replace h7 := h7.keep hk
      replace h12 := h12.keep hk
      replace h14 := h14.keep hk
      clear hW hG hk hbw
      have hz_w37 : w36.heap.size < w37.heap.size := Bly.lt
      have HB0_15 := Lib.hid hs
      clear hs
      have hs := Below.refl w37.heap.size w37
      have nb_s : w4.heap.size < w37.heap.size := Bls.lt
      have nb_c : w4.heap.size + 1 < w37.heap.size := Blc.lt
      have nb_x : w6.heap.size < w37.heap.size := Blx.lt
      have nb_k : w8.heap.size < w37.heap.size := Blk.lt
      have nb_v : w8.heap.size + 1 < w37.heap.size := Blv.lt
      have nb_k5 : w33.heap.size < w37.heap.size := Blk5.lt
      have nb_y : w36.heap.size < w37.heap.size := Bly.lt
      have FhA1 := Lib.hid hA1
      clear hA1
      go_loopw [29, 30, 118] (fun s29 s30 s118 wq => ∃ j : Nat, j ≤ A.length ∧ s118 = .int .i64 j ∧ s30 = .bool (anK A x j) ∧ Below w37.heap.size w37 wq ∧ Bx wq (w4.heap.size) 29 #[.bool sh3, .slice ah3 nh3 ch3, .slice Ah3 Nh3 Ch3] ∧ Bx wq (w4.heap.size + 1) 29 #[.bool sh4, .slice ah4 nh4 ch4, .slice Ah4 Nh4 Ch4] ∧ Bx wq (w6.heap.size) 29 #[.bool sh5, .slice ah5 nh5 ch5, .slice Ah5 Nh5 Ch5] ∧ Bx wq (w8.heap.size) 29 #[.bool sh6, .slice ah6 nh6 ch6, .slice Ah6 Nh6 Ch6] ∧ Bx wq (w8.heap.size + 1) 29 #[.bool sh7, .slice ah7 nh7 ch7, .slice Ah7 Nh7 Ch7] ∧ Bx wq (w33.heap.size) 29 #[.bool sh12, .slice ah12 nh12 ch12, .slice Ah12 Nh12 Ch12] ∧ Bx wq (w36.heap.size) 29 #[.bool sh14, .slice ah14 nh14 ch14, .slice Ah14 Nh14 Ch14] ∧ PV wq (.agg #[.bool sh3, .slice ah3 nh3 ch3, .slice Ah3 Nh3 Ch3]) (u) ∧ PV wq (.agg #[.bool sh4, .slice ah4 nh4 ch4, .slice Ah4 Nh4 Ch4]) (c) ∧ PV wq (.agg #[.bool sh5, .slice ah5 nh5 ch5, .slice Ah5 Nh5 Ch5]) (x) ∧ PV wq (.agg #[.bool sh6, .slice ah6 nh6 ch6, .slice Ah6 Nh6 Ch6]) (m) ∧ PV wq (.agg #[.bool sh7, .slice ah7 nh7 ch7, .slice Ah7 Nh7 Ch7]) (va) ∧ PV wq (.agg #[.bool sh12, .slice ah12 nh12 ch12, .slice Ah12 Nh12 Ch12]) (t) ∧ PV wq (.agg #[.bool sh14, .slice ah14 nh14 ch14, .slice Ah14 Nh14 Ch14]) (x) ∧ OwnR w37.heap.size 29 3 PC wq s29 (mvK A t yb j)) (fun s29 s30 s118 _ => A.length - (intOf s118).toNat)
      case atStart => exact ⟨0, Nat.zero_le _, rfl, rfl, hs, Bls, Blc, Blx, Blk, Blv, Blk5, Bly, h3, h4, h5, h6, h7, h12, h14, OwnR.nil _ _ _ _ _⟩
      case round =>
        clear Bls Blc Blx Blk Blv Blk5 Bly h3 h4 h5 h6 h7 h12 h14 hs
        obtain ⟨j, j_le, rfl, rfl, hs, Bls, Blc, Blx, Blk, Blv, Blk5, Bly, h3, h4, h5, h6, h7, h12, h14, Omv⟩ := hrel
        obtain ⟨b16, Hb16⟩ : ∃ b : Bool, b = anK A x j := ⟨_, rfl⟩
        rw [← Hb16]
        replace Hb16 := Lib.hid Hb16
        have lmv := Nat.le_of_eq (mvK_len A t yb j_le)
        by_cases q17 : j < A.length
        · have q17d : ((j : Int) < (A.length : Int)) = True := eq_true (by omega)
          have BI18a : j < A.length := by omega
          have BI18b : ((j : Int) : Int) < (A.length : Int) := by omega
          obtain ⟨ge19a, ae19a, ne19a, ce19a, Ae19a, Ne19a, De19a, Ee190, Ee191, Ee192, he19a, le19⟩ := rowP_at (rowsJ PC.kept _ _ _ FhA1.out hs) (show j < A.length by omega)
          by_cases q20 : anK A x j = true
          · obtain rfl : b16 = true := by rw [Hb16.out]; exact q20
            have q20H := Lib.hid q20
            clear q20
            have ck5_0 : wr.cell? ⟨w33.heap.size, 0, none⟩ = some (.bool sh12) := Blk5.at 0 rfl
            have ck5_1 : wr.cell? ⟨w33.heap.size, 1, none⟩ = some (.slice ah12 nh12 ch12) := Blk5.at 1 rfl
            have ck5_2 : wr.cell? ⟨w33.heap.size, 2, none⟩ = some (.slice Ah12 Nh12 Ch12) := Blk5.at 2 rfl
            have Lk5 : w33.heap.size < wr.heap.size := Blk5.lt
            go_wp2_with fail
            clear ck5_0 ck5_1 ck5_2 Lk5 le19 Ee190 Ee191 Ee192
            refine Calls.abs ?_
            intro w58 hW
            have hG : Gr [] wr w58 := by rw [hW]; exact (Gr.refl _ _).alloc
            have hbw : Below w37.heap.size wr w58 := hG.below0 hs.size
            have hk : KeepD wr w58 := hG.keep True.intro
            have sz_w58 : w37.heap.size ≤ wr.heap.size := hs.size
            have ns_w58 : w4.heap.size < wr.heap.size := Bls.lt
            have nc_w58 : w4.heap.size + 1 < wr.heap.size := Blc.lt
            have nx_w58 : w6.heap.size < wr.heap.size := Blx.lt
            have nk_w58 : w8.heap.size < wr.heap.size := Blk.lt
            have nv_w58 : w8.heap.size + 1 < wr.heap.size := Blv.lt
            have nk5_w58 : w33.heap.size < wr.heap.size := Blk5.lt
            have ny_w58 : w36.heap.size < wr.heap.size := Bly.lt
            have Blz : Bx w58 (wr.heap.size) 29 #[.bool ge19a, .slice ae19a ne19a ce19a, .slice Ae19a Ne19a De19a] := by rw [hW]; exact (Bx.new0 _ _ _)
            have Ap_mv_z := Omv.ap (g := wr.heap.size) (by omega)
            replace hs := hs.trans hbw
            replace Bls := hG.bx Bls notMem0
            replace Blc := hG.bx Blc notMem0
            replace Blx := hG.bx Blx notMem0
            replace Blk := hG.bx Blk notMem0
            replace Blv := hG.bx Blv notMem0
            replace Blk5 := hG.bx Blk5 notMem0
            replace Bly := hG.bx Bly notMem0
            replace h3 := h3.keep hk
            replace h4 := h4.keep hk
            replace h5 := h5.keep hk
            replace h6 := h6.keep hk
            replace h7 := h7.keep hk
            replace h12 := h12.keep hk
            replace h14 := h14.keep hk
            replace he19a := he19a.keep hk
            replace Omv := Omv.mono PC.kept (hG.below0 (Nat.le_refl _))
            clear hW hG hk hbw
            have hz_w58 : wr.heap.size < w58.heap.size := Blz.lt
            with_reducible refine (pMul he19a h12 (SzQ.fit (HAZ1.out j (by omega))) (SzQ.fit st)).mono ?_
            rintro e w59 ⟨_, rfl, h21, hb⟩
            obtain ⟨sh21, ah21, nh21, ch21, Ah21, Nh21, Ch21, rfl⟩ := h21.shape
            replace hs := bStep hs hb
            replace Bls := Bls.mono hb
            replace Blc := Blc.mono hb
            replace Blx := Blx.mono hb
            replace Blk := Blk.mono hb
            replace Blv := Blv.mono hb
            replace Blk5 := Blk5.mono hb
            replace Bly := Bly.mono hb
            replace Blz := Blz.mono hb
            replace h3 := h3.mono hb
            replace h4 := h4.mono hb
            replace h5 := h5.mono hb
            replace h6 := h6.mono hb
            replace h7 := h7.mono hb
            replace h12 := h12.mono hb
            replace h14 := h14.mono hb
            replace he19a := he19a.mono hb
            replace Omv := Omv.mono PC.kept hb
            clear hb
            go_wp2_with fail
            with_reducible refine (p_Int_8 _ HB.out (by omega) (by omega)).mono ?_
            rintro e w60 ⟨_, rfl, h22, hb⟩
            obtain ⟨sh22, ah22, nh22, ch22, Ah22, Nh22, Ch22, rfl⟩ := h22.shape
            replace hs := bStep hs hb
            replace Bls := Bls.mono hb
            replace Blc := Blc.mono hb
            replace Blx := Blx.mono hb
            replace Blk := Blk.mono hb
            replace Blv := Blv.mono hb
            replace Blk5 := Blk5.mono hb
            replace Bly := Bly.mono hb
            replace Blz := Blz.mono hb
            replace h3 := h3.mono hb
            replace h4 := h4.mono hb
            replace h5 := h5.mono hb
            replace h6 := h6.mono hb
            replace h7 := h7.mono hb
            replace h12 := h12.mono hb
            replace h14 := h14.mono hb
            replace he19a := he19a.mono hb
            replace h21 := h21.mono hb
            replace Omv := Omv.mono PC.kept hb
            clear hb
            go_wp2_with fail
            with_reducible refine (pAdd h21 h22 (SzQ.fit (SzQ.mul (HAZ1.out j (by omega)) st)) (SzQ.fit sb)).mono ?_
            rintro e w61 ⟨_, rfl, h23, hb⟩
            obtain ⟨sh23, ah23, nh23, ch23, Ah23, Nh23, Ch23, rfl⟩ := h23.shape
            replace hs := bStep hs hb
            replace Bls := Bls.mono hb
            replace Blc := Blc.mono hb
            replace Blx := Blx.mono hb
            replace Blk := Blk.mono hb
            replace Blv := Blv.mono hb
            replace Blk5 := Blk5.mono hb
            replace Bly := Bly.mono hb
            replace Blz := Blz.mono hb
            replace h3 := h3.mono hb
            replace h4 := h4.mono hb
            replace h5 := h5.mono hb
            replace h6 := h6.mono hb
            replace h7 := h7.mono hb
            replace h12 := h12.mono hb
            replace h14 := h14.mono hb
            replace he19a := he19a.mono hb
            replace h21 := h21.mono hb
            replace h22 := h22.mono hb
            replace Omv := Omv.mono PC.kept hb
            clear hb
            go_wp2_with (at_builtin; refine wpList.stop ?_)
            refine ⟨?_⟩
            refine wpList.abs ?_
            intro w62 hW
            have hG : Gr [] w61 w62 := by rw [hW]; exact (Gr.refl _ _).alloc
            have hbw : Below w37.heap.size w61 w62 := hG.below0 hs.size
            have hk : KeepD w61 w62 := hG.keep True.intro
            have sz_w62 : w37.heap.size ≤ w61.heap.size := hs.size
            have ns_w62 : w4.heap.size < w61.heap.size := Bls.lt
            have nc_w62 : w4.heap.size + 1 < w61.heap.size := Blc.lt
            have nx_w62 : w6.heap.size < w61.heap.size := Blx.lt
            have nk_w62 : w8.heap.size < w61.heap.size := Blk.lt
            have nv_w62 : w8.heap.size + 1 < w61.heap.size := Blv.lt
            have nk5_w62 : w33.heap.size < w61.heap.size := Blk5.lt
            have ny_w62 : w36.heap.size < w61.heap.size := Bly.lt
            have nz_w62 : wr.heap.size < w61.heap.size := Blz.lt
            have Blls : Bx w62 (w61.heap.size) 29 #[.bool sh23, .slice ah23 nh23 ch23, .slice Ah23 Nh23 Ch23] := by rw [hW]; exact (Bx.new0 _ _ _)
            replace hs := hs.trans hbw
            replace Bls := hG.bx Bls notMem0
            replace Blc := hG.bx Blc notMem0
            replace Blx := hG.bx Blx notMem0
            replace Blk := hG.bx Blk notMem0
            replace Blv := hG.bx Blv notMem0
            replace Blk5 := hG.bx Blk5 notMem0
            replace Bly := hG.bx Bly notMem0
            replace Blz := hG.bx Blz notMem0
            replace h3 := h3.keep hk
            replace h4 := h4.keep hk
            replace h5 := h5.keep hk
            replace h6 := h6.keep hk
            replace h7 := h7.keep hk
            replace h12 := h12.keep hk
            replace h14 := h14.keep hk
            replace he19a := he19a.keep hk
            replace h21 := h21.keep hk
            replace h22 := h22.keep hk
            replace h23 := h23.keep hk
            replace Omv := Omv.mono PC.kept (hG.below0 (Nat.le_refl _))
            clear hW hG hk hbw
            have hz_w62 : w61.heap.size < w62.heap.size := Blls.lt
            obtain ⟨css, ho1, ho2, ho3, hown0⟩ := Omv
            refine wpList_append_lies _ rfl _ _ _ rfl w37.heap.size 29 i0 _ 3 56 Tryz.underlying46 hi hz0 hz1 hz2 rfl (by omega) _ _ css.flatten rfl hown0 ⟨w61.heap.size, 0, none⟩ 1 1 [.bool sh23, .slice ah23 nh23 ch23, .slice Ah23 Nh23 Ch23] rfl rfl Blls.news ?_ (by omega) ?_ ?_ ?_ _ rfl ?_
            · intro u hu; simp only [List.mem_cons, List.mem_nil_iff, or_false] at hu; rcases hu with rfl | rfl | rfl <;> rfl
            · unfold maxLen; (try simp only [List.length_append, List.length_cons, List.length_nil]); omega
            · (try simp only [List.length_append, List.length_cons, List.length_nil]); omega
            · exact hs.size
            intro gmv capmv w63 hown1 hgrow hat hlt_
            have hk_ := KeepD.owns hown0 hgrow (by decide)
            have ho := owns_onlyT hown0 hgrow
            replace hs := hs.grown hgrow hs.size (fun k hk => (hown0.lt k hk).1)
            replace Omv := OwnR.push' PC.kept ho1 ho2 ho3 (x := (nthQ A j * t) + yb) rfl ⟨_, _, _, rfl, h23⟩ (by simp) hown1 hk_
            replace Bls := Bls.grown hgrow (fun e => by have := (hown0.lt _ e.symm).1; omega)
            replace Blc := Blc.grown hgrow (fun e => by have := (hown0.lt _ e.symm).1; omega)
            replace Blx := Blx.grown hgrow (fun e => by have := (hown0.lt _ e.symm).1; omega)
            replace Blk := Blk.grown hgrow (fun e => by have := (hown0.lt _ e.symm).1; omega)
            replace Blv := Blv.grown hgrow (fun e => by have := (hown0.lt _ e.symm).1; omega)
            replace Blk5 := Blk5.grown hgrow (fun e => by have := (hown0.lt _ e.symm).1; omega)
            replace Bly := Bly.grown hgrow (fun e => by have := (hown0.lt _ e.symm).1; omega)
            have Ap_mv_z1 := Ap_mv_z.app hat Blz.lt
            replace Blz := Blz.grown hgrow Ap_mv_z.ne
            replace Ap_mv_z := Ap_mv_z1
            clear Ap_mv_z1
            replace h3 := h3.keep hk_
            replace h4 := h4.keep hk_
            replace h5 := h5.keep hk_
            replace h6 := h6.keep hk_
            replace h7 := h7.keep hk_
            replace h12 := h12.keep hk_
            replace h14 := h14.keep hk_
            replace he19a := he19a.keep hk_
            replace h21 := h21.keep hk_
            replace h22 := h22.keep hk_
            replace h23 := h23.keep hk_
            clear hk_ ho ho1 ho2 ho3 hown0 hown1 hgrow hat hlt_ Blls
            go_wp2
            go_roundw
            case rel => exact ⟨j + 1, by omega, by go_num, (congrArg _ (anK_T1 q20H.out)), hs, Bls, Blc, Blx, Blk, Blv, Blk5, Bly, h3, h4, h5, h6, h7, h12, h14, (by rw [mvK_next (show j < A.length by omega)]; exact Omv)⟩
            all_goals first | (simp [intOf]; done) | (simp [intOf]; omega)
          · obtain rfl : b16 = false := by rw [Hb16.out]; simpa using q20
            have q20H := Lib.hid q20
            clear q20
            have cx_0 : wr.cell? ⟨w6.heap.size, 0, none⟩ = some (.bool sh5) := Blx.at 0 rfl
            have cx_1 : wr.cell? ⟨w6.heap.size, 1, none⟩ = some (.slice ah5 nh5 ch5) := Blx.at 1 rfl
            have cx_2 : wr.cell? ⟨w6.heap.size, 2, none⟩ = some (.slice Ah5 Nh5 Ch5) := Blx.at 2 rfl
            have Lx : w6.heap.size < wr.heap.size := Blx.lt
            go_wp2_with fail
            clear cx_0 cx_1 cx_2 Lx le19 Ee190 Ee191 Ee192
            refine Calls.abs ?_
            intro w58 hW
            have hG : Gr [] wr w58 := by rw [hW]; exact (Gr.refl _ _).alloc
            have hbw : Below w37.heap.size wr w58 := hG.below0 hs.size
            have hk : KeepD wr w58 := hG.keep True.intro
            have sz_w58 : w37.heap.size ≤ wr.heap.size := hs.size
            have ns_w58 : w4.heap.size < wr.heap.size := Bls.lt
            have nc_w58 : w4.heap.size + 1 < wr.heap.size := Blc.lt
            have nx_w58 : w6.heap.size < wr.heap.size := Blx.lt
            have nk_w58 : w8.heap.size < wr.heap.size := Blk.lt
            have nv_w58 : w8.heap.size + 1 < wr.heap.size := Blv.lt
            have nk5_w58 : w33.heap.size < wr.heap.size := Blk5.lt
            have ny_w58 : w36.heap.size < wr.heap.size := Bly.lt
            have Blz : Bx w58 (wr.heap.size) 29 #[.bool ge19a, .slice ae19a ne19a ce19a, .slice Ae19a Ne19a De19a] := by rw [hW]; exact (Bx.new0 _ _ _)
            have Ap_mv_z := Omv.ap (g := wr.heap.size) (by omega)
            replace hs := hs.trans hbw
            replace Bls := hG.bx Bls notMem0
            replace Blc := hG.bx Blc notMem0
            replace Blx := hG.bx Blx notMem0
            replace Blk := hG.bx Blk notMem0
            replace Blv := hG.bx Blv notMem0
            replace Blk5 := hG.bx Blk5 notMem0
            replace Bly := hG.bx Bly notMem0
            replace h3 := h3.keep hk
            replace h4 := h4.keep hk
            replace h5 := h5.keep hk
            replace h6 := h6.keep hk
            replace h7 := h7.keep hk
            replace h12 := h12.keep hk
            replace h14 := h14.keep hk
            replace he19a := he19a.keep hk
            replace Omv := Omv.mono PC.kept (hG.below0 (Nat.le_refl _))
            clear hW hG hk hbw
            have hz_w58 : wr.heap.size < w58.heap.size := Blz.lt
            with_reducible refine (p_Same_calls _ _ _ _ _ he19a h5).mono ?_
            rintro e w59 ⟨rfl, hb⟩
            replace hs := bStep hs hb
            replace Bls := Bls.mono hb
            replace Blc := Blc.mono hb
            replace Blx := Blx.mono hb
            replace Blk := Blk.mono hb
            replace Blv := Blv.mono hb
            replace Blk5 := Blk5.mono hb
            replace Bly := Bly.mono hb
            replace Blz := Blz.mono hb
            replace h3 := h3.mono hb
            replace h4 := h4.mono hb
            replace h5 := h5.mono hb
            replace h6 := h6.mono hb
            replace h7 := h7.mono hb
            replace h12 := h12.mono hb
            replace h14 := h14.mono hb
            replace he19a := he19a.mono hb
            replace Omv := Omv.mono PC.kept hb
            clear hb
            obtain ⟨b21, Hb21⟩ : ∃ b : Bool, b = decide (nthQ A j = x) := ⟨_, rfl⟩
            rw [← Hb21]
            replace Hb21 := Lib.hid Hb21
            have cz_0 : w59.cell? ⟨wr.heap.size, 0, none⟩ = some (.bool ge19a) := Blz.at 0 rfl
            have cz_1 : w59.cell? ⟨wr.heap.size, 1, none⟩ = some (.slice ae19a ne19a ce19a) := Blz.at 1 rfl
            have cz_2 : w59.cell? ⟨wr.heap.size, 2, none⟩ = some (.slice Ae19a Ne19a De19a) := Blz.at 2 rfl
            have Lz : wr.heap.size < w59.heap.size := Blz.lt
            have ck5_0 : w59.cell? ⟨w33.heap.size, 0, none⟩ = some (.bool sh12) := Blk5.at 0 rfl
            have ck5_1 : w59.cell? ⟨w33.heap.size, 1, none⟩ = some (.slice ah12 nh12 ch12) := Blk5.at 1 rfl
            have ck5_2 : w59.cell? ⟨w33.heap.size, 2, none⟩ = some (.slice Ah12 Nh12 Ch12) := Blk5.at 2 rfl
            have Lk5 : w33.heap.size < w59.heap.size := Blk5.lt
            go_wp2_with fail
            clear cz_0 cz_1 cz_2 ck5_0 ck5_1 ck5_2 Lz Lk5
            with_reducible refine (pMul he19a h12 (SzQ.fit (HAZ1.out j (by omega))) (SzQ.fit st)).mono ?_
            rintro e w60 ⟨_, rfl, h22, hb⟩
            obtain ⟨sh22, ah22, nh22, ch22, Ah22, Nh22, Ch22, rfl⟩ := h22.shape
            replace hs := bStep hs hb
            replace Bls := Bls.mono hb
            replace Blc := Blc.mono hb
            replace Blx := Blx.mono hb
            replace Blk := Blk.mono hb
            replace Blv := Blv.mono hb
            replace Blk5 := Blk5.mono hb
            replace Bly := Bly.mono hb
            replace Blz := Blz.mono hb
            replace h3 := h3.mono hb
            replace h4 := h4.mono hb
            replace h5 := h5.mono hb
            replace h6 := h6.mono hb
            replace h7 := h7.mono hb
            replace h12 := h12.mono hb
            replace h14 := h14.mono hb
            replace he19a := he19a.mono hb
            replace Omv := Omv.mono PC.kept hb
            clear hb
            go_wp2_with fail
            with_reducible refine (p_Int_8 _ HB.out (by omega) (by omega)).mono ?_
            rintro e w61 ⟨_, rfl, h23, hb⟩
            obtain ⟨sh23, ah23, nh23, ch23, Ah23, Nh23, Ch23, rfl⟩ := h23.shape
            replace hs := bStep hs hb
            replace Bls := Bls.mono hb
            replace Blc := Blc.mono hb
            replace Blx := Blx.mono hb
            replace Blk := Blk.mono hb
            replace Blv := Blv.mono hb
            replace Blk5 := Blk5.mono hb
            replace Bly := Bly.mono hb
            replace Blz := Blz.mono hb
            replace h3 := h3.mono hb
            replace h4 := h4.mono hb
            replace h5 := h5.mono hb
            replace h6 := h6.mono hb
            replace h7 := h7.mono hb
            replace h12 := h12.mono hb
            replace h14 := h14.mono hb
            replace he19a := he19a.mono hb
            replace h22 := h22.mono hb
            replace Omv := Omv.mono PC.kept hb
            clear hb
            go_wp2_with fail
            with_reducible refine (pAdd h22 h23 (SzQ.fit (SzQ.mul (HAZ1.out j (by omega)) st)) (SzQ.fit sb)).mono ?_
            rintro e w62 ⟨_, rfl, h24, hb⟩
            obtain ⟨sh24, ah24, nh24, ch24, Ah24, Nh24, Ch24, rfl⟩ := h24.shape
            replace hs := bStep hs hb
            replace Bls := Bls.mono hb
            replace Blc := Blc.mono hb
            replace Blx := Blx.mono hb
            replace Blk := Blk.mono hb
            replace Blv := Blv.mono hb
            replace Blk5 := Blk5.mono hb
            replace Bly := Bly.mono hb
            replace Blz := Blz.mono hb
            replace h3 := h3.mono hb
            replace h4 := h4.mono hb
            replace h5 := h5.mono hb
            replace h6 := h6.mono hb
            replace h7 := h7.mono hb
            replace h12 := h12.mono hb
            replace h14 := h14.mono hb
            replace he19a := he19a.mono hb
            replace h22 := h22.mono hb
            replace h23 := h23.mono hb
            replace Omv := Omv.mono PC.kept hb
            clear hb
            go_wp2_with (at_builtin; refine wpList.stop ?_)
            refine ⟨?_⟩
            refine wpList.abs ?_
            intro w63 hW
            have hG : Gr [] w62 w63 := by rw [hW]; exact (Gr.refl _ _).alloc
            have hbw : Below w37.heap.size w62 w63 := hG.below0 hs.size
            have hk : KeepD w62 w63 := hG.keep True.intro
            have sz_w63 : w37.heap.size ≤ w62.heap.size := hs.size
            have ns_w63 : w4.heap.size < w62.heap.size := Bls.lt
            have nc_w63 : w4.heap.size + 1 < w62.heap.size := Blc.lt
            have nx_w63 : w6.heap.size < w62.heap.size := Blx.lt
            have nk_w63 : w8.heap.size < w62.heap.size := Blk.lt
            have nv_w63 : w8.heap.size + 1 < w62.heap.size := Blv.lt
            have nk5_w63 : w33.heap.size < w62.heap.size := Blk5.lt
            have ny_w63 : w36.heap.size < w62.heap.size := Bly.lt
            have nz_w63 : wr.heap.size < w62.heap.size := Blz.lt
            have Blls : Bx w63 (w62.heap.size) 29 #[.bool sh24, .slice ah24 nh24 ch24, .slice Ah24 Nh24 Ch24] := by rw [hW]; exact (Bx.new0 _ _ _)
            replace hs := hs.trans hbw
            replace Bls := hG.bx Bls notMem0
            replace Blc := hG.bx Blc notMem0
            replace Blx := hG.bx Blx notMem0
            replace Blk := hG.bx Blk notMem0
            replace Blv := hG.bx Blv notMem0
            replace Blk5 := hG.bx Blk5 notMem0
            replace Bly := hG.bx Bly notMem0
            replace Blz := hG.bx Blz notMem0
            replace h3 := h3.keep hk
            replace h4 := h4.keep hk
            replace h5 := h5.keep hk
            replace h6 := h6.keep hk
            replace h7 := h7.keep hk
            replace h12 := h12.keep hk
            replace h14 := h14.keep hk
            replace he19a := he19a.keep hk
            replace h22 := h22.keep hk
            replace h23 := h23.keep hk
            replace h24 := h24.keep hk
            replace Omv := Omv.mono PC.kept (hG.below0 (Nat.le_refl _))
            clear hW hG hk hbw
            have hz_w63 : w62.heap.size < w63.heap.size := Blls.lt
            obtain ⟨css, ho1, ho2, ho3, hown0⟩ := Omv
            refine wpList_append_lies _ rfl _ _ _ rfl w37.heap.size 29 i0 _ 3 56 Tryz.underlying46 hi hz0 hz1 hz2 rfl (by omega) _ _ css.flatten rfl hown0 ⟨w62.heap.size, 0, none⟩ 1 1 [.bool sh24, .slice ah24 nh24 ch24, .slice Ah24 Nh24 Ch24] rfl rfl Blls.news ?_ (by omega) ?_ ?_ ?_ _ rfl ?_
            · intro u hu; simp only [List.mem_cons, List.mem_nil_iff, or_false] at hu; rcases hu with rfl | rfl | rfl <;> rfl
            · unfold maxLen; (try simp only [List.length_append, List.length_cons, List.length_nil]); omega
            · (try simp only [List.length_append, List.length_cons, List.length_nil]); omega
            · exact hs.size
            intro gmv capmv w64 hown1 hgrow hat hlt_
            have hk_ := KeepD.owns hown0 hgrow (by decide)
            have ho := owns_onlyT hown0 hgrow
            replace hs := hs.grown hgrow hs.size (fun k hk => (hown0.lt k hk).1)
            replace Omv := OwnR.push' PC.kept ho1 ho2 ho3 (x := (nthQ A j * t) + yb) rfl ⟨_, _, _, rfl, h24⟩ (by simp) hown1 hk_
            replace Bls := Bls.grown hgrow (fun e => by have := (hown0.lt _ e.symm).1; omega)
            replace Blc := Blc.grown hgrow (fun e => by have := (hown0.lt _ e.symm).1; omega)
            replace Blx := Blx.grown hgrow (fun e => by have := (hown0.lt _ e.symm).1; omega)
            replace Blk := Blk.grown hgrow (fun e => by have := (hown0.lt _ e.symm).1; omega)
            replace Blv := Blv.grown hgrow (fun e => by have := (hown0.lt _ e.symm).1; omega)
            replace Blk5 := Blk5.grown hgrow (fun e => by have := (hown0.lt _ e.symm).1; omega)
            replace Bly := Bly.grown hgrow (fun e => by have := (hown0.lt _ e.symm).1; omega)
            have Ap_mv_z1 := Ap_mv_z.app hat Blz.lt
            replace Blz := Blz.grown hgrow Ap_mv_z.ne
            replace Ap_mv_z := Ap_mv_z1
            clear Ap_mv_z1
            replace h3 := h3.keep hk_
            replace h4 := h4.keep hk_
            replace h5 := h5.keep hk_
            replace h6 := h6.keep hk_
            replace h7 := h7.keep hk_
            replace h12 := h12.keep hk_
            replace h14 := h14.keep hk_
            replace he19a := he19a.keep hk_
            replace h22 := h22.keep hk_
            replace h23 := h23.keep hk_
            replace h24 := h24.keep hk_
            clear hk_ ho ho1 ho2 ho3 hown0 hown1 hgrow hat hlt_ Blls
            by_cases q25 : nthQ A j = x
            · obtain rfl : b21 = true := by rw [Hb21.out]; exact decide_eq_true q25
              have q25H := Lib.hid q25
              clear q25
              go_wp2
              go_roundw
              case rel => exact ⟨j + 1, by omega, by go_num, (congrArg _ (anK_T2 q25H.out)), hs, Bls, Blc, Blx, Blk, Blv, Blk5, Bly, h3, h4, h5, h6, h7, h12, h14, (by rw [mvK_next (show j < A.length by omega)]; exact Omv)⟩
              all_goals first | (simp [intOf]; done) | (simp [intOf]; omega)
            · obtain rfl : b21 = false := by rw [Hb21.out]; exact decide_eq_false q25
              have q25H := Lib.hid q25
              clear q25
              go_wp2
              go_roundw
              case rel => exact ⟨j + 1, by omega, by go_num, (congrArg _ (anK_F q20H.out q25H.out)), hs, Bls, Blc, Blx, Blk, Blv, Blk5, Bly, h3, h4, h5, h6, h7, h12, h14, (by rw [mvK_next (show j < A.length by omega)]; exact Omv)⟩
              all_goals first | (simp [intOf]; done) | (simp [intOf]; omega)
        · have q17d : ((j : Int) < (A.length : Int)) = False := eq_false (by omega)
          obtain rfl : j = A.length := by omega
          have hM := Omv.rows
          clear Omv lmv
          have hA1 := rowsJ PC.kept _ _ _ FhA1.out hs
          replace hs := bStep HB0_15.out hs
          obtain ⟨aM, kM, rfl, hM1, hM2, -⟩ := hM.toI.slice
          have cs_0 : wr.cell? ⟨w4.heap.size, 0, none⟩ = some (.bool sh3) := Bls.at 0 rfl
          have cs_1 : wr.cell? ⟨w4.heap.size, 1, none⟩ = some (.slice ah3 nh3 ch3) := Bls.at 1 rfl
          have cs_2 : wr.cell? ⟨w4.heap.size, 2, none⟩ = some (.slice Ah3 Nh3 Ch3) := Bls.at 2 rfl
          have Ls : w4.heap.size < wr.heap.size := Bls.lt
          have cc_0 : wr.cell? ⟨w4.heap.size + 1, 0, none⟩ = some (.bool sh4) := Blc.at 0 rfl
          have cc_1 : wr.cell? ⟨w4.heap.size + 1, 1, none⟩ = some (.slice ah4 nh4 ch4) := Blc.at 1 rfl
          have cc_2 : wr.cell? ⟨w4.heap.size + 1, 2, none⟩ = some (.slice Ah4 Nh4 Ch4) := Blc.at 2 rfl
          have Lc : w4.heap.size + 1 < wr.heap.size := Blc.lt
          go_wp2_with fail
          clear cs_0 cs_1 cs_2 cc_0 cc_1 cc_2 Ls Lc
          with_reducible refine (al_Limit_of _ hM h3 su h4 sc HLM.out).mono ?_
          rintro e w58 ⟨_, rfl, h18, hb⟩
          obtain ⟨sh18, ah18, nh18, ch18, Ah18, Nh18, Ch18, rfl⟩ := h18.shape
          replace hs := bStep hs hb
          replace Bls := Bls.mono hb
          replace Blc := Blc.mono hb
          replace Blx := Blx.mono hb
          replace Blk := Blk.mono hb
          replace Blv := Blv.mono hb
          replace Blk5 := Blk5.mono hb
          replace Bly := Bly.mono hb
          replace h3 := h3.mono hb
          replace h4 := h4.mono hb
          replace h5 := h5.mono hb
          replace h6 := h6.mono hb
          replace h7 := h7.mono hb
          replace h12 := h12.mono hb
          replace h14 := h14.mono hb
          replace hA1 := rowsJ PC.kept _ _ _ hA1 hb
          replace hM := rowsJ PC.kept _ _ _ hM hb
          clear hb
          clear hM
          go_wp2_with fail
          refine Calls.abs ?_
          intro w59 hW
          have hG : Gr [] w58 w59 := by rw [hW]; exact (Gr.refl _ _).alloc
          have hbw : Below w.heap.size w58 w59 := hG.below0 hs.size
          have hk : KeepD w58 w59 := hG.keep True.intro
          have sz_w59 : w.heap.size ≤ w58.heap.size := hs.size
          have ns_w59 : w4.heap.size < w58.heap.size := Bls.lt
          have nc_w59 : w4.heap.size + 1 < w58.heap.size := Blc.lt
          have nx_w59 : w6.heap.size < w58.heap.size := Blx.lt
          have nk_w59 : w8.heap.size < w58.heap.size := Blk.lt
          have nv_w59 : w8.heap.size + 1 < w58.heap.size := Blv.lt
          have nk5_w59 : w33.heap.size < w58.heap.size := Blk5.lt
          have ny_w59 : w36.heap.size < w58.heap.size := Bly.lt
          have nhA1_w59 : bhA1 < w58.heap.size := hA1.lt (by omega)
          have Blz : Bx w59 (w58.heap.size) 29 #[.bool sh18, .slice ah18 nh18 ch18, .slice Ah18 Nh18 Ch18] := by rw [hW]; exact (Bx.new0 _ _ _)
          replace hs := hs.trans hbw
          replace hA1 := rowsJ PC.kept _ _ _ hA1 (hG.below0 (Nat.le_refl _))
          replace Bls := hG.bx Bls notMem0
          replace Blc := hG.bx Blc notMem0
          replace Blx := hG.bx Blx notMem0
          replace Blk := hG.bx Blk notMem0
          replace Blv := hG.bx Blv notMem0
          replace Blk5 := hG.bx Blk5 notMem0
          replace Bly := hG.bx Bly notMem0
          replace h3 := h3.keep hk
          replace h4 := h4.keep hk
          replace h5 := h5.keep hk
          replace h6 := h6.keep hk
          replace h7 := h7.keep hk
          replace h12 := h12.keep hk
          replace h14 := h14.keep hk
          replace h18 := h18.keep hk
          clear hW hG hk hbw
          have hz_w59 : w58.heap.size < w59.heap.size := Blz.lt
          have nc_gw_s : w4.heap.size < w59.heap.size := Bls.lt
          have nc_gw_c : w4.heap.size + 1 < w59.heap.size := Blc.lt
          have nc_gw_x : w6.heap.size < w59.heap.size := Blx.lt
          have nc_gw_k : w8.heap.size < w59.heap.size := Blk.lt
          have nc_gw_v : w8.heap.size + 1 < w59.heap.size := Blv.lt
          have nc_gw_k5 : w33.heap.size < w59.heap.size := Blk5.lt
          have nc_gw_y : w36.heap.size < w59.heap.size := Bly.lt
          have nc_gw_z : w58.heap.size < w59.heap.size := Blz.lt
          have nc_gw_hA1 : bhA1 < w59.heap.size := hA1.lt (by omega)
          with_reducible refine (sl_CloneQ _ hA1 g1 (by omega)).mono ?_
          rintro e w60 ⟨vgw, rfl, Ogw, hb⟩
          obtain ⟨ggw, cgw, rfl, gbgw, -, -⟩ := Ogw.openG (by omega)
          have Vgw : OwnG w.heap.size 29 3 PC cgw w60 ggw A := Ogw.base hs.size
          clear Ogw
          have Lv_gw : ggw < w60.heap.size := Vgw.lt
          replace hs := bStep hs hb
          replace Bls := Bls.mono hb
          replace Blc := Blc.mono hb
          replace Blx := Blx.mono hb
          replace Blk := Blk.mono hb
          replace Blv := Blv.mono hb
          replace Blk5 := Blk5.mono hb
          replace Bly := Bly.mono hb
          replace Blz := Blz.mono hb
          replace h3 := h3.mono hb
          replace h4 := h4.mono hb
          replace h5 := h5.mono hb
          replace h6 := h6.mono hb
          replace h7 := h7.mono hb
          replace h12 := h12.mono hb
          replace h14 := h14.mono hb
          replace h18 := h18.mono hb
          replace hA1 := rowsJ PC.kept _ _ _ hA1 hb
          clear hb
          go_upto_region 31 with fail
          simp only [HII.out]
          go_upto_region 31 with fail
          have BI19a : ii < A.length := by omega
          have BI19b : ((ii : Int) : Int) < (A.length : Int) := by omega
          obtain ⟨ge20, ae20, ne20, ce20, Ae20, Ne20, De20, Ee200, Ee201, Ee202, he20, le20⟩ := ownP_at Vgw (show ii < A.length by omega)
          refine U_region (S := fun w' => w'.cell? ⟨ggw, ii * 3, none⟩ = some (.bool ge20) ∧ w'.cell? ⟨ggw, ii * 3 + 1, none⟩ = some (.slice ae20 ne20 ce20) ∧ w'.cell? ⟨ggw, ii * 3 + 2, none⟩ = some (.slice Ae20 Ne20 De20)) (by kernel_rfl) 11 ?_
          refine AnyU.abs ?_
          intro w61 hW
          have hb : Below w60.heap.size w60 w61 := by rw [hW]; exact bDrew _
          replace hs := bStep hs hb
          replace Bls := Bls.mono hb
          replace Blc := Blc.mono hb
          replace Blx := Blx.mono hb
          replace Blk := Blk.mono hb
          replace Blv := Blv.mono hb
          replace Blk5 := Blk5.mono hb
          replace Bly := Bly.mono hb
          replace Blz := Blz.mono hb
          replace h3 := h3.mono hb
          replace h4 := h4.mono hb
          replace h5 := h5.mono hb
          replace h6 := h6.mono hb
          replace h7 := h7.mono hb
          replace h12 := h12.mono hb
          replace h14 := h14.mono hb
          replace h18 := h18.mono hb
          replace he20 := he20.mono hb
          replace hA1 := rowsJ PC.kept _ _ _ hA1 hb
          replace Vgw := OwnG.mono PC.kept Vgw hb
          replace Ee200 := cellK Ee200 hb
          replace Ee201 := cellK Ee201 hb
          replace Ee202 := cellK Ee202 hb
          clear hb hW
          have hH := (show w61.cell? ⟨ggw, ii * 3, none⟩ = some (.bool ge20) ∧ w61.cell? ⟨ggw, ii * 3 + 1, none⟩ = some (.slice ae20 ne20 ce20) ∧ w61.cell? ⟨ggw, ii * 3 + 2, none⟩ = some (.slice Ae20 Ne20 De20) from ⟨Ee200, Ee201, Ee202⟩)
          refine U_tt 0 ?_ ?_ hH ?_
          rotate_left
          · (intro w hSw; (try dsimp only at hSw); go_simp; try with_reducible rfl)
          try simp only [LY]
          refine U_tt 1 ?_ ?_ hH ?_
          rotate_left
          · (intro w hSw; (try dsimp only at hSw); go_simp; try with_reducible rfl)
          try simp only [LY]
          refine U_tt 2 ?_ ?_ hH ?_
          rotate_left
          · (intro w hSw; (try dsimp only at hSw); go_simp; try with_reducible rfl)
          try simp only [LY]
          refine U_tt 3 ?_ ?_ hH ?_
          rotate_left
          · (intro w hSw; (try dsimp only at hSw); go_simp; try with_reducible rfl)
          try simp only [LY]
          refine U_tt 4 ?_ ?_ hH ?_
          rotate_left
          · (intro w hSw; (try dsimp only at hSw); go_simp; try with_reducible rfl)
          try simp only [LY]
          refine U_tt 5 ?_ ?_ hH ?_
          rotate_left
          · (intro w hSw; (try dsimp only at hSw); go_simp; try with_reducible rfl)
          try simp only [LY]
          refine U_tt 6 ?_ ?_ hH ?_
          rotate_left
          · (intro w hSw; (try dsimp only at hSw); go_simp; try with_reducible rfl)
          try simp only [LY]
          refine U_tt 7 ?_ ?_ hH ?_
          rotate_left
          · (intro w hSw; (try dsimp only at hSw); go_simp; try with_reducible rfl)
          try simp only [LY]
          clear hH
          refine U_one (i := 8) (by kernel_rfl) rfl (fun K hK => ?_)
          go_simp
          (with_reducible refine (p_Int_w (n := mo) _ HMO.out (by omega) (by omega)).mono ?_)
          rintro e w62 ⟨_, rfl, h21, hb⟩
          obtain ⟨sh21, ah21, nh21, ch21, Ah21, Nh21, Ch21, rfl⟩ := h21.shape
          replace hs := bStep hs hb
          replace Bls := Bls.mono hb
          replace Blc := Blc.mono hb
          replace Blx := Blx.mono hb
          replace Blk := Blk.mono hb
          replace Blv := Blv.mono hb
          replace Blk5 := Blk5.mono hb
          replace Bly := Bly.mono hb
          replace Blz := Blz.mono hb
          replace h3 := h3.mono hb
          replace h4 := h4.mono hb
          replace h5 := h5.mono hb
          replace h6 := h6.mono hb
          replace h7 := h7.mono hb
          replace h12 := h12.mono hb
          replace h14 := h14.mono hb
          replace h18 := h18.mono hb
          replace he20 := he20.mono hb
          replace hA1 := rowsJ PC.kept _ _ _ hA1 hb
          replace Vgw := OwnG.mono PC.kept Vgw hb
          replace Ee200 := cellK Ee200 hb
          replace Ee201 := cellK Ee201 hb
          replace Ee202 := cellK Ee202 hb
          clear hb
          try go_wp2_with fail
          refine hK.out _ _ ⟨Ee200, Ee201, Ee202⟩ (fun hH => ?_)
          clear hK K
          try simp only [LY]
          clear hH
          refine U_one (i := 9) (by kernel_rfl) rfl (fun K hK => ?_)
          go_simp
          (with_reducible refine (pAdd he20 h21 (SzQ.fit (HAZ1.out ii (by omega))) (SzQ.fit sn)).mono ?_)
          rintro e w63 ⟨_, rfl, h22, hb⟩
          obtain ⟨sh22, ah22, nh22, ch22, Ah22, Nh22, Ch22, rfl⟩ := h22.shape
          replace hs := bStep hs hb
          replace Bls := Bls.mono hb
          replace Blc := Blc.mono hb
          replace Blx := Blx.mono hb
          replace Blk := Blk.mono hb
          replace Blv := Blv.mono hb
          replace Blk5 := Blk5.mono hb
          replace Bly := Bly.mono hb
          replace Blz := Blz.mono hb
          replace h3 := h3.mono hb
          replace h4 := h4.mono hb
          replace h5 := h5.mono hb
          replace h6 := h6.mono hb
          replace h7 := h7.mono hb
          replace h12 := h12.mono hb
          replace h14 := h14.mono hb
          replace h18 := h18.mono hb
          replace he20 := he20.mono hb
          replace h21 := h21.mono hb
          replace hA1 := rowsJ PC.kept _ _ _ hA1 hb
          replace Vgw := OwnG.mono PC.kept Vgw hb
          replace Ee200 := cellK Ee200 hb
          replace Ee201 := cellK Ee201 hb
          replace Ee202 := cellK Ee202 hb
          clear hb
          try go_wp2_with fail
          refine hK.out _ _ ⟨Ee200, Ee201, Ee202⟩ (fun hH => ?_)
          clear hK K
          try simp only [LY]
          refine U_tt 10 ?_ ?_ hH ?_
          rotate_left
          · (intro w hSw; (try dsimp only at hSw); go_simp; try with_reducible rfl)
          try simp only [LY]
          clear hH
          have fVgw := Vgw.free
          have LVgw : ggw < w63.heap.size := Vgw.lt
          refine U_last (by kernel_rfl) rfl (by kernel_rfl) (fun K hK => ?_)
          go_simp
          refine hK.out _ _ ?_
          clear hK K
          intro w64 hW
          have hG : Gr [ggw] w63 w64 := by rw [hW]; exact (Gr.refl _ _).set.set.set
          have hsz := hs.size
          have hbw : Below w.heap.size w63 w64 := hG.below1 hs.size (by first | omega | assumption)
          have hk : KeepD w63 w64 := hG.keep ⟨⟨_, Vgw.ty, by decide⟩, True.intro⟩
          have V1gw : OwnG w.heap.size 29 3 PC cgw w64 (ggw) (A.set ii (nthQ A ii + n)) := by rw [hW]; exact Vgw.put3 PC.kept (show ii < A.length by omega) (by decide) ⟨_, _, _, rfl, h22⟩ ((Gr.refl _ _))
          replace hs := hs.trans hbw
          replace hA1 := hA1.gr PC.kept hG (notMem1 (by omega)) hk
          replace Bls := hG.bx Bls (notMem1 (by omega))
          replace Blc := hG.bx Blc (notMem1 (by omega))
          replace Blx := hG.bx Blx (notMem1 (by omega))
          replace Blk := hG.bx Blk (notMem1 (by omega))
          replace Blv := hG.bx Blv (notMem1 (by omega))
          replace Blk5 := hG.bx Blk5 (notMem1 (by omega))
          replace Bly := hG.bx Bly (notMem1 (by omega))
          replace Blz := hG.bx Blz (notMem1 (by omega))
          replace Vgw := V1gw
          clear V1gw
          replace h3 := h3.keep hk
          replace h4 := h4.keep hk
          replace h5 := h5.keep hk
          replace h6 := h6.keep hk
          replace h7 := h7.keep hk
          replace h12 := h12.keep hk
          replace h14 := h14.keep hk
          replace h18 := h18.keep hk
          replace he20 := he20.keep hk
          replace h21 := h21.keep hk
          replace h22 := h22.keep hk
          clear hW hG hk hbw hsz
          try simp only [LY]
          clear Ee200 Ee201 Ee202
          have cs_0 : w64.cell? ⟨w4.heap.size, 0, none⟩ = some (.bool sh3) := Bls.at 0 rfl
          have cs_1 : w64.cell? ⟨w4.heap.size, 1, none⟩ = some (.slice ah3 nh3 ch3) := Bls.at 1 rfl
          have cs_2 : w64.cell? ⟨w4.heap.size, 2, none⟩ = some (.slice Ah3 Nh3 Ch3) := Bls.at 2 rfl
          have Ls : w4.heap.size < w64.heap.size := Bls.lt
          have cc_0 : w64.cell? ⟨w4.heap.size + 1, 0, none⟩ = some (.bool sh4) := Blc.at 0 rfl
          have cc_1 : w64.cell? ⟨w4.heap.size + 1, 1, none⟩ = some (.slice ah4 nh4 ch4) := Blc.at 1 rfl
          have cc_2 : w64.cell? ⟨w4.heap.size + 1, 2, none⟩ = some (.slice Ah4 Nh4 Ch4) := Blc.at 2 rfl
          have Lc : w4.heap.size + 1 < w64.heap.size := Blc.lt
          go_wp2_with fail
          clear cs_0 cs_1 cs_2 cc_0 cc_1 cc_2 Ls Lc
          with_reducible refine (al_Limit_of _ (by have h := Vgw.rows; rw [List.length_set] at h; exact h) h3 su h4 sc HLG.out).mono ?_
          rintro e w65 ⟨_, rfl, h23, hb⟩
          obtain ⟨sh23, ah23, nh23, ch23, Ah23, Nh23, Ch23, rfl⟩ := h23.shape
          replace hs := bStep hs hb
          replace Bls := Bls.mono hb
          replace Blc := Blc.mono hb
          replace Blx := Blx.mono hb
          replace Blk := Blk.mono hb
          replace Blv := Blv.mono hb
          replace Blk5 := Blk5.mono hb
          replace Bly := Bly.mono hb
          replace Blz := Blz.mono hb
          replace h3 := h3.mono hb
          replace h4 := h4.mono hb
          replace h5 := h5.mono hb
          replace h6 := h6.mono hb
          replace h7 := h7.mono hb
          replace h12 := h12.mono hb
          replace h14 := h14.mono hb
          replace h18 := h18.mono hb
          replace he20 := he20.mono hb
          replace h21 := h21.mono hb
          replace h22 := h22.mono hb
          replace hA1 := rowsJ PC.kept _ _ _ hA1 hb
          replace Vgw := OwnG.mono PC.kept Vgw hb
          clear hb
          go_upto_region 33 with fail
          have nv24 : ggw < w65.heap.size := Vgw.lt
          refine Code.abs ?_
          intro w66 hW
          have hG : Gr [] w65 w66 := by rw [hW]; exact (Gr.refl _ _).alloc
          have hbw : Below w.heap.size w65 w66 := hG.below0 hs.size
          have hk : KeepD w65 w66 := hG.keep True.intro
          have sz_w66 : w.heap.size ≤ w65.heap.size := hs.size
          have ns_w66 : w4.heap.size < w65.heap.size := Bls.lt
          have nc_w66 : w4.heap.size + 1 < w65.heap.size := Blc.lt
          have nx_w66 : w6.heap.size < w65.heap.size := Blx.lt
          have nk_w66 : w8.heap.size < w65.heap.size := Blk.lt
          have nv_w66 : w8.heap.size + 1 < w65.heap.size := Blv.lt
          have nk5_w66 : w33.heap.size < w65.heap.size := Blk5.lt
          have ny_w66 : w36.heap.size < w65.heap.size := Bly.lt
          have nz_w66 : w58.heap.size < w65.heap.size := Blz.lt
          have nhA1_w66 : bhA1 < w65.heap.size := hA1.lt (by omega)
          have Blw : Bx w66 (w65.heap.size) 29 #[.bool sh23, .slice ah23 nh23 ch23, .slice Ah23 Nh23 Ch23] := by rw [hW]; exact (Bx.new0 _ _ _)
          replace hs := hs.trans hbw
          replace hA1 := rowsJ PC.kept _ _ _ hA1 (hG.below0 (Nat.le_refl _))
          replace Vgw := OwnG.mono PC.kept Vgw (hG.below0 (Nat.le_refl _))
          replace Bls := hG.bx Bls notMem0
          replace Blc := hG.bx Blc notMem0
          replace Blx := hG.bx Blx notMem0
          replace Blk := hG.bx Blk notMem0
          replace Blv := hG.bx Blv notMem0
          replace Blk5 := hG.bx Blk5 notMem0
          replace Bly := hG.bx Bly notMem0
          replace Blz := hG.bx Blz notMem0
          replace h3 := h3.keep hk
          replace h4 := h4.keep hk
          replace h5 := h5.keep hk
          replace h6 := h6.keep hk
          replace h7 := h7.keep hk
          replace h12 := h12.keep hk
          replace h14 := h14.keep hk
          replace h18 := h18.keep hk
          replace he20 := he20.keep hk
          replace h21 := h21.keep hk
          replace h22 := h22.keep hk
          replace h23 := h23.keep hk
          clear hW hG hk hbw
          have hz_w66 : w65.heap.size < w66.heap.size := Blw.lt
          have q25 : anK A x A.length = true := HAN.out
          obtain rfl : b16 = true := by rw [Hb16.out]; exact q25
          have q25H := Lib.hid q25
          clear q25
          obtain ⟨b26, Hb26⟩ : ∃ b : Bool, b = decide (x = x) := ⟨_, rfl⟩
          replace Hb26 := Lib.hid Hb26
          have q27 : x = x := rfl
          obtain rfl : b26 = true := by rw [Hb26.out]; exact decide_eq_true q27
          have q27H := Lib.hid q27
          clear q27
          obtain ⟨b31, Hb31⟩ : ∃ b : Bool, b = decide (z = (x * t) + yb) := ⟨_, rfl⟩
          replace Hb31 := Lib.hid Hb31
          have q32 : z = (x * t) + yb := HZE.out
          obtain rfl : b31 = true := by rw [Hb31.out]; exact decide_eq_true q32
          have q32H := Lib.hid q32
          clear q32
          obtain ⟨sg33, Hsg33⟩ : ∃ s : Int, s = sgQ (g - x) := ⟨_, rfl⟩
          replace Hsg33 := Lib.hid Hsg33
          have q34 : x ≤ g := HGE.out
          have q34_ : 0 ≤ sg33 := by have h := sq_ge g x; rw [← Hsg33.out] at h; exact h.2 q34
          have q34H := Lib.hid q34
          clear q34
          have q34d : decide (0 ≤ sg33) = true := decide_eq_true q34_
          refine U_region (S := fun w' => w'.cell? ⟨w36.heap.size, 0, none⟩ = some (.bool sh14) ∧ w'.cell? ⟨w36.heap.size, 1, none⟩ = some (.slice ah14 nh14 ch14) ∧ w'.cell? ⟨w36.heap.size, 2, none⟩ = some (.slice Ah14 Nh14 Ch14) ∧ w'.cell? ⟨w6.heap.size, 0, none⟩ = some (.bool sh5) ∧ w'.cell? ⟨w6.heap.size, 1, none⟩ = some (.slice ah5 nh5 ch5) ∧ w'.cell? ⟨w6.heap.size, 2, none⟩ = some (.slice Ah5 Nh5 Ch5) ∧ w'.cell? ⟨w58.heap.size, 0, none⟩ = some (.bool sh18) ∧ w'.cell? ⟨w58.heap.size, 1, none⟩ = some (.slice ah18 nh18 ch18) ∧ w'.cell? ⟨w58.heap.size, 2, none⟩ = some (.slice Ah18 Nh18 Ch18) ∧ w'.cell? ⟨w33.heap.size, 0, none⟩ = some (.bool sh12) ∧ w'.cell? ⟨w33.heap.size, 1, none⟩ = some (.slice ah12 nh12 ch12) ∧ w'.cell? ⟨w33.heap.size, 2, none⟩ = some (.slice Ah12 Nh12 Ch12) ∧ w'.cell? ⟨w65.heap.size, 0, none⟩ = some (.bool sh23) ∧ w'.cell? ⟨w65.heap.size, 1, none⟩ = some (.slice ah23 nh23 ch23) ∧ w'.cell? ⟨w65.heap.size, 2, none⟩ = some (.slice Ah23 Nh23 Ch23)) (by kernel_rfl) 36 ?_
          refine AnyU.abs ?_
          intro w67 hW
          have hb : Below w66.heap.size w66 w67 := by rw [hW]; exact bDrew _
          replace hs := bStep hs hb
          replace Bls := Bls.mono hb
          replace Blc := Blc.mono hb
          replace Blx := Blx.mono hb
          replace Blk := Blk.mono hb
          replace Blv := Blv.mono hb
          replace Blk5 := Blk5.mono hb
          replace Bly := Bly.mono hb
          replace Blz := Blz.mono hb
          replace Blw := Blw.mono hb
          replace h3 := h3.mono hb
          replace h4 := h4.mono hb
          replace h5 := h5.mono hb
          replace h6 := h6.mono hb
          replace h7 := h7.mono hb
          replace h12 := h12.mono hb
          replace h14 := h14.mono hb
          replace h18 := h18.mono hb
          replace he20 := he20.mono hb
          replace h21 := h21.mono hb
          replace h22 := h22.mono hb
          replace h23 := h23.mono hb
          replace hA1 := rowsJ PC.kept _ _ _ hA1 hb
          replace Vgw := OwnG.mono PC.kept Vgw hb
          clear hb hW
          have cy_0 : w67.cell? ⟨w36.heap.size, 0, none⟩ = some (.bool sh14) := Bly.at 0 rfl
          have cy_1 : w67.cell? ⟨w36.heap.size, 1, none⟩ = some (.slice ah14 nh14 ch14) := Bly.at 1 rfl
          have cy_2 : w67.cell? ⟨w36.heap.size, 2, none⟩ = some (.slice Ah14 Nh14 Ch14) := Bly.at 2 rfl
          have cx_0 : w67.cell? ⟨w6.heap.size, 0, none⟩ = some (.bool sh5) := Blx.at 0 rfl
          have cx_1 : w67.cell? ⟨w6.heap.size, 1, none⟩ = some (.slice ah5 nh5 ch5) := Blx.at 1 rfl
          have cx_2 : w67.cell? ⟨w6.heap.size, 2, none⟩ = some (.slice Ah5 Nh5 Ch5) := Blx.at 2 rfl
          have cz_0 : w67.cell? ⟨w58.heap.size, 0, none⟩ = some (.bool sh18) := Blz.at 0 rfl
          have cz_1 : w67.cell? ⟨w58.heap.size, 1, none⟩ = some (.slice ah18 nh18 ch18) := Blz.at 1 rfl
          have cz_2 : w67.cell? ⟨w58.heap.size, 2, none⟩ = some (.slice Ah18 Nh18 Ch18) := Blz.at 2 rfl
          have ck5_0 : w67.cell? ⟨w33.heap.size, 0, none⟩ = some (.bool sh12) := Blk5.at 0 rfl
          have ck5_1 : w67.cell? ⟨w33.heap.size, 1, none⟩ = some (.slice ah12 nh12 ch12) := Blk5.at 1 rfl
          have ck5_2 : w67.cell? ⟨w33.heap.size, 2, none⟩ = some (.slice Ah12 Nh12 Ch12) := Blk5.at 2 rfl
          have cw_0 : w67.cell? ⟨w65.heap.size, 0, none⟩ = some (.bool sh23) := Blw.at 0 rfl
          have cw_1 : w67.cell? ⟨w65.heap.size, 1, none⟩ = some (.slice ah23 nh23 ch23) := Blw.at 1 rfl
          have cw_2 : w67.cell? ⟨w65.heap.size, 2, none⟩ = some (.slice Ah23 Nh23 Ch23) := Blw.at 2 rfl
          have hH := (show w67.cell? ⟨w36.heap.size, 0, none⟩ = some (.bool sh14) ∧ w67.cell? ⟨w36.heap.size, 1, none⟩ = some (.slice ah14 nh14 ch14) ∧ w67.cell? ⟨w36.heap.size, 2, none⟩ = some (.slice Ah14 Nh14 Ch14) ∧ w67.cell? ⟨w6.heap.size, 0, none⟩ = some (.bool sh5) ∧ w67.cell? ⟨w6.heap.size, 1, none⟩ = some (.slice ah5 nh5 ch5) ∧ w67.cell? ⟨w6.heap.size, 2, none⟩ = some (.slice Ah5 Nh5 Ch5) ∧ w67.cell? ⟨w58.heap.size, 0, none⟩ = some (.bool sh18) ∧ w67.cell? ⟨w58.heap.size, 1, none⟩ = some (.slice ah18 nh18 ch18) ∧ w67.cell? ⟨w58.heap.size, 2, none⟩ = some (.slice Ah18 Nh18 Ch18) ∧ w67.cell? ⟨w33.heap.size, 0, none⟩ = some (.bool sh12) ∧ w67.cell? ⟨w33.heap.size, 1, none⟩ = some (.slice ah12 nh12 ch12) ∧ w67.cell? ⟨w33.heap.size, 2, none⟩ = some (.slice Ah12 Nh12 Ch12) ∧ w67.cell? ⟨w65.heap.size, 0, none⟩ = some (.bool sh23) ∧ w67.cell? ⟨w65.heap.size, 1, none⟩ = some (.slice ah23 nh23 ch23) ∧ w67.cell? ⟨w65.heap.size, 2, none⟩ = some (.slice Ah23 Nh23 Ch23) from ⟨cy_0, cy_1, cy_2, cx_0, cx_1, cx_2, cz_0, cz_1, cz_2, ck5_0, ck5_1, ck5_2, cw_0, cw_1, cw_2⟩)
          refine U_tk 0 171 ?_ ?_ hH ?_
          rotate_left
          · (intro w hSw; (try dsimp only at hSw); go_simp; try with_reducible rfl)
          simp only [LY]
          refine U_tk 1 172 ?_ ?_ hH ?_
          rotate_left
          · (intro w hSw; (try dsimp only at hSw); go_simp; try with_reducible rfl)
          simp only [LY]
          refine U_tk 2 173 ?_ ?_ hH ?_
          rotate_left
          · (intro w hSw; (try dsimp only at hSw); go_simp; try with_reducible rfl)
          simp only [LY]
          refine U_tk 3 174 ?_ ?_ hH ?_
          rotate_left
          · (intro w hSw; (try dsimp only at hSw); go_simp; try with_reducible rfl)
          simp only [LY]
          refine U_tk 4 175 ?_ ?_ hH ?_
          rotate_left
          · (intro w hSw; (try dsimp only at hSw); go_simp; try with_reducible rfl)
          simp only [LY]
          refine U_tk 5 176 ?_ ?_ hH ?_
          rotate_left
          · (intro w hSw; (try dsimp only at hSw); go_simp; try with_reducible rfl)
          simp only [LY]
          refine U_tk 6 177 ?_ ?_ hH ?_
          rotate_left
          · (intro w hSw; (try dsimp only at hSw); go_simp; try with_reducible rfl)
          simp only [LY]
          refine U_tk 7 178 ?_ ?_ hH ?_
          rotate_left
          · (intro w hSw; (try dsimp only at hSw); go_simp; try with_reducible rfl)
          simp only [LY]
          refine U_tk 8 179 ?_ ?_ hH ?_
          rotate_left
          · (intro w hSw; (try dsimp only at hSw); go_simp; try with_reducible rfl)
          simp only [LY]
          refine U_tk 9 180 ?_ ?_ hH ?_
          rotate_left
          · (intro w hSw; (try dsimp only at hSw); go_simp; try with_reducible rfl)
          simp only [LY]
          refine U_tk 10 181 ?_ ?_ hH ?_
          rotate_left
          · (intro w hSw; (try dsimp only at hSw); go_simp; try with_reducible rfl)
          simp only [LY]
          refine U_tk 11 182 ?_ ?_ hH ?_
          rotate_left
          · (intro w hSw; (try dsimp only at hSw); go_simp; try with_reducible rfl)
          simp only [LY]
          refine U_tk 12 183 ?_ ?_ hH ?_
          rotate_left
          · (intro w hSw; (try dsimp only at hSw); go_simp; try with_reducible rfl)
          simp only [LY]
          refine U_tk 13 184 ?_ ?_ hH ?_
          rotate_left
          · (intro w hSw; (try dsimp only at hSw); go_simp; try with_reducible rfl)
          simp only [LY]
          refine U_tk 14 185 ?_ ?_ hH ?_
          rotate_left
          · (intro w hSw; (try dsimp only at hSw); go_simp; try with_reducible rfl)
          simp only [LY]
          refine U_tk 15 186 ?_ ?_ hH ?_
          rotate_left
          · (intro w hSw; (try dsimp only at hSw); go_simp; try with_reducible rfl)
          simp only [LY]
          clear hH
          refine U_one (i := 16) (by kernel_rfl) rfl (fun K hK => ?_)
          go_simp
          (with_reducible refine (p_Same_calls _ _ _ _ _ h14 h5).mono ?_)
          rintro e w68 ⟨rfl, hb⟩
          replace hs := bStep hs hb
          replace Bls := Bls.mono hb
          replace Blc := Blc.mono hb
          replace Blx := Blx.mono hb
          replace Blk := Blk.mono hb
          replace Blv := Blv.mono hb
          replace Blk5 := Blk5.mono hb
          replace Bly := Bly.mono hb
          replace Blz := Blz.mono hb
          replace Blw := Blw.mono hb
          replace h3 := h3.mono hb
          replace h4 := h4.mono hb
          replace h5 := h5.mono hb
          replace h6 := h6.mono hb
          replace h7 := h7.mono hb
          replace h12 := h12.mono hb
          replace h14 := h14.mono hb
          replace h18 := h18.mono hb
          replace he20 := he20.mono hb
          replace h21 := h21.mono hb
          replace h22 := h22.mono hb
          replace h23 := h23.mono hb
          replace hA1 := rowsJ PC.kept _ _ _ hA1 hb
          replace Vgw := OwnG.mono PC.kept Vgw hb
          replace cy_0 := cellK cy_0 hb
          replace cy_1 := cellK cy_1 hb
          replace cy_2 := cellK cy_2 hb
          replace cx_0 := cellK cx_0 hb
          replace cx_1 := cellK cx_1 hb
          replace cx_2 := cellK cx_2 hb
          replace cz_0 := cellK cz_0 hb
          replace cz_1 := cellK cz_1 hb
          replace cz_2 := cellK cz_2 hb
          replace ck5_0 := cellK ck5_0 hb
          replace ck5_1 := cellK ck5_1 hb
          replace ck5_2 := cellK ck5_2 hb
          replace cw_0 := cellK cw_0 hb
          replace cw_1 := cellK cw_1 hb
          replace cw_2 := cellK cw_2 hb
          clear hb
          rw [← Hb26.out]
          try go_wp2_with fail
          refine hK.out _ _ ⟨cy_0, cy_1, cy_2, cx_0, cx_1, cx_2, cz_0, cz_1, cz_2, ck5_0, ck5_1, ck5_2, cw_0, cw_1, cw_2⟩ (fun hH => ?_)
          clear hK K
          try simp only [LY]
          refine U_tk 17 188 ?_ ?_ hH ?_
          rotate_left
          · (intro w hSw; (try dsimp only at hSw); go_simp; try with_reducible rfl)
          simp only [LY]
          refine U_tk 18 189 ?_ ?_ hH ?_
          rotate_left
          · (intro w hSw; (try dsimp only at hSw); go_simp; try with_reducible rfl)
          simp only [LY]
          refine U_tk 19 190 ?_ ?_ hH ?_
          rotate_left
          · (intro w hSw; (try dsimp only at hSw); go_simp; try with_reducible rfl)
          simp only [LY]
          refine U_tk 20 191 ?_ ?_ hH ?_
          rotate_left
          · (intro w hSw; (try dsimp only at hSw); go_simp; try with_reducible rfl)
          simp only [LY]
          refine U_tk 21 192 ?_ ?_ hH ?_
          rotate_left
          · (intro w hSw; (try dsimp only at hSw); go_simp; try with_reducible rfl)
          simp only [LY]
          refine U_tk 23 194 ?_ ?_ hH ?_
          rotate_left
          · (intro w hSw; (try dsimp only at hSw); go_simp; try with_reducible rfl)
          simp only [LY]
          refine U_tk 24 195 ?_ ?_ hH ?_
          rotate_left
          · (intro w hSw; (try dsimp only at hSw); go_simp; try with_reducible rfl)
          simp only [LY]
          clear hH
          refine U_one (i := 22) (by kernel_rfl) rfl (fun K hK => ?_)
          go_simp
          (with_reducible refine (pMul h5 h12 (SzQ.fit sx) (SzQ.fit st)).mono ?_)
          rintro e w69 ⟨_, rfl, h28, hb⟩
          obtain ⟨sh28, ah28, nh28, ch28, Ah28, Nh28, Ch28, rfl⟩ := h28.shape
          replace hs := bStep hs hb
          replace Bls := Bls.mono hb
          replace Blc := Blc.mono hb
          replace Blx := Blx.mono hb
          replace Blk := Blk.mono hb
          replace Blv := Blv.mono hb
          replace Blk5 := Blk5.mono hb
          replace Bly := Bly.mono hb
          replace Blz := Blz.mono hb
          replace Blw := Blw.mono hb
          replace h3 := h3.mono hb
          replace h4 := h4.mono hb
          replace h5 := h5.mono hb
          replace h6 := h6.mono hb
          replace h7 := h7.mono hb
          replace h12 := h12.mono hb
          replace h14 := h14.mono hb
          replace h18 := h18.mono hb
          replace he20 := he20.mono hb
          replace h21 := h21.mono hb
          replace h22 := h22.mono hb
          replace h23 := h23.mono hb
          replace hA1 := rowsJ PC.kept _ _ _ hA1 hb
          replace Vgw := OwnG.mono PC.kept Vgw hb
          replace cy_0 := cellK cy_0 hb
          replace cy_1 := cellK cy_1 hb
          replace cy_2 := cellK cy_2 hb
          replace cx_0 := cellK cx_0 hb
          replace cx_1 := cellK cx_1 hb
          replace cx_2 := cellK cx_2 hb
          replace cz_0 := cellK cz_0 hb
          replace cz_1 := cellK cz_1 hb
          replace cz_2 := cellK cz_2 hb
          replace ck5_0 := cellK ck5_0 hb
          replace ck5_1 := cellK ck5_1 hb
          replace ck5_2 := cellK ck5_2 hb
          replace cw_0 := cellK cw_0 hb
          replace cw_1 := cellK cw_1 hb
          replace cw_2 := cellK cw_2 hb
          clear hb
          try go_wp2_with fail
          refine hK.out _ _ ⟨cy_0, cy_1, cy_2, cx_0, cx_1, cx_2, cz_0, cz_1, cz_2, ck5_0, ck5_1, ck5_2, cw_0, cw_1, cw_2⟩ (fun hH => ?_)
          clear hK K
          try simp only [LY]
          clear hH
          refine U_one (i := 25) (by kernel_rfl) rfl (fun K hK => ?_)
          go_simp
          (with_reducible refine (p_Int_w (n := bb) _ HB.out (by omega) (by omega)).mono ?_)
          rintro e w70 ⟨_, rfl, h29, hb⟩
          obtain ⟨sh29, ah29, nh29, ch29, Ah29, Nh29, Ch29, rfl⟩ := h29.shape
          replace hs := bStep hs hb
          replace Bls := Bls.mono hb
          replace Blc := Blc.mono hb
          replace Blx := Blx.mono hb
          replace Blk := Blk.mono hb
          replace Blv := Blv.mono hb
          replace Blk5 := Blk5.mono hb
          replace Bly := Bly.mono hb
          replace Blz := Blz.mono hb
          replace Blw := Blw.mono hb
          replace h3 := h3.mono hb
          replace h4 := h4.mono hb
          replace h5 := h5.mono hb
          replace h6 := h6.mono hb
          replace h7 := h7.mono hb
          replace h12 := h12.mono hb
          replace h14 := h14.mono hb
          replace h18 := h18.mono hb
          replace he20 := he20.mono hb
          replace h21 := h21.mono hb
          replace h22 := h22.mono hb
          replace h23 := h23.mono hb
          replace h28 := h28.mono hb
          replace hA1 := rowsJ PC.kept _ _ _ hA1 hb
          replace Vgw := OwnG.mono PC.kept Vgw hb
          replace cy_0 := cellK cy_0 hb
          replace cy_1 := cellK cy_1 hb
          replace cy_2 := cellK cy_2 hb
          replace cx_0 := cellK cx_0 hb
          replace cx_1 := cellK cx_1 hb
          replace cx_2 := cellK cx_2 hb
          replace cz_0 := cellK cz_0 hb
          replace cz_1 := cellK cz_1 hb
          replace cz_2 := cellK cz_2 hb
          replace ck5_0 := cellK ck5_0 hb
          replace ck5_1 := cellK ck5_1 hb
          replace ck5_2 := cellK ck5_2 hb
          replace cw_0 := cellK cw_0 hb
          replace cw_1 := cellK cw_1 hb
          replace cw_2 := cellK cw_2 hb
          clear hb
          try go_wp2_with fail
          refine hK.out _ _ ⟨cy_0, cy_1, cy_2, cx_0, cx_1, cx_2, cz_0, cz_1, cz_2, ck5_0, ck5_1, ck5_2, cw_0, cw_1, cw_2⟩ (fun hH => ?_)
          clear hK K
          try simp only [LY]
          clear hH
          refine U_one (i := 26) (by kernel_rfl) rfl (fun K hK => ?_)
          go_simp
          (with_reducible refine (pAdd h28 h29 (SzQ.fit (SzQ.mul sx st)) (SzQ.fit sb)).mono ?_)
          rintro e w71 ⟨_, rfl, h30, hb⟩
          obtain ⟨sh30, ah30, nh30, ch30, Ah30, Nh30, Ch30, rfl⟩ := h30.shape
          replace hs := bStep hs hb
          replace Bls := Bls.mono hb
          replace Blc := Blc.mono hb
          replace Blx := Blx.mono hb
          replace Blk := Blk.mono hb
          replace Blv := Blv.mono hb
          replace Blk5 := Blk5.mono hb
          replace Bly := Bly.mono hb
          replace Blz := Blz.mono hb
          replace Blw := Blw.mono hb
          replace h3 := h3.mono hb
          replace h4 := h4.mono hb
          replace h5 := h5.mono hb
          replace h6 := h6.mono hb
          replace h7 := h7.mono hb
          replace h12 := h12.mono hb
          replace h14 := h14.mono hb
          replace h18 := h18.mono hb
          replace he20 := he20.mono hb
          replace h21 := h21.mono hb
          replace h22 := h22.mono hb
          replace h23 := h23.mono hb
          replace h28 := h28.mono hb
          replace h29 := h29.mono hb
          replace hA1 := rowsJ PC.kept _ _ _ hA1 hb
          replace Vgw := OwnG.mono PC.kept Vgw hb
          replace cy_0 := cellK cy_0 hb
          replace cy_1 := cellK cy_1 hb
          replace cy_2 := cellK cy_2 hb
          replace cx_0 := cellK cx_0 hb
          replace cx_1 := cellK cx_1 hb
          replace cx_2 := cellK cx_2 hb
          replace cz_0 := cellK cz_0 hb
          replace cz_1 := cellK cz_1 hb
          replace cz_2 := cellK cz_2 hb
          replace ck5_0 := cellK ck5_0 hb
          replace ck5_1 := cellK ck5_1 hb
          replace ck5_2 := cellK ck5_2 hb
          replace cw_0 := cellK cw_0 hb
          replace cw_1 := cellK cw_1 hb
          replace cw_2 := cellK cw_2 hb
          clear hb
          try go_wp2_with fail
          refine hK.out _ _ ⟨cy_0, cy_1, cy_2, cx_0, cx_1, cx_2, cz_0, cz_1, cz_2, ck5_0, ck5_1, ck5_2, cw_0, cw_1, cw_2⟩ (fun hH => ?_)
          clear hK K
          try simp only [LY]
          clear hH
          refine U_one (i := 27) (by kernel_rfl) rfl (fun K hK => ?_)
          go_simp
          (with_reducible refine (p_Same_calls _ _ _ _ _ h18 h30).mono ?_)
          rintro e w72 ⟨rfl, hb⟩
          replace hs := bStep hs hb
          replace Bls := Bls.mono hb
          replace Blc := Blc.mono hb
          replace Blx := Blx.mono hb
          replace Blk := Blk.mono hb
          replace Blv := Blv.mono hb
          replace Blk5 := Blk5.mono hb
          replace Bly := Bly.mono hb
          replace Blz := Blz.mono hb
          replace Blw := Blw.mono hb
          replace h3 := h3.mono hb
          replace h4 := h4.mono hb
          replace h5 := h5.mono hb
          replace h6 := h6.mono hb
          replace h7 := h7.mono hb
          replace h12 := h12.mono hb
          replace h14 := h14.mono hb
          replace h18 := h18.mono hb
          replace he20 := he20.mono hb
          replace h21 := h21.mono hb
          replace h22 := h22.mono hb
          replace h23 := h23.mono hb
          replace h28 := h28.mono hb
          replace h29 := h29.mono hb
          replace h30 := h30.mono hb
          replace hA1 := rowsJ PC.kept _ _ _ hA1 hb
          replace Vgw := OwnG.mono PC.kept Vgw hb
          replace cy_0 := cellK cy_0 hb
          replace cy_1 := cellK cy_1 hb
          replace cy_2 := cellK cy_2 hb
          replace cx_0 := cellK cx_0 hb
          replace cx_1 := cellK cx_1 hb
          replace cx_2 := cellK cx_2 hb
          replace cz_0 := cellK cz_0 hb
          replace cz_1 := cellK cz_1 hb
          replace cz_2 := cellK cz_2 hb
          replace ck5_0 := cellK ck5_0 hb
          replace ck5_1 := cellK ck5_1 hb
          replace ck5_2 := cellK ck5_2 hb
          replace cw_0 := cellK cw_0 hb
          replace cw_1 := cellK cw_1 hb
          replace cw_2 := cellK cw_2 hb
          clear hb
          rw [← Hb31.out]
          try go_wp2_with fail
          refine hK.out _ _ ⟨cy_0, cy_1, cy_2, cx_0, cx_1, cx_2, cz_0, cz_1, cz_2, ck5_0, ck5_1, ck5_2, cw_0, cw_1, cw_2⟩ (fun hH => ?_)
          clear hK K
          try simp only [LY]
          refine U_tk 28 199 ?_ ?_ hH ?_
          rotate_left
          · (intro w hSw; (try dsimp only at hSw); go_simp; try with_reducible rfl)
          simp only [LY]
          refine U_tk 29 200 ?_ ?_ hH ?_
          rotate_left
          · (intro w hSw; (try dsimp only at hSw); go_simp; try with_reducible rfl)
          simp only [LY]
          refine U_tk 30 201 ?_ ?_ hH ?_
          rotate_left
          · (intro w hSw; (try dsimp only at hSw); go_simp; try with_reducible rfl)
          simp only [LY]
          refine U_tk 31 202 ?_ ?_ hH ?_
          rotate_left
          · (intro w hSw; (try dsimp only at hSw); go_simp; try with_reducible rfl)
          simp only [LY]
          clear hH
          refine U_one (i := 32) (by kernel_rfl) rfl (fun K hK => ?_)
          go_simp
          (with_reducible refine (pCmp h23 h5 (SzQ.fit sg) (SzQ.fit sx)).mono ?_)
          rintro e w73 ⟨rfl, hb⟩
          replace hs := bStep hs hb
          replace Bls := Bls.mono hb
          replace Blc := Blc.mono hb
          replace Blx := Blx.mono hb
          replace Blk := Blk.mono hb
          replace Blv := Blv.mono hb
          replace Blk5 := Blk5.mono hb
          replace Bly := Bly.mono hb
          replace Blz := Blz.mono hb
          replace Blw := Blw.mono hb
          replace h3 := h3.mono hb
          replace h4 := h4.mono hb
          replace h5 := h5.mono hb
          replace h6 := h6.mono hb
          replace h7 := h7.mono hb
          replace h12 := h12.mono hb
          replace h14 := h14.mono hb
          replace h18 := h18.mono hb
          replace he20 := he20.mono hb
          replace h21 := h21.mono hb
          replace h22 := h22.mono hb
          replace h23 := h23.mono hb
          replace h28 := h28.mono hb
          replace h29 := h29.mono hb
          replace h30 := h30.mono hb
          replace hA1 := rowsJ PC.kept _ _ _ hA1 hb
          replace Vgw := OwnG.mono PC.kept Vgw hb
          replace cy_0 := cellK cy_0 hb
          replace cy_1 := cellK cy_1 hb
          replace cy_2 := cellK cy_2 hb
          replace cx_0 := cellK cx_0 hb
          replace cx_1 := cellK cx_1 hb
          replace cx_2 := cellK cx_2 hb
          replace cz_0 := cellK cz_0 hb
          replace cz_1 := cellK cz_1 hb
          replace cz_2 := cellK cz_2 hb
          replace ck5_0 := cellK ck5_0 hb
          replace ck5_1 := cellK ck5_1 hb
          replace ck5_2 := cellK ck5_2 hb
          replace cw_0 := cellK cw_0 hb
          replace cw_1 := cellK cw_1 hb
          replace cw_2 := cellK cw_2 hb
          clear hb
          rw [← Hsg33.out]
          try go_wp2_with fail
          refine hK.out _ _ ⟨cy_0, cy_1, cy_2, cx_0, cx_1, cx_2, cz_0, cz_1, cz_2, ck5_0, ck5_1, ck5_2, cw_0, cw_1, cw_2⟩ (fun hH => ?_)
          clear hK K
          try simp only [LY]
          refine U_tk 33 204 ?_ ?_ hH ?_
          rotate_left
          · (intro w hSw; (try dsimp only at hSw); go_simp; try with_reducible rfl)
          simp only [LY]
          refine U_tk 34 205 ?_ ?_ hH ?_
          rotate_left
          · (intro w hSw; (try dsimp only at hSw); go_simp; try with_reducible rfl)
          simp only [LY]
          refine U_tk 35 14 ?_ ?_ hH ?_
          rotate_left
          · (intro w hSw; (try dsimp only at hSw); go_simp; try with_reducible rfl)
          simp only [LY]
          clear hH
          refine U_endN (by kernel_rfl) ?_
          clear cy_0 cy_1 cy_2 cx_0 cx_1 cx_2 cz_0 cz_1 cz_2 ck5_0 ck5_1 ck5_2 cw_0 cw_1 cw_2
          go_wp2
          go_ret
          exact ⟨rfl, hs⟩

end Go.Proofs.YtmnipggjjcmjkaaGreat
