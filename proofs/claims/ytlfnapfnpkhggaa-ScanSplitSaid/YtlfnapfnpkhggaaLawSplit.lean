/-
  Law 07: ScanSplit, the main way, over awake.
-/
import Derived.Test.YtlfnapfnpkhggaaLawSplit0
import Derived.Test.YtlfnapfnpkhggaaPkHeld3
set_option linter.unusedSimpArgs false
set_option linter.unusedVariables false
namespace Go.Proofs.Ytlfnapfnpkhggaa
open Go.RowKit Dg
attribute [local go_sem ↓] Go.wp_at_zero Go.wp_at_succ

theorem p_New_eq {n d : Int} {f : Rat} (w : World) (h : (n : Rat) / (d : Rat) = f) (h1 : 0 ≤ n) (h2 : n ≤ 4294967295) (h3 : 1 ≤ d) (h4 : d ≤ 4294967295) : Calls Try.prog 10 #[.int .i64 n, .int .i64 d] w (RetPE w f 0) := by
  subst h
  exact p_New_calls n d w (by omega) (by omega) (by omega) (by omega) (by omega)
theorem p_Int_eq {n : Int} {f : Rat} (w : World) (h : (n : Rat) = f) (h1 : 0 ≤ n) (h2 : n ≤ 4294967295) : Calls Try.prog 11 #[.int .i64 n] w (RetP w f) := by
  subst h
  exact p_Int_calls n w (by omega) (by omega)

set_option maxRecDepth 100000 in
set_option maxHeartbeats 16000000 in
theorem l7_ScanSplit_ok (hAw : ∀ w : World, Calls Try.prog 7 #[] w (RetV w (.bool true))) (v : Value) (l : List DL) (b0 b1 b2 : Int) (w : World) (hl : RowsI 6 DC w v l) (hok : ∀ x ∈ l, DOk x.1 ∧ DOk x.2.1 ∧ DOk x.2.2) (p0 : 0 ≤ b0 ∧ b0 ≤ 255) (p1 : 0 ≤ b1 ∧ b1 ≤ 255) (p2 : 0 ≤ b2 ∧ b2 ≤ 255)
    (a0 : lightQ l = true) (h6 : l.length ≤ 6) (L : List Lay) (hLL : L = l.map layF) (hLl : L.length = l.length) (h2 : 2 ≤ L.length) (hp : L.all layPos = true) (hz : ∀ x ∈ L, LaySz 1 x)
    (k : Nat) (hk : k < L.length) (hkm : b0 % (L.length : Int) = k) (f c : Rat) (hf : ((1 + b1 % 9 : Int) : Rat) / ((10 : Int) : Rat) = f) (hc : ((1 + b2 : Int) : Rat) = c) (sf : SzQ 1 f) (sc : SzQ 1 c)
    (X U V : List Stp) (hX : echoQ L (L.length - 1) = X) (hU : echoQ (cutL f L k) ((cutL f L k).length - 1) = U) (hV : echoQ (loudL c L) ((loudL c L).length - 1) = V) (hXl : X.length + 1 ≤ L.length) (hXl' : L.length ≤ X.length + 1) (hUl : U.length ≤ L.length) (hUl' : L.length ≤ U.length) (hVl : V.length + 1 ≤ L.length) (hVl' : L.length ≤ V.length + 1)
    (hcl : (cutL f L k).length = L.length + 1) (hdl : (loudL c L).length = L.length) (hcp : (cutL f L k).all layPos = true) (hdp : (loudL c L).all layPos = true) (hcz : ∀ x ∈ cutL f L k, LaySz 4 x) (hdz : ∀ x ∈ loudL c L, LaySz 4 x)
    (hS : (∀ i, i + 1 < L.length → ∀ n, n = (if k ≤ i then i + 1 else i) → taQ U n = taQ X i ∧ vaQ U n = vaQ X i) ∧ (∀ i, i + 1 < L.length → vaQ V i = vaQ X i ∧ taQ V i = taQ X i) ∧ vaQ U k = 0)
    (hSX : ∀ i, i < X.length → SzQ 100000 (taQ X i) ∧ SzQ 200000 (vaQ X i)) (hSU : ∀ i, i < U.length → SzQ 100000 (taQ U i) ∧ SzQ 200000 (vaQ U i)) (hSV : ∀ i, i < V.length → SzQ 100000 (taQ V i) ∧ SzQ 200000 (vaQ V i)) :
    Calls Try.prog 3 #[v, .int .u8 b0, .int .u8 b1, .int .u8 b2] w (RetV w (.bool true)) := by
  obtain ⟨ao, cap, rfl, hc1, hc2, hc3⟩ := hl.slice
  have hs := Below.refl w.heap.size w
  obtain ⟨p00, p01⟩ := p0
  obtain ⟨p10, p11⟩ := p1
  obtain ⟨p20, p21⟩ := p2
  obtain ⟨i0, hi, hz0, hz1, hz2⟩ := info_parts layP_info
  have HAW := Lib.hid hAw
  have HL := Lib.hid hl
  have HOK := Lib.hid hok
  have HLT := Lib.hid a0
  have HLL := Lib.hid hLL
  have HP := Lib.hid hp
  have HZ := Lib.hid hz
  have HKM := Lib.hid hkm
  have HF := Lib.hid hf
  have HC := Lib.hid hc
  have HX := Lib.hid hX
  have HU := Lib.hid hU
  have HV := Lib.hid hV
  have HCP := Lib.hid hcp
  have HDP := Lib.hid hdp
  have HCZ := Lib.hid hcz
  have HDZ := Lib.hid hdz
  have HS := Lib.hid hS
  have HSX := Lib.hid hSX
  have HSU := Lib.hid hSU
  have HSV := Lib.hid hSV
  have HCL := Lib.hid hcl
  have HDL := Lib.hid hdl
  have HLEN := Lib.hid hLl
  have h6' : L.length ≤ 6 := by omega
  clear hAw hl hok a0 hLL hp hz hkm hf hc hX hU hV hcp hdp hcz hdz hS hSX hSU hSV hcl hdl hLl
  go_enter Try.func3, Try.ntmps3
  go_wp2_with fail
  with_reducible refine (l7_light _ l _ (HL.out.mono DC.kept hs)).mono ?_
  rintro e w1 ⟨rfl, hb⟩
  replace hs := bStep hs hb
  clear hb
  obtain ⟨b1, Hb1⟩ : ∃ b : Bool, b = lightQ l := ⟨_, rfl⟩
  rw [← Hb1]
  replace Hb1 := Lib.hid Hb1
  have q2 : lightQ l = true := HLT.out
  obtain rfl : b1 = true := by rw [Hb1.out]; exact q2
  have q2H := Lib.hid q2
  clear q2
  have q3 : ¬ (6 < l.length) := (by omega)
  have q3d : ((6 : Int) < (l.length : Int)) = False := eq_false (by omega)
  go_wp2_with fail
  with_reducible refine (l7_layers _ l _ (HL.out.mono DC.kept hs) (by omega) HOK.out).mono ?_
  rintro e w2 ⟨_, _, rfl, A4, _, hb⟩
  rw [← HLL.out] at A4
  obtain ⟨bA4, oA4, kA4, rfl, A41, A42, -⟩ := A4.open_ (by omega)
  replace hs := bStep hs hb
  clear hb
  go_wp2_with fail
  with_reducible refine (sc_Echoes_ok _ L 1 _ A4 (by omega) (by omega) HP.out (by omega) HZ.out).mono ?_
  rintro e w3 ⟨_, _, rfl, X5, rfl, hb⟩
  rw [HX.out] at X5
  obtain ⟨bX5, oX5, kX5, rfl, X51, X52, -⟩ := X5.open_ (by omega)
  replace hs := bStep hs hb
  replace A4 := rowsJ (C3.kept PC.kept) _ _ _ A4 hb
  clear hb
  go_wp2_with fail
  rw [HKM.out]
  with_reducible refine (p_New_eq _ HF.out (by omega) (by omega) (by decide) (by decide)).mono ?_
  rintro e w4 ⟨_, rfl, h6, hb⟩
  obtain ⟨sh6, ah6, nh6, ch6, Ah6, Nh6, Ch6, rfl⟩ := h6.shape
  replace hs := bStep hs hb
  replace A4 := rowsJ (C3.kept PC.kept) _ _ _ A4 hb
  replace X5 := rowsJ (C2.kept PC.kept) _ _ _ X5 hb
  clear hb
  go_wp2_with fail
  refine Calls.abs ?_
  intro w5 hW
  have hG : Gr [] w4 w5 := by rw [hW]; exact (Gr.refl _ _).alloc
  have hbw : Below w.heap.size w4 w5 := hG.below0 hs.size
  have hk : KeepD w4 w5 := hG.keep True.intro
  have sz_w5 : w.heap.size ≤ w4.heap.size := hs.size
  have Blpart : Bx w5 (w4.heap.size) 36 #[.bool sh6, .slice ah6 nh6 ch6, .slice Ah6 Nh6 Ch6] := by rw [hW]; exact (Bx.new0 _ _ _)
  replace hs := hs.trans hbw
  replace A4 := rowsJ (C3.kept PC.kept) _ _ _ A4 (hG.below0 (Nat.le_refl _))
  replace X5 := rowsJ (C2.kept PC.kept) _ _ _ X5 (hG.below0 (Nat.le_refl _))
  replace h6 := h6.keep hk
  clear hW hG hk hbw
  have hz_w5 : w4.heap.size < w5.heap.size := Blpart.lt
  with_reducible refine (p_Int_eq _ HC.out (by omega) (by omega)).mono ?_
  rintro e w6 ⟨_, rfl, h7, hb⟩
  obtain ⟨sh7, ah7, nh7, ch7, Ah7, Nh7, Ch7, rfl⟩ := h7.shape
  replace hs := bStep hs hb
  replace Blpart := Blpart.mono hb
  replace h6 := h6.mono hb
  replace A4 := rowsJ (C3.kept PC.kept) _ _ _ A4 hb
  replace X5 := rowsJ (C2.kept PC.kept) _ _ _ X5 hb
  clear hb
  go_wp2
  refine Code.abs ?_
  intro w7 hW
  have hG : Gr [] w6 w7 := by rw [hW]; exact (Gr.refl _ _).alloc
  have hbw : Below w.heap.size w6 w7 := hG.below0 hs.size
  have hk : KeepD w6 w7 := hG.keep True.intro
  have sz_w7 : w.heap.size ≤ w6.heap.size := hs.size
  have npart_w7 : w4.heap.size < w6.heap.size := Blpart.lt
  have Blfactor : Bx w7 (w6.heap.size) 36 #[.bool sh7, .slice ah7 nh7 ch7, .slice Ah7 Nh7 Ch7] := by rw [hW]; exact (Bx.new0 _ _ _)
  replace hs := hs.trans hbw
  replace A4 := rowsJ (C3.kept PC.kept) _ _ _ A4 (hG.below0 (Nat.le_refl _))
  replace X5 := rowsJ (C2.kept PC.kept) _ _ _ X5 (hG.below0 (Nat.le_refl _))
  replace Blpart := hG.bx Blpart notMem0
  replace h6 := h6.keep hk
  replace h7 := h7.keep hk
  clear hW hG hk hbw
  have hz_w7 : w6.heap.size < w7.heap.size := Blfactor.lt
  have HB0_8 := Lib.hid hs
  clear hs
  have hs := Below.refl w7.heap.size w7
  have FA4 := Lib.hid A4
  clear A4
  have FX5 := Lib.hid X5
  clear X5
  go_loopw [17, 18, 68] (fun s17 s18 s68 wq => ∃ j : Nat, j ≤ L.length ∧ s68 = .int .i64 j ∧ Below w7.heap.size w7 wq ∧ Bx wq (w4.heap.size) 36 #[.bool sh6, .slice ah6 nh6 ch6, .slice Ah6 Nh6 Ch6] ∧ Bx wq (w6.heap.size) 36 #[.bool sh7, .slice ah7 nh7 ch7, .slice Ah7 Nh7 Ch7] ∧ PV wq (.agg #[.bool sh6, .slice ah6 nh6 ch6, .slice Ah6 Nh6 Ch6]) (f) ∧ PV wq (.agg #[.bool sh7, .slice ah7 nh7 ch7, .slice Ah7 Nh7 Ch7]) (c) ∧ OwnR w7.heap.size 41 9 (C3 PC) wq s17 (cutJ f L k j) ∧ OwnR w7.heap.size 41 9 (C3 PC) wq s18 (loudJ c L j) ∧ (Ap2 s17.ownBlock s18.ownBlock)) (fun s17 s18 s68 _ => L.length - (intOf s68).toNat)
  case atStart => exact ⟨0, Nat.zero_le _, rfl, hs, Blpart, Blfactor, h6, h7, OwnR.nil _ _ _ _ _, OwnR.nil _ _ _ _ _, Ap2.nil _⟩
  case round =>
    clear Blpart Blfactor h6 h7 hs
    obtain ⟨j, k_le, rfl, hs, Blpart, Blfactor, h6, h7, Opc, Opl, Aq_pc_pl⟩ := hrel
    have lnc := (cutJ_len (f := f) (l := L) (k := k) j).1
    have lnl : (loudJ c L j).length ≤ j := Nat.le_of_eq (loudJ_len (c := c) (l := L) j)
    by_cases q9 : j < L.length
    · have q9d : ((j : Int) < (L.length : Int)) = True := eq_true (by omega)
      have BI10a : j < L.length := by omega
      have BI10b : ((j : Int) : Int) < (L.length : Int) := by omega
      obtain ⟨ge11a, ae11a, ne11a, ce11a, Ae11a, Ne11a, De11a, ge11b, ae11b, ne11b, ce11b, Ae11b, Ne11b, De11b, ge11c, ae11c, ne11c, ce11c, Ae11c, Ne11c, De11c, Ee110, Ee111, Ee112, Ee113, Ee114, Ee115, Ee116, Ee117, Ee118, he11a, he11b, he11c, le11⟩ := rowLP_at (rowsJ (C3.kept PC.kept) _ _ _ FA4.out hs) (show j < L.length by omega)
      go_upto_region 14 with fail
      clear le11 Ee110 Ee111 Ee112 Ee113 Ee114 Ee115 Ee116 Ee117 Ee118
      refine Code.abs ?_
      intro w28 hW
      have hG : Gr [] wr w28 := by rw [hW]; exact (Gr.refl _ _).alloc
      have hbw : Below w7.heap.size wr w28 := hG.below0 hs.size
      have hk : KeepD wr w28 := hG.keep True.intro
      have sz_w28 : w7.heap.size ≤ wr.heap.size := hs.size
      have npart_w28 : w4.heap.size < wr.heap.size := Blpart.lt
      have nfactor_w28 : w6.heap.size < wr.heap.size := Blfactor.lt
      have Bly : Bx w28 (wr.heap.size) 41 #[.bool ge11a, .slice ae11a ne11a ce11a, .slice Ae11a Ne11a De11a, .bool ge11b, .slice ae11b ne11b ce11b, .slice Ae11b Ne11b De11b, .bool ge11c, .slice ae11c ne11c ce11c, .slice Ae11c Ne11c De11c] := by rw [hW]; exact (Bx.new0 _ _ _)
      have Ap_pc_y := Opc.ap (g := wr.heap.size) (by omega)
      have Ap_pl_y := Opl.ap (g := wr.heap.size) (by omega)
      replace hs := hs.trans hbw
      replace Blpart := hG.bx Blpart notMem0
      replace Blfactor := hG.bx Blfactor notMem0
      replace h6 := h6.keep hk
      replace h7 := h7.keep hk
      replace he11a := he11a.keep hk
      replace he11b := he11b.keep hk
      replace he11c := he11c.keep hk
      replace Opc := Opc.mono (C3.kept PC.kept) (hG.below0 (Nat.le_refl _))
      replace Opl := Opl.mono (C3.kept PC.kept) (hG.below0 (Nat.le_refl _))
      clear hW hG hk hbw
      have hz_w28 : wr.heap.size < w28.heap.size := Bly.lt
      refine U_region (S := fun w' => w'.cell? ⟨wr.heap.size, 0, none⟩ = some (.bool ge11a) ∧ w'.cell? ⟨wr.heap.size, 1, none⟩ = some (.slice ae11a ne11a ce11a) ∧ w'.cell? ⟨wr.heap.size, 2, none⟩ = some (.slice Ae11a Ne11a De11a) ∧ w'.cell? ⟨wr.heap.size, 3, none⟩ = some (.bool ge11b) ∧ w'.cell? ⟨wr.heap.size, 4, none⟩ = some (.slice ae11b ne11b ce11b) ∧ w'.cell? ⟨wr.heap.size, 5, none⟩ = some (.slice Ae11b Ne11b De11b) ∧ w'.cell? ⟨wr.heap.size, 6, none⟩ = some (.bool ge11c) ∧ w'.cell? ⟨wr.heap.size, 7, none⟩ = some (.slice ae11c ne11c ce11c) ∧ w'.cell? ⟨wr.heap.size, 8, none⟩ = some (.slice Ae11c Ne11c De11c) ∧ w'.cell? ⟨w6.heap.size, 0, none⟩ = some (.bool sh7) ∧ w'.cell? ⟨w6.heap.size, 1, none⟩ = some (.slice ah7 nh7 ch7) ∧ w'.cell? ⟨w6.heap.size, 2, none⟩ = some (.slice Ah7 Nh7 Ch7)) (by kernel_rfl) 12 ?_
      refine AnyU.abs ?_
      intro w29 hW
      have hb : Below w28.heap.size w28 w29 := by rw [hW]; exact bDrew _
      replace hs := bStep hs hb
      replace Blpart := Blpart.mono hb
      replace Blfactor := Blfactor.mono hb
      replace Bly := Bly.mono hb
      replace h6 := h6.mono hb
      replace h7 := h7.mono hb
      replace he11a := he11a.mono hb
      replace he11b := he11b.mono hb
      replace he11c := he11c.mono hb
      replace Opc := Opc.mono (C3.kept PC.kept) hb
      replace Opl := Opl.mono (C3.kept PC.kept) hb
      clear hb hW
      have cy_0 : w29.cell? ⟨wr.heap.size, 0, none⟩ = some (.bool ge11a) := Bly.at 0 rfl
      have cy_1 : w29.cell? ⟨wr.heap.size, 1, none⟩ = some (.slice ae11a ne11a ce11a) := Bly.at 1 rfl
      have cy_2 : w29.cell? ⟨wr.heap.size, 2, none⟩ = some (.slice Ae11a Ne11a De11a) := Bly.at 2 rfl
      have cy_3 : w29.cell? ⟨wr.heap.size, 3, none⟩ = some (.bool ge11b) := Bly.at 3 rfl
      have cy_4 : w29.cell? ⟨wr.heap.size, 4, none⟩ = some (.slice ae11b ne11b ce11b) := Bly.at 4 rfl
      have cy_5 : w29.cell? ⟨wr.heap.size, 5, none⟩ = some (.slice Ae11b Ne11b De11b) := Bly.at 5 rfl
      have cy_6 : w29.cell? ⟨wr.heap.size, 6, none⟩ = some (.bool ge11c) := Bly.at 6 rfl
      have cy_7 : w29.cell? ⟨wr.heap.size, 7, none⟩ = some (.slice ae11c ne11c ce11c) := Bly.at 7 rfl
      have cy_8 : w29.cell? ⟨wr.heap.size, 8, none⟩ = some (.slice Ae11c Ne11c De11c) := Bly.at 8 rfl
      have cfactor_0 : w29.cell? ⟨w6.heap.size, 0, none⟩ = some (.bool sh7) := Blfactor.at 0 rfl
      have cfactor_1 : w29.cell? ⟨w6.heap.size, 1, none⟩ = some (.slice ah7 nh7 ch7) := Blfactor.at 1 rfl
      have cfactor_2 : w29.cell? ⟨w6.heap.size, 2, none⟩ = some (.slice Ah7 Nh7 Ch7) := Blfactor.at 2 rfl
      have hH := (show w29.cell? ⟨wr.heap.size, 0, none⟩ = some (.bool ge11a) ∧ w29.cell? ⟨wr.heap.size, 1, none⟩ = some (.slice ae11a ne11a ce11a) ∧ w29.cell? ⟨wr.heap.size, 2, none⟩ = some (.slice Ae11a Ne11a De11a) ∧ w29.cell? ⟨wr.heap.size, 3, none⟩ = some (.bool ge11b) ∧ w29.cell? ⟨wr.heap.size, 4, none⟩ = some (.slice ae11b ne11b ce11b) ∧ w29.cell? ⟨wr.heap.size, 5, none⟩ = some (.slice Ae11b Ne11b De11b) ∧ w29.cell? ⟨wr.heap.size, 6, none⟩ = some (.bool ge11c) ∧ w29.cell? ⟨wr.heap.size, 7, none⟩ = some (.slice ae11c ne11c ce11c) ∧ w29.cell? ⟨wr.heap.size, 8, none⟩ = some (.slice Ae11c Ne11c De11c) ∧ w29.cell? ⟨w6.heap.size, 0, none⟩ = some (.bool sh7) ∧ w29.cell? ⟨w6.heap.size, 1, none⟩ = some (.slice ah7 nh7 ch7) ∧ w29.cell? ⟨w6.heap.size, 2, none⟩ = some (.slice Ah7 Nh7 Ch7) from ⟨cy_0, cy_1, cy_2, cy_3, cy_4, cy_5, cy_6, cy_7, cy_8, cfactor_0, cfactor_1, cfactor_2⟩)
      refine U_take (i := 0) (v := ?_) rfl (by kernel_rfl) (by kernel_rfl) (by kernel_rfl) (by kernel_rfl) (fun _ _ _ h => h) (Or.inl ⟨by rfl, ?_⟩) hH ?_
      rotate_left
      · intro w hSw
        try dsimp only at hSw
        go_simp
        try with_reducible rfl
      try simp only [Act.put, List.setIfInBounds_toArray, List.set_cons_zero, List.set_cons_succ]
      refine U_take (i := 1) (v := ?_) rfl (by kernel_rfl) (by kernel_rfl) (by kernel_rfl) (by kernel_rfl) (fun _ _ _ h => h) (Or.inl ⟨by rfl, ?_⟩) hH ?_
      rotate_left
      · intro w hSw
        try dsimp only at hSw
        go_simp
        try with_reducible rfl
      try simp only [Act.put, List.setIfInBounds_toArray, List.set_cons_zero, List.set_cons_succ]
      refine U_take (i := 2) (v := ?_) rfl (by kernel_rfl) (by kernel_rfl) (by kernel_rfl) (by kernel_rfl) (fun _ _ _ h => h) (Or.inl ⟨by rfl, ?_⟩) hH ?_
      rotate_left
      · intro w hSw
        try dsimp only at hSw
        go_simp
        try with_reducible rfl
      try simp only [Act.put, List.setIfInBounds_toArray, List.set_cons_zero, List.set_cons_succ]
      refine U_take (i := 3) (v := ?_) rfl (by kernel_rfl) (by kernel_rfl) (by kernel_rfl) (by kernel_rfl) (fun _ _ _ h => h) (Or.inl ⟨by rfl, ?_⟩) hH ?_
      rotate_left
      · intro w hSw
        try dsimp only at hSw
        go_simp
        try with_reducible rfl
      try simp only [Act.put, List.setIfInBounds_toArray, List.set_cons_zero, List.set_cons_succ]
      refine U_take (i := 5) (v := ?_) rfl (by kernel_rfl) (by kernel_rfl) (by kernel_rfl) (by kernel_rfl) (fun _ _ _ h => h) (Or.inl ⟨by rfl, ?_⟩) hH ?_
      rotate_left
      · intro w hSw
        try dsimp only at hSw
        go_simp
        try with_reducible rfl
      try simp only [Act.put, List.setIfInBounds_toArray, List.set_cons_zero, List.set_cons_succ]
      refine U_take (i := 6) (v := ?_) rfl (by kernel_rfl) (by kernel_rfl) (by kernel_rfl) (by kernel_rfl) (fun _ _ _ h => h) (Or.inl ⟨by rfl, ?_⟩) hH ?_
      rotate_left
      · intro w hSw
        try dsimp only at hSw
        go_simp
        try with_reducible rfl
      try simp only [Act.put, List.setIfInBounds_toArray, List.set_cons_zero, List.set_cons_succ]
      refine U_take (i := 7) (v := ?_) rfl (by kernel_rfl) (by kernel_rfl) (by kernel_rfl) (by kernel_rfl) (fun _ _ _ h => h) (Or.inl ⟨by rfl, ?_⟩) hH ?_
      rotate_left
      · intro w hSw
        try dsimp only at hSw
        go_simp
        try with_reducible rfl
      try simp only [Act.put, List.setIfInBounds_toArray, List.set_cons_zero, List.set_cons_succ]
      refine U_take (i := 8) (v := ?_) rfl (by kernel_rfl) (by kernel_rfl) (by kernel_rfl) (by kernel_rfl) (fun _ _ _ h => h) (Or.inl ⟨by rfl, ?_⟩) hH ?_
      rotate_left
      · intro w hSw
        try dsimp only at hSw
        go_simp
        try with_reducible rfl
      try simp only [Act.put, List.setIfInBounds_toArray, List.set_cons_zero, List.set_cons_succ]
      clear hH
      refine U_one (i := 4) (by kernel_rfl) rfl (fun K hK => ?_)
      go_simp
      (with_reducible refine (pMul he11a h7 (SzQ.fit (lay_sz1 HZ.out j (by omega))) (SzQ.fit sc)).mono ?_)
      rintro e w30 ⟨_, rfl, h12, hb⟩
      obtain ⟨sh12, ah12, nh12, ch12, Ah12, Nh12, Ch12, rfl⟩ := h12.shape
      replace hs := bStep hs hb
      replace Blpart := Blpart.mono hb
      replace Blfactor := Blfactor.mono hb
      replace Bly := Bly.mono hb
      replace h6 := h6.mono hb
      replace h7 := h7.mono hb
      replace he11a := he11a.mono hb
      replace he11b := he11b.mono hb
      replace he11c := he11c.mono hb
      replace Opc := Opc.mono (C3.kept PC.kept) hb
      replace Opl := Opl.mono (C3.kept PC.kept) hb
      replace cy_0 := cellK cy_0 hb
      replace cy_1 := cellK cy_1 hb
      replace cy_2 := cellK cy_2 hb
      replace cy_3 := cellK cy_3 hb
      replace cy_4 := cellK cy_4 hb
      replace cy_5 := cellK cy_5 hb
      replace cy_6 := cellK cy_6 hb
      replace cy_7 := cellK cy_7 hb
      replace cy_8 := cellK cy_8 hb
      replace cfactor_0 := cellK cfactor_0 hb
      replace cfactor_1 := cellK cfactor_1 hb
      replace cfactor_2 := cellK cfactor_2 hb
      clear hb
      try go_wp2_with fail
      refine hK.out _ _ ⟨cy_0, cy_1, cy_2, cy_3, cy_4, cy_5, cy_6, cy_7, cy_8, cfactor_0, cfactor_1, cfactor_2⟩ (fun hH => ?_)
      clear hK K
      try simp only [Act.put, List.setIfInBounds_toArray, List.set_cons_zero, List.set_cons_succ]
      refine U_take (i := 9) (v := ?_) rfl (by kernel_rfl) (by kernel_rfl) (by kernel_rfl) (by kernel_rfl) (fun _ _ _ h => h) (Or.inl ⟨by rfl, ?_⟩) hH ?_
      rotate_left
      · intro w hSw
        try dsimp only at hSw
        go_simp
        try with_reducible rfl
      try simp only [Act.put, List.setIfInBounds_toArray, List.set_cons_zero, List.set_cons_succ]
      clear hH
      refine U_one (i := 10) (by kernel_rfl) rfl (fun K hK => ?_)
      go_simp
      generalize hWn : (w30.alloc (.cells #[.bool sh12, .slice ah12 nh12 ch12, .slice Ah12 Nh12 Ch12, .bool ge11b, .slice ae11b ne11b ce11b, .slice Ae11b Ne11b De11b, .bool ge11c, .slice ae11c ne11c ce11c, .slice Ae11c Ne11c De11c] 41)) = w31
      have hb : Below w30.heap.size w30 w31 := by rw [← hWn]; exact (Below.refl _ _).alloc (Nat.le_refl _) _
      have Blls : Bx w31 (w30.heap.size) 41 #[.bool sh12, .slice ah12 nh12 ch12, .slice Ah12 Nh12 Ch12, .bool ge11b, .slice ae11b ne11b ce11b, .slice Ae11b Ne11b De11b, .bool ge11c, .slice ae11c ne11c ce11c, .slice Ae11c Ne11c De11c] := by rw [← hWn]; exact Bx.new _ _ _
      have npart_ls : w4.heap.size ≠ w30.heap.size := by have := Blpart.lt; omega
      have nfactor_ls : w6.heap.size ≠ w30.heap.size := by have := Blfactor.lt; omega
      have ny_ls : wr.heap.size ≠ w30.heap.size := by have := Bly.lt; omega
      have sz_ls : w7.heap.size ≤ w30.heap.size := hs.size
      replace hs := bStep hs hb
      replace Blpart := Blpart.mono hb
      replace Blfactor := Blfactor.mono hb
      replace Bly := Bly.mono hb
      replace h6 := h6.mono hb
      replace h7 := h7.mono hb
      replace he11a := he11a.mono hb
      replace he11b := he11b.mono hb
      replace he11c := he11c.mono hb
      replace h12 := h12.mono hb
      replace Opc := Opc.mono (C3.kept PC.kept) hb
      replace Opl := Opl.mono (C3.kept PC.kept) hb
      replace cy_0 := cellK cy_0 hb
      replace cy_1 := cellK cy_1 hb
      replace cy_2 := cellK cy_2 hb
      replace cy_3 := cellK cy_3 hb
      replace cy_4 := cellK cy_4 hb
      replace cy_5 := cellK cy_5 hb
      replace cy_6 := cellK cy_6 hb
      replace cy_7 := cellK cy_7 hb
      replace cy_8 := cellK cy_8 hb
      replace cfactor_0 := cellK cfactor_0 hb
      replace cfactor_1 := cellK cfactor_1 hb
      replace cfactor_2 := cellK cfactor_2 hb
      clear hb hWn
      refine hK.out _ _ ⟨cy_0, cy_1, cy_2, cy_3, cy_4, cy_5, cy_6, cy_7, cy_8, cfactor_0, cfactor_1, cfactor_2⟩ (fun hH => ?_)
      clear hK K
      try simp only [Act.put, List.setIfInBounds_toArray, List.set_cons_zero, List.set_cons_succ]
      clear hH
      refine U_one (i := 11) (by kernel_rfl) rfl (fun K hK => ?_)
      obtain ⟨css, ho1, ho2, ho3, hown0⟩ := Opl
      simp only [List.getElem_toArray, List.getElem_cons_succ, List.getElem_cons_zero]
      rw [if_pos (by rfl)]
      refine wp_append_lies _ _ _ _ (by rfl) w7.heap.size 41 i0 _ 9 168 Try.underlying25 hi hz0 hz1 hz2 (by rfl) (by omega) _ _ css.flatten (by rfl) hown0 ⟨w30.heap.size, 0, none⟩ 1 1 [.bool sh12, .slice ah12 nh12 ch12, .slice Ah12 Nh12 Ch12, .bool ge11b, .slice ae11b ne11b ce11b, .slice Ae11b Ne11b De11b, .bool ge11c, .slice ae11c ne11c ce11c, .slice Ae11c Ne11c De11c] (by rfl) (by rfl) Blls.news ?_ (by omega) ?_ ?_ ?_ _ rfl ?_
      · intro u hu; simp only [List.mem_cons, List.mem_nil_iff, or_false] at hu; rcases hu with rfl | rfl | rfl | rfl | rfl | rfl | rfl | rfl | rfl <;> rfl
      · unfold maxLen; (try simp only [List.length_append, List.length_cons, List.length_nil]); omega
      · (try simp only [List.length_append, List.length_cons, List.length_nil]); omega
      · exact hs.size
      intro gpl cappl w32 hown1 hgrow hat hlt
      have hk := KeepD.owns hown0 hgrow (by decide)
      have ho := owns_onlyT hown0 hgrow
      replace hs := hs.grown hgrow hs.size (fun k hk => (hown0.lt k hk).1)
      replace Opl := OwnR.push (C3.kept PC.kept) ho1 ho2 ho3 (x := (((layAt L j).1) * c, (layAt L j).2.1, (layAt L j).2.2)) rfl ⟨[_, _, _], [_, _, _], [_, _, _], rfl, ⟨_, _, _, rfl, h12⟩, ⟨_, _, _, rfl, he11b⟩, ⟨_, _, _, rfl, he11c⟩⟩ hown1 hk
      replace Blpart := Blpart.only ho (by decide)
      replace Blfactor := Blfactor.only ho (by decide)
      have Ap_pl_y1 := Ap_pl_y.app hat Bly.lt
      replace Bly := Bly.grown hgrow Ap_pl_y.ne
      replace Ap_pl_y := Ap_pl_y1
      clear Ap_pl_y1
      replace h6 := h6.keep hk
      replace h7 := h7.keep hk
      replace he11a := he11a.keep hk
      replace he11b := he11b.keep hk
      replace he11c := he11c.keep hk
      replace h12 := h12.keep hk
      have Aq1 := (Aq_pc_pl.symm.app hat Opc (Nat.le_refl _)).symm
      replace Opc := Opc.grown (C3.kept PC.kept) hgrow Aq_pc_pl.symm.or hk
      replace Aq_pc_pl := Aq1
      clear Aq1
      replace cy_0 := Bly.at 0 rfl
      replace cy_1 := Bly.at 1 rfl
      replace cy_2 := Bly.at 2 rfl
      replace cy_3 := Bly.at 3 rfl
      replace cy_4 := Bly.at 4 rfl
      replace cy_5 := Bly.at 5 rfl
      replace cy_6 := Bly.at 6 rfl
      replace cy_7 := Bly.at 7 rfl
      replace cy_8 := Bly.at 8 rfl
      replace cfactor_0 := Blfactor.at 0 rfl
      replace cfactor_1 := Blfactor.at 1 rfl
      replace cfactor_2 := Blfactor.at 2 rfl
      clear hk ho ho1 ho2 ho3 hown0 hown1 hgrow Blls
      refine hK.out _ _ ⟨cy_0, cy_1, cy_2, cy_3, cy_4, cy_5, cy_6, cy_7, cy_8, cfactor_0, cfactor_1, cfactor_2⟩ (fun hH => ?_)
      clear hK K
      try simp only [Act.put, List.setIfInBounds_toArray, List.set_cons_zero, List.set_cons_succ]
      clear hH
      refine U_last (by kernel_rfl) rfl (by kernel_rfl) (fun K hK => ?_)
      go_simp
      refine hK.out _ _ ?_
      clear hK K
      intro wl hW
      rw [hW]
      clear hW wl
      try simp only [Act.put, List.setIfInBounds_toArray, List.set_cons_zero, List.set_cons_succ]
      clear cy_0 cy_1 cy_2 cy_3 cy_4 cy_5 cy_6 cy_7 cy_8 cfactor_0 cfactor_1 cfactor_2
      by_cases q13 : j = k
      · have q13b : ((j : Int) == (k : Int)) = true := by simp; omega
        have q13n : ((j : Int) != (k : Int)) = false := by simp; omega
        have q13H := Lib.hid q13
        clear q13
        have cy_0 : w32.cell? ⟨wr.heap.size, 0, none⟩ = some (.bool ge11a) := Bly.at 0 rfl
        have cy_1 : w32.cell? ⟨wr.heap.size, 1, none⟩ = some (.slice ae11a ne11a ce11a) := Bly.at 1 rfl
        have cy_2 : w32.cell? ⟨wr.heap.size, 2, none⟩ = some (.slice Ae11a Ne11a De11a) := Bly.at 2 rfl
        have cy_3 : w32.cell? ⟨wr.heap.size, 3, none⟩ = some (.bool ge11b) := Bly.at 3 rfl
        have cy_4 : w32.cell? ⟨wr.heap.size, 4, none⟩ = some (.slice ae11b ne11b ce11b) := Bly.at 4 rfl
        have cy_5 : w32.cell? ⟨wr.heap.size, 5, none⟩ = some (.slice Ae11b Ne11b De11b) := Bly.at 5 rfl
        have cy_6 : w32.cell? ⟨wr.heap.size, 6, none⟩ = some (.bool ge11c) := Bly.at 6 rfl
        have cy_7 : w32.cell? ⟨wr.heap.size, 7, none⟩ = some (.slice ae11c ne11c ce11c) := Bly.at 7 rfl
        have cy_8 : w32.cell? ⟨wr.heap.size, 8, none⟩ = some (.slice Ae11c Ne11c De11c) := Bly.at 8 rfl
        have Ly : wr.heap.size < w32.heap.size := Bly.lt
        have cpart_0 : w32.cell? ⟨w4.heap.size, 0, none⟩ = some (.bool sh6) := Blpart.at 0 rfl
        have cpart_1 : w32.cell? ⟨w4.heap.size, 1, none⟩ = some (.slice ah6 nh6 ch6) := Blpart.at 1 rfl
        have cpart_2 : w32.cell? ⟨w4.heap.size, 2, none⟩ = some (.slice Ah6 Nh6 Ch6) := Blpart.at 2 rfl
        have Lpart : w4.heap.size < w32.heap.size := Blpart.lt
        go_wp2_with fail
        clear cy_0 cy_1 cy_2 cy_3 cy_4 cy_5 cy_6 cy_7 cy_8 cpart_0 cpart_1 cpart_2 Ly Lpart
        with_reducible refine (pMul he11b h6 (SzQ.fit (lay_sz2 HZ.out j (by omega))) (SzQ.fit sf)).mono ?_
        rintro e w33 ⟨_, rfl, h14, hb⟩
        obtain ⟨sh14, ah14, nh14, ch14, Ah14, Nh14, Ch14, rfl⟩ := h14.shape
        replace hs := bStep hs hb
        replace Blpart := Blpart.mono hb
        replace Blfactor := Blfactor.mono hb
        replace Bly := Bly.mono hb
        replace h6 := h6.mono hb
        replace h7 := h7.mono hb
        replace he11a := he11a.mono hb
        replace he11b := he11b.mono hb
        replace he11c := he11c.mono hb
        replace h12 := h12.mono hb
        replace Opc := Opc.mono (C3.kept PC.kept) hb
        replace Opl := Opl.mono (C3.kept PC.kept) hb
        clear hb
        have cy_0 : w33.cell? ⟨wr.heap.size, 0, none⟩ = some (.bool ge11a) := Bly.at 0 rfl
        have cy_1 : w33.cell? ⟨wr.heap.size, 1, none⟩ = some (.slice ae11a ne11a ce11a) := Bly.at 1 rfl
        have cy_2 : w33.cell? ⟨wr.heap.size, 2, none⟩ = some (.slice Ae11a Ne11a De11a) := Bly.at 2 rfl
        have cy_3 : w33.cell? ⟨wr.heap.size, 3, none⟩ = some (.bool ge11b) := Bly.at 3 rfl
        have cy_4 : w33.cell? ⟨wr.heap.size, 4, none⟩ = some (.slice ae11b ne11b ce11b) := Bly.at 4 rfl
        have cy_5 : w33.cell? ⟨wr.heap.size, 5, none⟩ = some (.slice Ae11b Ne11b De11b) := Bly.at 5 rfl
        have cy_6 : w33.cell? ⟨wr.heap.size, 6, none⟩ = some (.bool ge11c) := Bly.at 6 rfl
        have cy_7 : w33.cell? ⟨wr.heap.size, 7, none⟩ = some (.slice ae11c ne11c ce11c) := Bly.at 7 rfl
        have cy_8 : w33.cell? ⟨wr.heap.size, 8, none⟩ = some (.slice Ae11c Ne11c De11c) := Bly.at 8 rfl
        have Ly : wr.heap.size < w33.heap.size := Bly.lt
        go_wp2_with (at_builtin; refine wpList.stop ?_)
        refine ⟨?_⟩
        clear cy_0 cy_1 cy_2 cy_3 cy_4 cy_5 cy_6 cy_7 cy_8 Ly
        refine wpList.abs ?_
        intro w34 hW
        have hG : Gr [] w33 w34 := by rw [hW]; exact (Gr.refl _ _).alloc.alloc
        have hbw : Below w7.heap.size w33 w34 := hG.below0 hs.size
        have hk : KeepD w33 w34 := hG.keep True.intro
        have sz_w34 : w7.heap.size ≤ w33.heap.size := hs.size
        have npart_w34 : w4.heap.size < w33.heap.size := Blpart.lt
        have nfactor_w34 : w6.heap.size < w33.heap.size := Blfactor.lt
        have ny_w34 : wr.heap.size < w33.heap.size := Bly.lt
        have Blfront : Bx w34 (w33.heap.size) 36 #[.bool sh14, .slice ah14 nh14 ch14, .slice Ah14 Nh14 Ch14] := by rw [hW]; exact ((Bx.new0 _ _ _).alloc _)
        have Blls5 : Bx w34 (w33.heap.size + 1) 41 #[.bool ge11a, .slice ae11a ne11a ce11a, .slice Ae11a Ne11a De11a, .bool sh14, .slice ah14 nh14 ch14, .slice Ah14 Nh14 Ch14, .bool ge11c, .slice ae11c ne11c ce11c, .slice Ae11c Ne11c De11c] := by rw [hW]; exact (Bx.new0 _ _ _)
        replace hs := hs.trans hbw
        replace Blpart := hG.bx Blpart notMem0
        replace Blfactor := hG.bx Blfactor notMem0
        replace Bly := hG.bx Bly notMem0
        replace h6 := h6.keep hk
        replace h7 := h7.keep hk
        replace he11a := he11a.keep hk
        replace he11b := he11b.keep hk
        replace he11c := he11c.keep hk
        replace h12 := h12.keep hk
        replace h14 := h14.keep hk
        replace Opc := Opc.mono (C3.kept PC.kept) (hG.below0 (Nat.le_refl _))
        replace Opl := Opl.mono (C3.kept PC.kept) (hG.below0 (Nat.le_refl _))
        clear hW hG hk hbw
        have hz_w34 : w33.heap.size + 1 < w34.heap.size := Blls5.lt
        obtain ⟨css, ho1, ho2, ho3, hown0⟩ := Opc
        refine wpList_append_lies _ rfl _ _ _ rfl w7.heap.size 41 i0 _ 9 168 Try.underlying25 hi hz0 hz1 hz2 rfl (by omega) _ _ css.flatten rfl hown0 ⟨w33.heap.size + 1, 0, none⟩ 1 1 [.bool ge11a, .slice ae11a ne11a ce11a, .slice Ae11a Ne11a De11a, .bool sh14, .slice ah14 nh14 ch14, .slice Ah14 Nh14 Ch14, .bool ge11c, .slice ae11c ne11c ce11c, .slice Ae11c Ne11c De11c] rfl rfl Blls5.news ?_ (by omega) ?_ ?_ ?_ _ rfl ?_
        · intro u hu; simp only [List.mem_cons, List.mem_nil_iff, or_false] at hu; rcases hu with rfl | rfl | rfl | rfl | rfl | rfl | rfl | rfl | rfl <;> rfl
        · unfold maxLen; (try simp only [List.length_append, List.length_cons, List.length_nil]); omega
        · (try simp only [List.length_append, List.length_cons, List.length_nil]); omega
        · exact hs.size
        intro gpc cappc w35 hown1 hgrow hat hlt_
        have hk_ := KeepD.owns hown0 hgrow (by decide)
        have ho := owns_onlyT hown0 hgrow
        replace hs := hs.grown hgrow hs.size (fun k hk => (hown0.lt k hk).1)
        replace Opc := OwnR.push' (C3.kept PC.kept) ho1 ho2 ho3 (x := ((layAt L j).1, ((layAt L j).2.1) * f, (layAt L j).2.2)) rfl ⟨[_, _, _], [_, _, _], [_, _, _], rfl, ⟨_, _, _, rfl, he11a⟩, ⟨_, _, _, rfl, h14⟩, ⟨_, _, _, rfl, he11c⟩⟩ (by simp) hown1 hk_
        replace Blpart := Blpart.only ho (by decide)
        replace Blfactor := Blfactor.only ho (by decide)
        have Ap_pc_y1 := Ap_pc_y.app hat Bly.lt
        replace Bly := Bly.grown hgrow Ap_pc_y.ne
        replace Ap_pc_y := Ap_pc_y1
        clear Ap_pc_y1
        replace Blfront := Blfront.only ho (by decide)
        replace h6 := h6.keep hk_
        replace h7 := h7.keep hk_
        replace he11a := he11a.keep hk_
        replace he11b := he11b.keep hk_
        replace he11c := he11c.keep hk_
        replace h12 := h12.keep hk_
        replace h14 := h14.keep hk_
        have Aq1 := Aq_pc_pl.app hat Opl (Nat.le_refl _)
        replace Opl := Opl.grown (C3.kept PC.kept) hgrow Aq_pc_pl.or hk_
        replace Aq_pc_pl := Aq1
        clear Aq1
        clear hk_ ho ho1 ho2 ho3 hown0 hown1 hgrow hat hlt_ Blls5
        have cy_0 : w35.cell? ⟨wr.heap.size, 0, none⟩ = some (.bool ge11a) := Bly.at 0 rfl
        have cy_1 : w35.cell? ⟨wr.heap.size, 1, none⟩ = some (.slice ae11a ne11a ce11a) := Bly.at 1 rfl
        have cy_2 : w35.cell? ⟨wr.heap.size, 2, none⟩ = some (.slice Ae11a Ne11a De11a) := Bly.at 2 rfl
        have cy_3 : w35.cell? ⟨wr.heap.size, 3, none⟩ = some (.bool ge11b) := Bly.at 3 rfl
        have cy_4 : w35.cell? ⟨wr.heap.size, 4, none⟩ = some (.slice ae11b ne11b ce11b) := Bly.at 4 rfl
        have cy_5 : w35.cell? ⟨wr.heap.size, 5, none⟩ = some (.slice Ae11b Ne11b De11b) := Bly.at 5 rfl
        have cy_6 : w35.cell? ⟨wr.heap.size, 6, none⟩ = some (.bool ge11c) := Bly.at 6 rfl
        have cy_7 : w35.cell? ⟨wr.heap.size, 7, none⟩ = some (.slice ae11c ne11c ce11c) := Bly.at 7 rfl
        have cy_8 : w35.cell? ⟨wr.heap.size, 8, none⟩ = some (.slice Ae11c Ne11c De11c) := Bly.at 8 rfl
        have Ly : wr.heap.size < w35.heap.size := Bly.lt
        have cfront_0 : w35.cell? ⟨w33.heap.size, 0, none⟩ = some (.bool sh14) := Blfront.at 0 rfl
        have cfront_1 : w35.cell? ⟨w33.heap.size, 1, none⟩ = some (.slice ah14 nh14 ch14) := Blfront.at 1 rfl
        have cfront_2 : w35.cell? ⟨w33.heap.size, 2, none⟩ = some (.slice Ah14 Nh14 Ch14) := Blfront.at 2 rfl
        have Lfront : w33.heap.size < w35.heap.size := Blfront.lt
        go_wp2_with fail
        clear cy_0 cy_1 cy_2 cy_3 cy_4 cy_5 cy_6 cy_7 cy_8 cfront_0 cfront_1 cfront_2 Ly Lfront
        with_reducible refine (pSub he11b h14 (SzQ.fit (lay_sz2 HZ.out j (by omega))) (SzQ.fit (SzQ.mul (lay_sz2 HZ.out j (by omega)) sf))).mono ?_
        rintro e w36 ⟨_, rfl, h15, hb⟩
        obtain ⟨sh15, ah15, nh15, ch15, Ah15, Nh15, Ch15, rfl⟩ := h15.shape
        replace hs := bStep hs hb
        replace Blpart := Blpart.mono hb
        replace Blfactor := Blfactor.mono hb
        replace Bly := Bly.mono hb
        replace Blfront := Blfront.mono hb
        replace h6 := h6.mono hb
        replace h7 := h7.mono hb
        replace he11a := he11a.mono hb
        replace he11b := he11b.mono hb
        replace he11c := he11c.mono hb
        replace h12 := h12.mono hb
        replace h14 := h14.mono hb
        replace Opc := Opc.mono (C3.kept PC.kept) hb
        replace Opl := Opl.mono (C3.kept PC.kept) hb
        clear hb
        have cy_0 : w36.cell? ⟨wr.heap.size, 0, none⟩ = some (.bool ge11a) := Bly.at 0 rfl
        have cy_1 : w36.cell? ⟨wr.heap.size, 1, none⟩ = some (.slice ae11a ne11a ce11a) := Bly.at 1 rfl
        have cy_2 : w36.cell? ⟨wr.heap.size, 2, none⟩ = some (.slice Ae11a Ne11a De11a) := Bly.at 2 rfl
        have cy_3 : w36.cell? ⟨wr.heap.size, 3, none⟩ = some (.bool ge11b) := Bly.at 3 rfl
        have cy_4 : w36.cell? ⟨wr.heap.size, 4, none⟩ = some (.slice ae11b ne11b ce11b) := Bly.at 4 rfl
        have cy_5 : w36.cell? ⟨wr.heap.size, 5, none⟩ = some (.slice Ae11b Ne11b De11b) := Bly.at 5 rfl
        have cy_6 : w36.cell? ⟨wr.heap.size, 6, none⟩ = some (.bool ge11c) := Bly.at 6 rfl
        have cy_7 : w36.cell? ⟨wr.heap.size, 7, none⟩ = some (.slice ae11c ne11c ce11c) := Bly.at 7 rfl
        have cy_8 : w36.cell? ⟨wr.heap.size, 8, none⟩ = some (.slice Ae11c Ne11c De11c) := Bly.at 8 rfl
        have fy := Bly.free
        have Ly : wr.heap.size < w36.heap.size := Bly.lt
        go_wp2_with (at_builtin; refine wpList.stop ?_)
        refine ⟨?_⟩
        clear cy_0 cy_1 cy_2 cy_3 cy_4 cy_5 cy_6 cy_7 cy_8 fy Ly
        refine wpList.abs ?_
        intro w37 hW
        have hG : Gr [wr.heap.size] w36 w37 := by rw [hW]; exact (Gr.refl _ _).set.set.set.alloc
        have hsz := hs.size
        have ly := Bly.lt
        have hbw : Below w7.heap.size w36 w37 := hG.below1 hs.size (by first | omega | assumption)
        have hk : KeepD w36 w37 := hG.keep ⟨⟨_, Bly.ty, by decide⟩, True.intro⟩
        have sz_w37 : w7.heap.size ≤ w36.heap.size := hs.size
        have npart_w37 : w4.heap.size < w36.heap.size := Blpart.lt
        have nfactor_w37 : w6.heap.size < w36.heap.size := Blfactor.lt
        have ny_w37 : wr.heap.size < w36.heap.size := Bly.lt
        have nfront_w37 : w33.heap.size < w36.heap.size := Blfront.lt
        have Bl1y : Bx w37 (wr.heap.size) 41 #[.bool ge11a, .slice ae11a ne11a ce11a, .slice Ae11a Ne11a De11a, .bool sh15, .slice ah15 nh15 ch15, .slice Ah15 Nh15 Ch15, .bool ge11c, .slice ae11c ne11c ce11c, .slice Ae11c Ne11c De11c] := by rw [hW]; exact ((Bx.set (Bx.set (Bx.set Bly 3 _ rfl) 4 _ rfl) 5 _ rfl).alloc _)
        have Blls6 : Bx w37 (w36.heap.size) 41 #[.bool ge11a, .slice ae11a ne11a ce11a, .slice Ae11a Ne11a De11a, .bool sh15, .slice ah15 nh15 ch15, .slice Ah15 Nh15 Ch15, .bool ge11c, .slice ae11c ne11c ce11c, .slice Ae11c Ne11c De11c] := by rw [hW]; exact (Bx.new0 _ _ _)
        replace hs := hs.trans hbw
        replace Blpart := hG.bx Blpart (notMem1 (by omega))
        replace Blfactor := hG.bx Blfactor (notMem1 (by omega))
        replace Blfront := hG.bx Blfront (notMem1 (by omega))
        replace Bly := Bl1y
        clear Bl1y
        replace h6 := h6.keep hk
        replace h7 := h7.keep hk
        replace he11a := he11a.keep hk
        replace he11b := he11b.keep hk
        replace he11c := he11c.keep hk
        replace h12 := h12.keep hk
        replace h14 := h14.keep hk
        replace h15 := h15.keep hk
        replace Opc := Opc.gr (C3.kept PC.kept) hG (Ap_pc_y).one hk
        replace Opl := Opl.gr (C3.kept PC.kept) hG (Ap_pl_y).one hk
        clear hW hG hk hbw hsz ly
        have hz_w37 : w36.heap.size < w37.heap.size := Blls6.lt
        obtain ⟨css, ho1, ho2, ho3, hown0⟩ := Opc
        rw [show ((cutJ f L k j) ++ [((layAt L j).1, ((layAt L j).2.1) * f, (layAt L j).2.2)]).length = (cutJ f L k j).length + 1 from by simp] at hown0
        refine wpList_append_lies _ rfl _ _ _ rfl w7.heap.size 41 i0 _ 9 168 Try.underlying25 hi hz0 hz1 hz2 rfl (by omega) _ _ css.flatten rfl hown0 ⟨w36.heap.size, 0, none⟩ 1 1 [.bool ge11a, .slice ae11a ne11a ce11a, .slice Ae11a Ne11a De11a, .bool sh15, .slice ah15 nh15 ch15, .slice Ah15 Nh15 Ch15, .bool ge11c, .slice ae11c ne11c ce11c, .slice Ae11c Ne11c De11c] rfl rfl Blls6.news ?_ (by omega) ?_ ?_ ?_ _ rfl ?_
        · intro u hu; simp only [List.mem_cons, List.mem_nil_iff, or_false] at hu; rcases hu with rfl | rfl | rfl | rfl | rfl | rfl | rfl | rfl | rfl <;> rfl
        · unfold maxLen; (try simp only [List.length_append, List.length_cons, List.length_nil]); omega
        · (try simp only [List.length_append, List.length_cons, List.length_nil]); omega
        · exact hs.size
        intro gpc cappc w38 hown1 hgrow hat hlt_
        have hk_ := KeepD.owns hown0 hgrow (by decide)
        have ho := owns_onlyT hown0 hgrow
        replace hs := hs.grown hgrow hs.size (fun k hk => (hown0.lt k hk).1)
        replace Opc := OwnR.push' (C3.kept PC.kept) ho1 ho2 ho3 (x := ((layAt L j).1, ((layAt L j).2.1) - (((layAt L j).2.1) * f), (layAt L j).2.2)) rfl ⟨[_, _, _], [_, _, _], [_, _, _], rfl, ⟨_, _, _, rfl, he11a⟩, ⟨_, _, _, rfl, h15⟩, ⟨_, _, _, rfl, he11c⟩⟩ (by simp) hown1 hk_
        replace Blpart := Blpart.only ho (by decide)
        replace Blfactor := Blfactor.only ho (by decide)
        have Ap_pc_y1 := Ap_pc_y.app hat Bly.lt
        replace Bly := Bly.grown hgrow Ap_pc_y.ne
        replace Ap_pc_y := Ap_pc_y1
        clear Ap_pc_y1
        replace Blfront := Blfront.only ho (by decide)
        replace h6 := h6.keep hk_
        replace h7 := h7.keep hk_
        replace he11a := he11a.keep hk_
        replace he11b := he11b.keep hk_
        replace he11c := he11c.keep hk_
        replace h12 := h12.keep hk_
        replace h14 := h14.keep hk_
        replace h15 := h15.keep hk_
        have Aq1 := Aq_pc_pl.app hat Opl (Nat.le_refl _)
        replace Opl := Opl.grown (C3.kept PC.kept) hgrow Aq_pc_pl.or hk_
        replace Aq_pc_pl := Aq1
        clear Aq1
        clear hk_ ho ho1 ho2 ho3 hown0 hown1 hgrow hat hlt_ Blls6
        go_wp2
        go_roundw
        case rel => exact ⟨j + 1, by omega, by go_num, hs, Blpart, Blfactor, h6, h7, by rw [cutJ_at q13H.out]; exact Opc, Opl, Aq_pc_pl⟩
        all_goals first | (simp [intOf]; done) | (simp [intOf]; omega)
      · have q13b : ((j : Int) == (k : Int)) = false := by simp; omega
        have q13n : ((j : Int) != (k : Int)) = true := by simp; omega
        have q13H := Lib.hid q13
        clear q13
        have cy_0 : w32.cell? ⟨wr.heap.size, 0, none⟩ = some (.bool ge11a) := Bly.at 0 rfl
        have cy_1 : w32.cell? ⟨wr.heap.size, 1, none⟩ = some (.slice ae11a ne11a ce11a) := Bly.at 1 rfl
        have cy_2 : w32.cell? ⟨wr.heap.size, 2, none⟩ = some (.slice Ae11a Ne11a De11a) := Bly.at 2 rfl
        have cy_3 : w32.cell? ⟨wr.heap.size, 3, none⟩ = some (.bool ge11b) := Bly.at 3 rfl
        have cy_4 : w32.cell? ⟨wr.heap.size, 4, none⟩ = some (.slice ae11b ne11b ce11b) := Bly.at 4 rfl
        have cy_5 : w32.cell? ⟨wr.heap.size, 5, none⟩ = some (.slice Ae11b Ne11b De11b) := Bly.at 5 rfl
        have cy_6 : w32.cell? ⟨wr.heap.size, 6, none⟩ = some (.bool ge11c) := Bly.at 6 rfl
        have cy_7 : w32.cell? ⟨wr.heap.size, 7, none⟩ = some (.slice ae11c ne11c ce11c) := Bly.at 7 rfl
        have cy_8 : w32.cell? ⟨wr.heap.size, 8, none⟩ = some (.slice Ae11c Ne11c De11c) := Bly.at 8 rfl
        have Ly : wr.heap.size < w32.heap.size := Bly.lt
        go_wp2_with (at_builtin; refine wpList.stop ?_)
        refine ⟨?_⟩
        clear cy_0 cy_1 cy_2 cy_3 cy_4 cy_5 cy_6 cy_7 cy_8 Ly
        refine wpList.abs ?_
        intro w33 hW
        have hG : Gr [] w32 w33 := by rw [hW]; exact (Gr.refl _ _).alloc
        have hbw : Below w7.heap.size w32 w33 := hG.below0 hs.size
        have hk : KeepD w32 w33 := hG.keep True.intro
        have sz_w33 : w7.heap.size ≤ w32.heap.size := hs.size
        have npart_w33 : w4.heap.size < w32.heap.size := Blpart.lt
        have nfactor_w33 : w6.heap.size < w32.heap.size := Blfactor.lt
        have ny_w33 : wr.heap.size < w32.heap.size := Bly.lt
        have Blls4 : Bx w33 (w32.heap.size) 41 #[.bool ge11a, .slice ae11a ne11a ce11a, .slice Ae11a Ne11a De11a, .bool ge11b, .slice ae11b ne11b ce11b, .slice Ae11b Ne11b De11b, .bool ge11c, .slice ae11c ne11c ce11c, .slice Ae11c Ne11c De11c] := by rw [hW]; exact (Bx.new0 _ _ _)
        replace hs := hs.trans hbw
        replace Blpart := hG.bx Blpart notMem0
        replace Blfactor := hG.bx Blfactor notMem0
        replace Bly := hG.bx Bly notMem0
        replace h6 := h6.keep hk
        replace h7 := h7.keep hk
        replace he11a := he11a.keep hk
        replace he11b := he11b.keep hk
        replace he11c := he11c.keep hk
        replace h12 := h12.keep hk
        replace Opc := Opc.mono (C3.kept PC.kept) (hG.below0 (Nat.le_refl _))
        replace Opl := Opl.mono (C3.kept PC.kept) (hG.below0 (Nat.le_refl _))
        clear hW hG hk hbw
        have hz_w33 : w32.heap.size < w33.heap.size := Blls4.lt
        obtain ⟨css, ho1, ho2, ho3, hown0⟩ := Opc
        refine wpList_append_lies _ rfl _ _ _ rfl w7.heap.size 41 i0 _ 9 168 Try.underlying25 hi hz0 hz1 hz2 rfl (by omega) _ _ css.flatten rfl hown0 ⟨w32.heap.size, 0, none⟩ 1 1 [.bool ge11a, .slice ae11a ne11a ce11a, .slice Ae11a Ne11a De11a, .bool ge11b, .slice ae11b ne11b ce11b, .slice Ae11b Ne11b De11b, .bool ge11c, .slice ae11c ne11c ce11c, .slice Ae11c Ne11c De11c] rfl rfl Blls4.news ?_ (by omega) ?_ ?_ ?_ _ rfl ?_
        · intro u hu; simp only [List.mem_cons, List.mem_nil_iff, or_false] at hu; rcases hu with rfl | rfl | rfl | rfl | rfl | rfl | rfl | rfl | rfl <;> rfl
        · unfold maxLen; (try simp only [List.length_append, List.length_cons, List.length_nil]); omega
        · (try simp only [List.length_append, List.length_cons, List.length_nil]); omega
        · exact hs.size
        intro gpc cappc w34 hown1 hgrow hat hlt_
        have hk_ := KeepD.owns hown0 hgrow (by decide)
        have ho := owns_onlyT hown0 hgrow
        replace hs := hs.grown hgrow hs.size (fun k hk => (hown0.lt k hk).1)
        replace Opc := OwnR.push' (C3.kept PC.kept) ho1 ho2 ho3 (x := ((layAt L j).1, (layAt L j).2.1, (layAt L j).2.2)) rfl ⟨[_, _, _], [_, _, _], [_, _, _], rfl, ⟨_, _, _, rfl, he11a⟩, ⟨_, _, _, rfl, he11b⟩, ⟨_, _, _, rfl, he11c⟩⟩ (by simp) hown1 hk_
        replace Blpart := Blpart.only ho (by decide)
        replace Blfactor := Blfactor.only ho (by decide)
        have Ap_pc_y1 := Ap_pc_y.app hat Bly.lt
        replace Bly := Bly.grown hgrow Ap_pc_y.ne
        replace Ap_pc_y := Ap_pc_y1
        clear Ap_pc_y1
        replace h6 := h6.keep hk_
        replace h7 := h7.keep hk_
        replace he11a := he11a.keep hk_
        replace he11b := he11b.keep hk_
        replace he11c := he11c.keep hk_
        replace h12 := h12.keep hk_
        have Aq1 := Aq_pc_pl.app hat Opl (Nat.le_refl _)
        replace Opl := Opl.grown (C3.kept PC.kept) hgrow Aq_pc_pl.or hk_
        replace Aq_pc_pl := Aq1
        clear Aq1
        clear hk_ ho ho1 ho2 ho3 hown0 hown1 hgrow hat hlt_ Blls4
        go_wp2
        go_roundw
        case rel => exact ⟨j + 1, by omega, by go_num, hs, Blpart, Blfactor, h6, h7, by rw [cutJ_off q13H.out]; exact Opc, Opl, Aq_pc_pl⟩
        all_goals first | (simp [intOf]; done) | (simp [intOf]; omega)
    · have q9d : ((j : Int) < (L.length : Int)) = False := eq_false (by omega)
      obtain rfl : j = L.length := by omega
      have hC := Opc.rows
      have hD := Opl.rows
      rw [cutJ_all hk] at hC
      rw [loudJ_all] at hD
      clear Opc Opl lnc lnl
      obtain ⟨bhC, ohC, khC, rfl, hC1, hC2, -⟩ := hC.open_ (by rw [HCL.out]; omega)
      obtain ⟨bhD, ohD, khD, rfl, hD1, hD2, -⟩ := hD.open_ (by rw [HDL.out]; omega)
      have A4 := rowsJ (C3.kept PC.kept) _ _ _ FA4.out hs
      have X5 := rowsJ (C2.kept PC.kept) _ _ _ FX5.out hs
      replace hs := bStep HB0_8.out hs
      go_wp2_with fail
      with_reducible refine (sc_Echoes_ok _ (cutL f L k) 4 _ hC (by rw [HCL.out]; omega) (by rw [HCL.out]; omega) HCP.out (by omega) HCZ.out).mono ?_
      rintro e w28 ⟨_, _, rfl, U10, rfl, hb⟩
      rw [HU.out] at U10
      obtain ⟨bU10, oU10, kU10, rfl, U101, U102, -⟩ := U10.open_ (by omega)
      replace hs := bStep hs hb
      replace Blpart := Blpart.mono hb
      replace Blfactor := Blfactor.mono hb
      replace h6 := h6.mono hb
      replace h7 := h7.mono hb
      replace hC := rowsJ (C3.kept PC.kept) _ _ _ hC hb
      replace hD := rowsJ (C3.kept PC.kept) _ _ _ hD hb
      replace A4 := rowsJ (C3.kept PC.kept) _ _ _ A4 hb
      replace X5 := rowsJ (C2.kept PC.kept) _ _ _ X5 hb
      clear hb
      go_wp2_with fail
      with_reducible refine (sc_Echoes_ok _ (loudL c L) 4 _ hD (by rw [HDL.out]; omega) (by rw [HDL.out]; omega) HDP.out (by omega) HDZ.out).mono ?_
      rintro e w29 ⟨_, _, rfl, V11, rfl, hb⟩
      rw [HV.out] at V11
      obtain ⟨bV11, oV11, kV11, rfl, V111, V112, -⟩ := V11.open_ (by omega)
      replace hs := bStep hs hb
      replace Blpart := Blpart.mono hb
      replace Blfactor := Blfactor.mono hb
      replace h6 := h6.mono hb
      replace h7 := h7.mono hb
      replace hC := rowsJ (C3.kept PC.kept) _ _ _ hC hb
      replace hD := rowsJ (C3.kept PC.kept) _ _ _ hD hb
      replace A4 := rowsJ (C3.kept PC.kept) _ _ _ A4 hb
      replace X5 := rowsJ (C2.kept PC.kept) _ _ _ X5 hb
      replace U10 := rowsJ (C2.kept PC.kept) _ _ _ U10 hb
      clear hb
      have q12 : (X.length : Int) = (L.length : Int) - 1 := (by omega)
      have q12b : ((X.length : Int) == (L.length : Int) - 1) = true := by simp; omega
      have q12n : ((X.length : Int) != (L.length : Int) - 1) = false := by simp; omega
      have q12H := Lib.hid q12
      clear q12
      have q13 : (U.length : Int) = (X.length : Int) + 1 := (by omega)
      have q13b : ((U.length : Int) == (X.length : Int) + 1) = true := by simp; omega
      have q13n : ((U.length : Int) != (X.length : Int) + 1) = false := by simp; omega
      have q13H := Lib.hid q13
      clear q13
      have q14 : V.length = X.length := (by omega)
      have q14b : ((V.length : Int) == (X.length : Int)) = true := by simp; omega
      have q14n : ((V.length : Int) != (X.length : Int)) = false := by simp; omega
      have q14H := Lib.hid q14
      clear q14
      go_wp2
      have HB0_15 := Lib.hid hs
      clear hs
      have hs := Below.refl w29.heap.size w29
      have FhC := Lib.hid hC
      clear hC
      have FhD := Lib.hid hD
      clear hD
      have FA4 := Lib.hid A4
      clear A4
      have FX5 := Lib.hid X5
      clear X5
      have FU10 := Lib.hid U10
      clear U10
      have FV11 := Lib.hid V11
      clear V11
      go_loopw [152] (fun s152 wq => ∃ i : Nat, i ≤ X.length ∧ s152 = .int .i64 i ∧ Below w29.heap.size w29 wq ∧ Bx wq (w4.heap.size) 36 #[.bool sh6, .slice ah6 nh6 ch6, .slice Ah6 Nh6 Ch6] ∧ Bx wq (w6.heap.size) 36 #[.bool sh7, .slice ah7 nh7 ch7, .slice Ah7 Nh7 Ch7] ∧ PV wq (.agg #[.bool sh6, .slice ah6 nh6 ch6, .slice Ah6 Nh6 Ch6]) (f) ∧ PV wq (.agg #[.bool sh7, .slice ah7 nh7 ch7, .slice Ah7 Nh7 Ch7]) (c)) (fun s152 _ => X.length - (intOf s152).toNat)
      case atStart => exact ⟨0, Nat.zero_le _, rfl, hs, Blpart, Blfactor, h6, h7⟩
      case round => as_aux_lemma =>
        clear Blpart Blfactor h6 h7 hs
        obtain ⟨i, k_le, rfl, hs, Blpart, Blfactor, h6, h7⟩ := hrel
        by_cases q16 : i < X.length
        · have q16d : ((i : Int) < (X.length : Int)) = True := eq_true (by omega)
          by_cases q17 : k ≤ i
          · have q17d : ((k : Int) ≤ (i : Int)) = True := eq_true (by omega)
            go_upto_region 31 with fail
            have SW18a := IntWalk.i64_in ((i : Int) + 1) (by omega)
            have SW18b : (0 : Int) ≤ (i : Int) + 1 := by omega
            have SW18c : ((i : Int) + 1).toNat = (i + 1) := by omega
            have SW18d : (i : Int) + 1 < (U.length : Int) := by omega
            have BI19a : (i + 1) < U.length := by omega
            have BI19b : ((i : Int) + 1 : Int) < (U.length : Int) := by omega
            obtain ⟨ge20a, ae20a, ne20a, ce20a, Ae20a, Ne20a, De20a, ge20b, ae20b, ne20b, ce20b, Ae20b, Ne20b, De20b, Ee200, Ee201, Ee202, Ee203, Ee204, Ee205, he20a, he20b, le20⟩ := rowSP_at (rowsJ (C2.kept PC.kept) _ _ _ FU10.out hs) (show (i + 1) < U.length by omega)
            have BI21a : i < X.length := by omega
            have BI21b : ((i : Int) : Int) < (X.length : Int) := by omega
            obtain ⟨ge22a, ae22a, ne22a, ce22a, Ae22a, Ne22a, De22a, ge22b, ae22b, ne22b, ce22b, Ae22b, Ne22b, De22b, Ee220, Ee221, Ee222, Ee223, Ee224, Ee225, he22a, he22b, le22⟩ := rowSP_at (rowsJ (C2.kept PC.kept) _ _ _ FX5.out hs) (show i < X.length by omega)
            obtain ⟨b23, Hb23⟩ : ∃ b : Bool, b = decide (taQ U (i + 1) = taQ X i) := ⟨_, rfl⟩
            replace Hb23 := Lib.hid Hb23
            have q24 : taQ U (i + 1) = taQ X i := (HS.out.1 i (by omega) (i + 1) (if_pos q17).symm).1
            obtain rfl : b23 = true := by rw [Hb23.out]; exact decide_eq_true q24
            have q24H := Lib.hid q24
            clear q24
            obtain ⟨b25, Hb25⟩ : ∃ b : Bool, b = decide (vaQ U (i + 1) = vaQ X i) := ⟨_, rfl⟩
            replace Hb25 := Lib.hid Hb25
            have q26 : vaQ U (i + 1) = vaQ X i := (HS.out.1 i (by omega) (i + 1) (if_pos q17).symm).2
            obtain rfl : b25 = true := by rw [Hb25.out]; exact decide_eq_true q26
            have q26H := Lib.hid q26
            clear q26
            have BI27a : i < V.length := by omega
            have BI27b : ((i : Int) : Int) < (V.length : Int) := by omega
            obtain ⟨ge28a, ae28a, ne28a, ce28a, Ae28a, Ne28a, De28a, ge28b, ae28b, ne28b, ce28b, Ae28b, Ne28b, De28b, Ee280, Ee281, Ee282, Ee283, Ee284, Ee285, he28a, he28b, le28⟩ := rowSP_at (rowsJ (C2.kept PC.kept) _ _ _ FV11.out hs) (show i < V.length by omega)
            obtain ⟨b29, Hb29⟩ : ∃ b : Bool, b = decide (vaQ V i = vaQ X i) := ⟨_, rfl⟩
            replace Hb29 := Lib.hid Hb29
            have q30 : vaQ V i = vaQ X i := (HS.out.2.1 i (by omega)).1
            obtain rfl : b29 = true := by rw [Hb29.out]; exact decide_eq_true q30
            have q30H := Lib.hid q30
            clear q30
            obtain ⟨b31, Hb31⟩ : ∃ b : Bool, b = decide (taQ V i = taQ X i) := ⟨_, rfl⟩
            replace Hb31 := Lib.hid Hb31
            refine U_region (S := fun w' => w'.cell? ⟨bU10, oU10 + (i + 1) * 6, none⟩ = some (.bool ge20a) ∧ w'.cell? ⟨bU10, oU10 + (i + 1) * 6 + 1, none⟩ = some (.slice ae20a ne20a ce20a) ∧ w'.cell? ⟨bU10, oU10 + (i + 1) * 6 + 2, none⟩ = some (.slice Ae20a Ne20a De20a) ∧ w'.cell? ⟨bU10, oU10 + (i + 1) * 6 + 3, none⟩ = some (.bool ge20b) ∧ w'.cell? ⟨bU10, oU10 + (i + 1) * 6 + 4, none⟩ = some (.slice ae20b ne20b ce20b) ∧ w'.cell? ⟨bU10, oU10 + (i + 1) * 6 + 5, none⟩ = some (.slice Ae20b Ne20b De20b) ∧ w'.cell? ⟨bX5, oX5 + i * 6, none⟩ = some (.bool ge22a) ∧ w'.cell? ⟨bX5, oX5 + i * 6 + 1, none⟩ = some (.slice ae22a ne22a ce22a) ∧ w'.cell? ⟨bX5, oX5 + i * 6 + 2, none⟩ = some (.slice Ae22a Ne22a De22a) ∧ w'.cell? ⟨bX5, oX5 + i * 6 + 3, none⟩ = some (.bool ge22b) ∧ w'.cell? ⟨bX5, oX5 + i * 6 + 4, none⟩ = some (.slice ae22b ne22b ce22b) ∧ w'.cell? ⟨bX5, oX5 + i * 6 + 5, none⟩ = some (.slice Ae22b Ne22b De22b) ∧ w'.cell? ⟨bV11, oV11 + i * 6, none⟩ = some (.bool ge28a) ∧ w'.cell? ⟨bV11, oV11 + i * 6 + 1, none⟩ = some (.slice ae28a ne28a ce28a) ∧ w'.cell? ⟨bV11, oV11 + i * 6 + 2, none⟩ = some (.slice Ae28a Ne28a De28a) ∧ w'.cell? ⟨bV11, oV11 + i * 6 + 3, none⟩ = some (.bool ge28b) ∧ w'.cell? ⟨bV11, oV11 + i * 6 + 4, none⟩ = some (.slice ae28b ne28b ce28b) ∧ w'.cell? ⟨bV11, oV11 + i * 6 + 5, none⟩ = some (.slice Ae28b Ne28b De28b)) (by kernel_rfl) 54 ?_
            refine AnyU.abs ?_
            intro w50 hW
            have hb : Below wr.heap.size wr w50 := by rw [hW]; exact bDrew _
            replace hs := bStep hs hb
            replace Blpart := Blpart.mono hb
            replace Blfactor := Blfactor.mono hb
            replace h6 := h6.mono hb
            replace h7 := h7.mono hb
            replace he20a := he20a.mono hb
            replace he20b := he20b.mono hb
            replace he22a := he22a.mono hb
            replace he22b := he22b.mono hb
            replace he28a := he28a.mono hb
            replace he28b := he28b.mono hb
            replace Ee200 := cellK Ee200 hb
            replace Ee201 := cellK Ee201 hb
            replace Ee202 := cellK Ee202 hb
            replace Ee203 := cellK Ee203 hb
            replace Ee204 := cellK Ee204 hb
            replace Ee205 := cellK Ee205 hb
            replace Ee220 := cellK Ee220 hb
            replace Ee221 := cellK Ee221 hb
            replace Ee222 := cellK Ee222 hb
            replace Ee223 := cellK Ee223 hb
            replace Ee224 := cellK Ee224 hb
            replace Ee225 := cellK Ee225 hb
            replace Ee280 := cellK Ee280 hb
            replace Ee281 := cellK Ee281 hb
            replace Ee282 := cellK Ee282 hb
            replace Ee283 := cellK Ee283 hb
            replace Ee284 := cellK Ee284 hb
            replace Ee285 := cellK Ee285 hb
            clear hb hW
            have hH := (show w50.cell? ⟨bU10, oU10 + (i + 1) * 6, none⟩ = some (.bool ge20a) ∧ w50.cell? ⟨bU10, oU10 + (i + 1) * 6 + 1, none⟩ = some (.slice ae20a ne20a ce20a) ∧ w50.cell? ⟨bU10, oU10 + (i + 1) * 6 + 2, none⟩ = some (.slice Ae20a Ne20a De20a) ∧ w50.cell? ⟨bU10, oU10 + (i + 1) * 6 + 3, none⟩ = some (.bool ge20b) ∧ w50.cell? ⟨bU10, oU10 + (i + 1) * 6 + 4, none⟩ = some (.slice ae20b ne20b ce20b) ∧ w50.cell? ⟨bU10, oU10 + (i + 1) * 6 + 5, none⟩ = some (.slice Ae20b Ne20b De20b) ∧ w50.cell? ⟨bX5, oX5 + i * 6, none⟩ = some (.bool ge22a) ∧ w50.cell? ⟨bX5, oX5 + i * 6 + 1, none⟩ = some (.slice ae22a ne22a ce22a) ∧ w50.cell? ⟨bX5, oX5 + i * 6 + 2, none⟩ = some (.slice Ae22a Ne22a De22a) ∧ w50.cell? ⟨bX5, oX5 + i * 6 + 3, none⟩ = some (.bool ge22b) ∧ w50.cell? ⟨bX5, oX5 + i * 6 + 4, none⟩ = some (.slice ae22b ne22b ce22b) ∧ w50.cell? ⟨bX5, oX5 + i * 6 + 5, none⟩ = some (.slice Ae22b Ne22b De22b) ∧ w50.cell? ⟨bV11, oV11 + i * 6, none⟩ = some (.bool ge28a) ∧ w50.cell? ⟨bV11, oV11 + i * 6 + 1, none⟩ = some (.slice ae28a ne28a ce28a) ∧ w50.cell? ⟨bV11, oV11 + i * 6 + 2, none⟩ = some (.slice Ae28a Ne28a De28a) ∧ w50.cell? ⟨bV11, oV11 + i * 6 + 3, none⟩ = some (.bool ge28b) ∧ w50.cell? ⟨bV11, oV11 + i * 6 + 4, none⟩ = some (.slice ae28b ne28b ce28b) ∧ w50.cell? ⟨bV11, oV11 + i * 6 + 5, none⟩ = some (.slice Ae28b Ne28b De28b) from ⟨Ee200, Ee201, Ee202, Ee203, Ee204, Ee205, Ee220, Ee221, Ee222, Ee223, Ee224, Ee225, Ee280, Ee281, Ee282, Ee283, Ee284, Ee285⟩)
            refine U_takeN (i := 0) (d := 161) (v := ?_) rfl rfl rfl (by kernel_rfl) (by kernel_rfl) (by kernel_rfl) (fun _ _ _ h => h) (Or.inl ⟨by rfl, ?_⟩) hH ?_
            rotate_left
            · intro w hSw
              try dsimp only at hSw
              go_simp
              try with_reducible rfl
            simp only [LY]
            refine U_takeN (i := 1) (d := 162) (v := ?_) rfl rfl rfl (by kernel_rfl) (by kernel_rfl) (by kernel_rfl) (fun _ _ _ h => h) (Or.inl ⟨by rfl, ?_⟩) hH ?_
            rotate_left
            · intro w hSw
              try dsimp only at hSw
              go_simp
              try with_reducible rfl
            simp only [LY]
            refine U_takeN (i := 2) (d := 163) (v := ?_) rfl rfl rfl (by kernel_rfl) (by kernel_rfl) (by kernel_rfl) (fun _ _ _ h => h) (Or.inl ⟨by rfl, ?_⟩) hH ?_
            rotate_left
            · intro w hSw
              try dsimp only at hSw
              go_simp
              try with_reducible rfl
            simp only [LY]
            refine U_takeN (i := 3) (d := 164) (v := ?_) rfl rfl rfl (by kernel_rfl) (by kernel_rfl) (by kernel_rfl) (fun _ _ _ h => h) (Or.inl ⟨by rfl, ?_⟩) hH ?_
            rotate_left
            · intro w hSw
              try dsimp only at hSw
              go_simp
              try with_reducible rfl
            simp only [LY]
            refine U_takeN (i := 4) (d := 165) (v := ?_) rfl rfl rfl (by kernel_rfl) (by kernel_rfl) (by kernel_rfl) (fun _ _ _ h => h) (Or.inl ⟨by rfl, ?_⟩) hH ?_
            rotate_left
            · intro w hSw
              try dsimp only at hSw
              go_simp
              try with_reducible rfl
            simp only [LY]
            refine U_takeN (i := 5) (d := 166) (v := ?_) rfl rfl rfl (by kernel_rfl) (by kernel_rfl) (by kernel_rfl) (fun _ _ _ h => h) (Or.inl ⟨by rfl, ?_⟩) hH ?_
            rotate_left
            · intro w hSw
              try dsimp only at hSw
              go_simp
              try with_reducible rfl
            simp only [LY]
            refine U_takeN (i := 6) (d := 167) (v := ?_) rfl rfl rfl (by kernel_rfl) (by kernel_rfl) (by kernel_rfl) (fun _ _ _ h => h) (Or.inl ⟨by rfl, ?_⟩) hH ?_
            rotate_left
            · intro w hSw
              try dsimp only at hSw
              go_simp
              try with_reducible rfl
            simp only [LY]
            refine U_takeN (i := 7) (d := 168) (v := ?_) rfl rfl rfl (by kernel_rfl) (by kernel_rfl) (by kernel_rfl) (fun _ _ _ h => h) (Or.inl ⟨by rfl, ?_⟩) hH ?_
            rotate_left
            · intro w hSw
              try dsimp only at hSw
              go_simp
              try with_reducible rfl
            simp only [LY]
            refine U_takeN (i := 8) (d := 169) (v := ?_) rfl rfl rfl (by kernel_rfl) (by kernel_rfl) (by kernel_rfl) (fun _ _ _ h => h) (Or.inl ⟨by rfl, ?_⟩) hH ?_
            rotate_left
            · intro w hSw
              try dsimp only at hSw
              go_simp
              try with_reducible rfl
            simp only [LY]
            refine U_takeN (i := 9) (d := 170) (v := ?_) rfl rfl rfl (by kernel_rfl) (by kernel_rfl) (by kernel_rfl) (fun _ _ _ h => h) (Or.inl ⟨by rfl, ?_⟩) hH ?_
            rotate_left
            · intro w hSw
              try dsimp only at hSw
              go_simp
              try with_reducible rfl
            simp only [LY]
            clear hH
            refine U_one (i := 10) (by kernel_rfl) rfl (fun K hK => ?_)
            go_simp
            (with_reducible refine (p_Same_calls _ _ _ _ _ he20a he22a).mono ?_)
            rintro e w51 ⟨rfl, hb⟩
            replace hs := bStep hs hb
            replace Blpart := Blpart.mono hb
            replace Blfactor := Blfactor.mono hb
            replace h6 := h6.mono hb
            replace h7 := h7.mono hb
            replace he20a := he20a.mono hb
            replace he20b := he20b.mono hb
            replace he22a := he22a.mono hb
            replace he22b := he22b.mono hb
            replace he28a := he28a.mono hb
            replace he28b := he28b.mono hb
            replace Ee200 := cellK Ee200 hb
            replace Ee201 := cellK Ee201 hb
            replace Ee202 := cellK Ee202 hb
            replace Ee203 := cellK Ee203 hb
            replace Ee204 := cellK Ee204 hb
            replace Ee205 := cellK Ee205 hb
            replace Ee220 := cellK Ee220 hb
            replace Ee221 := cellK Ee221 hb
            replace Ee222 := cellK Ee222 hb
            replace Ee223 := cellK Ee223 hb
            replace Ee224 := cellK Ee224 hb
            replace Ee225 := cellK Ee225 hb
            replace Ee280 := cellK Ee280 hb
            replace Ee281 := cellK Ee281 hb
            replace Ee282 := cellK Ee282 hb
            replace Ee283 := cellK Ee283 hb
            replace Ee284 := cellK Ee284 hb
            replace Ee285 := cellK Ee285 hb
            clear hb
            rw [← Hb23.out]
            try go_wp2_with fail
            refine hK.out _ _ ⟨Ee200, Ee201, Ee202, Ee203, Ee204, Ee205, Ee220, Ee221, Ee222, Ee223, Ee224, Ee225, Ee280, Ee281, Ee282, Ee283, Ee284, Ee285⟩ (fun hH => ?_)
            clear hK K
            try simp only [LY]
            refine U_takeN (i := 11) (d := 172) (v := ?_) rfl rfl rfl (by kernel_rfl) (by kernel_rfl) (by kernel_rfl) (fun _ _ _ h => h) (Or.inl ⟨by rfl, ?_⟩) hH ?_
            rotate_left
            · intro w hSw
              try dsimp only at hSw
              go_simp
              try with_reducible rfl
            simp only [LY]
            refine U_takeN (i := 12) (d := 173) (v := ?_) rfl rfl rfl (by kernel_rfl) (by kernel_rfl) (by kernel_rfl) (fun _ _ _ h => h) (Or.inl ⟨by rfl, ?_⟩) hH ?_
            rotate_left
            · intro w hSw
              try dsimp only at hSw
              go_simp
              try with_reducible rfl
            simp only [LY]
            refine U_takeN (i := 13) (d := 174) (v := ?_) rfl rfl rfl (by kernel_rfl) (by kernel_rfl) (by kernel_rfl) (fun _ _ _ h => h) (Or.inl ⟨by rfl, ?_⟩) hH ?_
            rotate_left
            · intro w hSw
              try dsimp only at hSw
              go_simp
              try with_reducible rfl
            simp only [LY]
            refine U_takeN (i := 14) (d := 175) (v := ?_) rfl rfl rfl (by kernel_rfl) (by kernel_rfl) (by kernel_rfl) (fun _ _ _ h => h) (Or.inl ⟨by rfl, ?_⟩) hH ?_
            rotate_left
            · intro w hSw
              try dsimp only at hSw
              go_simp
              try with_reducible rfl
            simp only [LY]
            refine U_takeN (i := 15) (d := 176) (v := ?_) rfl rfl rfl (by kernel_rfl) (by kernel_rfl) (by kernel_rfl) (fun _ _ _ h => h) (Or.inl ⟨by rfl, ?_⟩) hH ?_
            rotate_left
            · intro w hSw
              try dsimp only at hSw
              go_simp
              try with_reducible rfl
            simp only [LY]
            refine U_takeN (i := 16) (d := 177) (v := ?_) rfl rfl rfl (by kernel_rfl) (by kernel_rfl) (by kernel_rfl) (fun _ _ _ h => h) (Or.inl ⟨by rfl, ?_⟩) hH ?_
            rotate_left
            · intro w hSw
              try dsimp only at hSw
              go_simp
              try with_reducible rfl
            simp only [LY]
            refine U_takeN (i := 17) (d := 178) (v := ?_) rfl rfl rfl (by kernel_rfl) (by kernel_rfl) (by kernel_rfl) (fun _ _ _ h => h) (Or.inl ⟨by rfl, ?_⟩) hH ?_
            rotate_left
            · intro w hSw
              try dsimp only at hSw
              go_simp
              try with_reducible rfl
            simp only [LY]
            refine U_takeN (i := 18) (d := 179) (v := ?_) rfl rfl rfl (by kernel_rfl) (by kernel_rfl) (by kernel_rfl) (fun _ _ _ h => h) (Or.inl ⟨by rfl, ?_⟩) hH ?_
            rotate_left
            · intro w hSw
              try dsimp only at hSw
              go_simp
              try with_reducible rfl
            simp only [LY]
            refine U_takeN (i := 19) (d := 180) (v := ?_) rfl rfl rfl (by kernel_rfl) (by kernel_rfl) (by kernel_rfl) (fun _ _ _ h => h) (Or.inl ⟨by rfl, ?_⟩) hH ?_
            rotate_left
            · intro w hSw
              try dsimp only at hSw
              go_simp
              try with_reducible rfl
            simp only [LY]
            refine U_takeN (i := 20) (d := 181) (v := ?_) rfl rfl rfl (by kernel_rfl) (by kernel_rfl) (by kernel_rfl) (fun _ _ _ h => h) (Or.inl ⟨by rfl, ?_⟩) hH ?_
            rotate_left
            · intro w hSw
              try dsimp only at hSw
              go_simp
              try with_reducible rfl
            simp only [LY]
            refine U_takeN (i := 21) (d := 182) (v := ?_) rfl rfl rfl (by kernel_rfl) (by kernel_rfl) (by kernel_rfl) (fun _ _ _ h => h) (Or.inl ⟨by rfl, ?_⟩) hH ?_
            rotate_left
            · intro w hSw
              try dsimp only at hSw
              go_simp
              try with_reducible rfl
            simp only [LY]
            refine U_takeN (i := 22) (d := 183) (v := ?_) rfl rfl rfl (by kernel_rfl) (by kernel_rfl) (by kernel_rfl) (fun _ _ _ h => h) (Or.inl ⟨by rfl, ?_⟩) hH ?_
            rotate_left
            · intro w hSw
              try dsimp only at hSw
              go_simp
              try with_reducible rfl
            simp only [LY]
            clear hH
            refine U_one (i := 23) (by kernel_rfl) rfl (fun K hK => ?_)
            go_simp
            (with_reducible refine (p_Same_calls _ _ _ _ _ he20b he22b).mono ?_)
            rintro e w52 ⟨rfl, hb⟩
            replace hs := bStep hs hb
            replace Blpart := Blpart.mono hb
            replace Blfactor := Blfactor.mono hb
            replace h6 := h6.mono hb
            replace h7 := h7.mono hb
            replace he20a := he20a.mono hb
            replace he20b := he20b.mono hb
            replace he22a := he22a.mono hb
            replace he22b := he22b.mono hb
            replace he28a := he28a.mono hb
            replace he28b := he28b.mono hb
            replace Ee200 := cellK Ee200 hb
            replace Ee201 := cellK Ee201 hb
            replace Ee202 := cellK Ee202 hb
            replace Ee203 := cellK Ee203 hb
            replace Ee204 := cellK Ee204 hb
            replace Ee205 := cellK Ee205 hb
            replace Ee220 := cellK Ee220 hb
            replace Ee221 := cellK Ee221 hb
            replace Ee222 := cellK Ee222 hb
            replace Ee223 := cellK Ee223 hb
            replace Ee224 := cellK Ee224 hb
            replace Ee225 := cellK Ee225 hb
            replace Ee280 := cellK Ee280 hb
            replace Ee281 := cellK Ee281 hb
            replace Ee282 := cellK Ee282 hb
            replace Ee283 := cellK Ee283 hb
            replace Ee284 := cellK Ee284 hb
            replace Ee285 := cellK Ee285 hb
            clear hb
            rw [← Hb25.out]
            try go_wp2_with fail
            refine hK.out _ _ ⟨Ee200, Ee201, Ee202, Ee203, Ee204, Ee205, Ee220, Ee221, Ee222, Ee223, Ee224, Ee225, Ee280, Ee281, Ee282, Ee283, Ee284, Ee285⟩ (fun hH => ?_)
            clear hK K
            try simp only [LY]
            refine U_takeN (i := 24) (d := 185) (v := ?_) rfl rfl rfl (by kernel_rfl) (by kernel_rfl) (by kernel_rfl) (fun _ _ _ h => h) (Or.inl ⟨by rfl, ?_⟩) hH ?_
            rotate_left
            · intro w hSw
              try dsimp only at hSw
              go_simp
              try with_reducible rfl
            simp only [LY]
            refine U_takeN (i := 25) (d := 186) (v := ?_) rfl rfl rfl (by kernel_rfl) (by kernel_rfl) (by kernel_rfl) (fun _ _ _ h => h) (Or.inl ⟨by rfl, ?_⟩) hH ?_
            rotate_left
            · intro w hSw
              try dsimp only at hSw
              go_simp
              try with_reducible rfl
            simp only [LY]
            refine U_takeN (i := 26) (d := 187) (v := ?_) rfl rfl rfl (by kernel_rfl) (by kernel_rfl) (by kernel_rfl) (fun _ _ _ h => h) (Or.inl ⟨by rfl, ?_⟩) hH ?_
            rotate_left
            · intro w hSw
              try dsimp only at hSw
              go_simp
              try with_reducible rfl
            simp only [LY]
            refine U_takeN (i := 27) (d := 188) (v := ?_) rfl rfl rfl (by kernel_rfl) (by kernel_rfl) (by kernel_rfl) (fun _ _ _ h => h) (Or.inl ⟨by rfl, ?_⟩) hH ?_
            rotate_left
            · intro w hSw
              try dsimp only at hSw
              go_simp
              try with_reducible rfl
            simp only [LY]
            refine U_takeN (i := 28) (d := 189) (v := ?_) rfl rfl rfl (by kernel_rfl) (by kernel_rfl) (by kernel_rfl) (fun _ _ _ h => h) (Or.inl ⟨by rfl, ?_⟩) hH ?_
            rotate_left
            · intro w hSw
              try dsimp only at hSw
              go_simp
              try with_reducible rfl
            simp only [LY]
            refine U_takeN (i := 29) (d := 190) (v := ?_) rfl rfl rfl (by kernel_rfl) (by kernel_rfl) (by kernel_rfl) (fun _ _ _ h => h) (Or.inl ⟨by rfl, ?_⟩) hH ?_
            rotate_left
            · intro w hSw
              try dsimp only at hSw
              go_simp
              try with_reducible rfl
            simp only [LY]
            refine U_takeN (i := 30) (d := 191) (v := ?_) rfl rfl rfl (by kernel_rfl) (by kernel_rfl) (by kernel_rfl) (fun _ _ _ h => h) (Or.inl ⟨by rfl, ?_⟩) hH ?_
            rotate_left
            · intro w hSw
              try dsimp only at hSw
              go_simp
              try with_reducible rfl
            simp only [LY]
            refine U_takeN (i := 31) (d := 192) (v := ?_) rfl rfl rfl (by kernel_rfl) (by kernel_rfl) (by kernel_rfl) (fun _ _ _ h => h) (Or.inl ⟨by rfl, ?_⟩) hH ?_
            rotate_left
            · intro w hSw
              try dsimp only at hSw
              go_simp
              try with_reducible rfl
            simp only [LY]
            refine U_takeN (i := 32) (d := 193) (v := ?_) rfl rfl rfl (by kernel_rfl) (by kernel_rfl) (by kernel_rfl) (fun _ _ _ h => h) (Or.inl ⟨by rfl, ?_⟩) hH ?_
            rotate_left
            · intro w hSw
              try dsimp only at hSw
              go_simp
              try with_reducible rfl
            simp only [LY]
            refine U_takeN (i := 33) (d := 194) (v := ?_) rfl rfl rfl (by kernel_rfl) (by kernel_rfl) (by kernel_rfl) (fun _ _ _ h => h) (Or.inl ⟨by rfl, ?_⟩) hH ?_
            rotate_left
            · intro w hSw
              try dsimp only at hSw
              go_simp
              try with_reducible rfl
            simp only [LY]
            refine U_takeN (i := 34) (d := 195) (v := ?_) rfl rfl rfl (by kernel_rfl) (by kernel_rfl) (by kernel_rfl) (fun _ _ _ h => h) (Or.inl ⟨by rfl, ?_⟩) hH ?_
            rotate_left
            · intro w hSw
              try dsimp only at hSw
              go_simp
              try with_reducible rfl
            simp only [LY]
            refine U_takeN (i := 35) (d := 196) (v := ?_) rfl rfl rfl (by kernel_rfl) (by kernel_rfl) (by kernel_rfl) (fun _ _ _ h => h) (Or.inl ⟨by rfl, ?_⟩) hH ?_
            rotate_left
            · intro w hSw
              try dsimp only at hSw
              go_simp
              try with_reducible rfl
            simp only [LY]
            refine U_takeN (i := 36) (d := 197) (v := ?_) rfl rfl rfl (by kernel_rfl) (by kernel_rfl) (by kernel_rfl) (fun _ _ _ h => h) (Or.inl ⟨by rfl, ?_⟩) hH ?_
            rotate_left
            · intro w hSw
              try dsimp only at hSw
              go_simp
              try with_reducible rfl
            simp only [LY]
            clear hH
            refine U_one (i := 37) (by kernel_rfl) rfl (fun K hK => ?_)
            go_simp
            (with_reducible refine (p_Same_calls _ _ _ _ _ he28b he22b).mono ?_)
            rintro e w53 ⟨rfl, hb⟩
            replace hs := bStep hs hb
            replace Blpart := Blpart.mono hb
            replace Blfactor := Blfactor.mono hb
            replace h6 := h6.mono hb
            replace h7 := h7.mono hb
            replace he20a := he20a.mono hb
            replace he20b := he20b.mono hb
            replace he22a := he22a.mono hb
            replace he22b := he22b.mono hb
            replace he28a := he28a.mono hb
            replace he28b := he28b.mono hb
            replace Ee200 := cellK Ee200 hb
            replace Ee201 := cellK Ee201 hb
            replace Ee202 := cellK Ee202 hb
            replace Ee203 := cellK Ee203 hb
            replace Ee204 := cellK Ee204 hb
            replace Ee205 := cellK Ee205 hb
            replace Ee220 := cellK Ee220 hb
            replace Ee221 := cellK Ee221 hb
            replace Ee222 := cellK Ee222 hb
            replace Ee223 := cellK Ee223 hb
            replace Ee224 := cellK Ee224 hb
            replace Ee225 := cellK Ee225 hb
            replace Ee280 := cellK Ee280 hb
            replace Ee281 := cellK Ee281 hb
            replace Ee282 := cellK Ee282 hb
            replace Ee283 := cellK Ee283 hb
            replace Ee284 := cellK Ee284 hb
            replace Ee285 := cellK Ee285 hb
            clear hb
            rw [← Hb29.out]
            try go_wp2_with fail
            refine hK.out _ _ ⟨Ee200, Ee201, Ee202, Ee203, Ee204, Ee205, Ee220, Ee221, Ee222, Ee223, Ee224, Ee225, Ee280, Ee281, Ee282, Ee283, Ee284, Ee285⟩ (fun hH => ?_)
            clear hK K
            try simp only [LY]
            refine U_takeN (i := 38) (d := 199) (v := ?_) rfl rfl rfl (by kernel_rfl) (by kernel_rfl) (by kernel_rfl) (fun _ _ _ h => h) (Or.inl ⟨by rfl, ?_⟩) hH ?_
            rotate_left
            · intro w hSw
              try dsimp only at hSw
              go_simp
              try with_reducible rfl
            simp only [LY]
            refine U_takeN (i := 39) (d := 200) (v := ?_) rfl rfl rfl (by kernel_rfl) (by kernel_rfl) (by kernel_rfl) (fun _ _ _ h => h) (Or.inl ⟨by rfl, ?_⟩) hH ?_
            rotate_left
            · intro w hSw
              try dsimp only at hSw
              go_simp
              try with_reducible rfl
            simp only [LY]
            refine U_takeN (i := 40) (d := 201) (v := ?_) rfl rfl rfl (by kernel_rfl) (by kernel_rfl) (by kernel_rfl) (fun _ _ _ h => h) (Or.inl ⟨by rfl, ?_⟩) hH ?_
            rotate_left
            · intro w hSw
              try dsimp only at hSw
              go_simp
              try with_reducible rfl
            simp only [LY]
            refine U_takeN (i := 41) (d := 202) (v := ?_) rfl rfl rfl (by kernel_rfl) (by kernel_rfl) (by kernel_rfl) (fun _ _ _ h => h) (Or.inl ⟨by rfl, ?_⟩) hH ?_
            rotate_left
            · intro w hSw
              try dsimp only at hSw
              go_simp
              try with_reducible rfl
            simp only [LY]
            refine U_takeN (i := 42) (d := 203) (v := ?_) rfl rfl rfl (by kernel_rfl) (by kernel_rfl) (by kernel_rfl) (fun _ _ _ h => h) (Or.inl ⟨by rfl, ?_⟩) hH ?_
            rotate_left
            · intro w hSw
              try dsimp only at hSw
              go_simp
              try with_reducible rfl
            simp only [LY]
            refine U_takeN (i := 43) (d := 204) (v := ?_) rfl rfl rfl (by kernel_rfl) (by kernel_rfl) (by kernel_rfl) (fun _ _ _ h => h) (Or.inl ⟨by rfl, ?_⟩) hH ?_
            rotate_left
            · intro w hSw
              try dsimp only at hSw
              go_simp
              try with_reducible rfl
            simp only [LY]
            refine U_takeN (i := 44) (d := 205) (v := ?_) rfl rfl rfl (by kernel_rfl) (by kernel_rfl) (by kernel_rfl) (fun _ _ _ h => h) (Or.inl ⟨by rfl, ?_⟩) hH ?_
            rotate_left
            · intro w hSw
              try dsimp only at hSw
              go_simp
              try with_reducible rfl
            simp only [LY]
            refine U_takeN (i := 45) (d := 206) (v := ?_) rfl rfl rfl (by kernel_rfl) (by kernel_rfl) (by kernel_rfl) (fun _ _ _ h => h) (Or.inl ⟨by rfl, ?_⟩) hH ?_
            rotate_left
            · intro w hSw
              try dsimp only at hSw
              go_simp
              try with_reducible rfl
            simp only [LY]
            refine U_takeN (i := 46) (d := 207) (v := ?_) rfl rfl rfl (by kernel_rfl) (by kernel_rfl) (by kernel_rfl) (fun _ _ _ h => h) (Or.inl ⟨by rfl, ?_⟩) hH ?_
            rotate_left
            · intro w hSw
              try dsimp only at hSw
              go_simp
              try with_reducible rfl
            simp only [LY]
            refine U_takeN (i := 47) (d := 208) (v := ?_) rfl rfl rfl (by kernel_rfl) (by kernel_rfl) (by kernel_rfl) (fun _ _ _ h => h) (Or.inl ⟨by rfl, ?_⟩) hH ?_
            rotate_left
            · intro w hSw
              try dsimp only at hSw
              go_simp
              try with_reducible rfl
            simp only [LY]
            refine U_takeN (i := 48) (d := 209) (v := ?_) rfl rfl rfl (by kernel_rfl) (by kernel_rfl) (by kernel_rfl) (fun _ _ _ h => h) (Or.inl ⟨by rfl, ?_⟩) hH ?_
            rotate_left
            · intro w hSw
              try dsimp only at hSw
              go_simp
              try with_reducible rfl
            simp only [LY]
            refine U_takeN (i := 49) (d := 210) (v := ?_) rfl rfl rfl (by kernel_rfl) (by kernel_rfl) (by kernel_rfl) (fun _ _ _ h => h) (Or.inl ⟨by rfl, ?_⟩) hH ?_
            rotate_left
            · intro w hSw
              try dsimp only at hSw
              go_simp
              try with_reducible rfl
            simp only [LY]
            refine U_takeN (i := 50) (d := 211) (v := ?_) rfl rfl rfl (by kernel_rfl) (by kernel_rfl) (by kernel_rfl) (fun _ _ _ h => h) (Or.inl ⟨by rfl, ?_⟩) hH ?_
            rotate_left
            · intro w hSw
              try dsimp only at hSw
              go_simp
              try with_reducible rfl
            simp only [LY]
            clear hH
            refine U_one (i := 51) (by kernel_rfl) rfl (fun K hK => ?_)
            go_simp
            (with_reducible refine (p_Same_calls _ _ _ _ _ he28a he22a).mono ?_)
            rintro e w54 ⟨rfl, hb⟩
            replace hs := bStep hs hb
            replace Blpart := Blpart.mono hb
            replace Blfactor := Blfactor.mono hb
            replace h6 := h6.mono hb
            replace h7 := h7.mono hb
            replace he20a := he20a.mono hb
            replace he20b := he20b.mono hb
            replace he22a := he22a.mono hb
            replace he22b := he22b.mono hb
            replace he28a := he28a.mono hb
            replace he28b := he28b.mono hb
            replace Ee200 := cellK Ee200 hb
            replace Ee201 := cellK Ee201 hb
            replace Ee202 := cellK Ee202 hb
            replace Ee203 := cellK Ee203 hb
            replace Ee204 := cellK Ee204 hb
            replace Ee205 := cellK Ee205 hb
            replace Ee220 := cellK Ee220 hb
            replace Ee221 := cellK Ee221 hb
            replace Ee222 := cellK Ee222 hb
            replace Ee223 := cellK Ee223 hb
            replace Ee224 := cellK Ee224 hb
            replace Ee225 := cellK Ee225 hb
            replace Ee280 := cellK Ee280 hb
            replace Ee281 := cellK Ee281 hb
            replace Ee282 := cellK Ee282 hb
            replace Ee283 := cellK Ee283 hb
            replace Ee284 := cellK Ee284 hb
            replace Ee285 := cellK Ee285 hb
            clear hb
            rw [← Hb31.out]
            try go_wp2_with fail
            refine hK.out _ _ ⟨Ee200, Ee201, Ee202, Ee203, Ee204, Ee205, Ee220, Ee221, Ee222, Ee223, Ee224, Ee225, Ee280, Ee281, Ee282, Ee283, Ee284, Ee285⟩ (fun hH => ?_)
            clear hK K
            try simp only [LY]
            refine U_takeN (i := 52) (d := 213) (v := ?_) rfl rfl rfl (by kernel_rfl) (by kernel_rfl) (by kernel_rfl) (fun _ _ _ h => h) (Or.inl ⟨by rfl, ?_⟩) hH ?_
            rotate_left
            · intro w hSw
              try dsimp only at hSw
              go_simp
              try with_reducible rfl
            simp only [LY]
            refine U_takeN (i := 53) (d := 214) (v := ?_) rfl rfl rfl (by kernel_rfl) (by kernel_rfl) (by kernel_rfl) (fun _ _ _ h => h) (Or.inl ⟨by rfl, ?_⟩) hH ?_
            rotate_left
            · intro w hSw
              try dsimp only at hSw
              go_simp
              try with_reducible rfl
            simp only [LY]
            clear hH
            refine U_endN (by kernel_rfl) ?_
            clear Ee200 Ee201 Ee202 Ee203 Ee204 Ee205 Ee220 Ee221 Ee222 Ee223 Ee224 Ee225 Ee280 Ee281 Ee282 Ee283 Ee284 Ee285
            have q32 : taQ V i = taQ X i := (HS.out.2.1 i (by omega)).2
            obtain rfl : b31 = true := by rw [Hb31.out]; exact decide_eq_true q32
            have q32H := Lib.hid q32
            clear q32
            go_upto_region 33 with fail
            clear le20 le22 le28
            by_cases q33 : 0 < i
            · have q33d : ((0 : Int) < (i : Int)) = True := eq_true (by omega)
              obtain ⟨ge34a, ae34a, ne34a, ce34a, Ae34a, Ne34a, De34a, ge34b, ae34b, ne34b, ce34b, Ae34b, Ne34b, De34b, Ee340, Ee341, Ee342, Ee343, Ee344, Ee345, he34a, he34b, le34⟩ := rowSP_at (rowsJ (C2.kept PC.kept) _ _ _ FX5.out hs) (show i < X.length by omega)
              have SW35a := IntWalk.i64_in ((i : Int) - 1) (by omega)
              have SW35b : (0 : Int) ≤ (i : Int) - 1 := by omega
              have SW35c : ((i : Int) - 1).toNat = (i - 1) := by omega
              have SW35d : (i : Int) - 1 < (X.length : Int) := by omega
              have SW35e : (1 : Int) ≤ (i : Int) := by omega
              have SW35f : (i : Int) < (X.length : Int) + 1 := by omega
              have BI36a : (i - 1) < X.length := by omega
              have BI36b : ((i : Int) - 1 : Int) < (X.length : Int) := by omega
              obtain ⟨ge37a, ae37a, ne37a, ce37a, Ae37a, Ne37a, De37a, ge37b, ae37b, ne37b, ce37b, Ae37b, Ne37b, De37b, Ee370, Ee371, Ee372, Ee373, Ee374, Ee375, he37a, he37b, le37⟩ := rowSP_at (rowsJ (C2.kept PC.kept) _ _ _ FX5.out hs) (show (i - 1) < X.length by omega)
              obtain ⟨sg38, Hsg38⟩ : ∃ s : Int, s = sgQ ((taQ X i) - (taQ X (i - 1))) := ⟨_, rfl⟩
              replace Hsg38 := Lib.hid Hsg38
              refine U_region (S := fun w' => w'.cell? ⟨bX5, oX5 + i * 6, none⟩ = some (.bool ge34a) ∧ w'.cell? ⟨bX5, oX5 + i * 6 + 1, none⟩ = some (.slice ae34a ne34a ce34a) ∧ w'.cell? ⟨bX5, oX5 + i * 6 + 2, none⟩ = some (.slice Ae34a Ne34a De34a) ∧ w'.cell? ⟨bX5, oX5 + i * 6 + 3, none⟩ = some (.bool ge34b) ∧ w'.cell? ⟨bX5, oX5 + i * 6 + 4, none⟩ = some (.slice ae34b ne34b ce34b) ∧ w'.cell? ⟨bX5, oX5 + i * 6 + 5, none⟩ = some (.slice Ae34b Ne34b De34b) ∧ w'.cell? ⟨bX5, oX5 + (i - 1) * 6, none⟩ = some (.bool ge37a) ∧ w'.cell? ⟨bX5, oX5 + (i - 1) * 6 + 1, none⟩ = some (.slice ae37a ne37a ce37a) ∧ w'.cell? ⟨bX5, oX5 + (i - 1) * 6 + 2, none⟩ = some (.slice Ae37a Ne37a De37a) ∧ w'.cell? ⟨bX5, oX5 + (i - 1) * 6 + 3, none⟩ = some (.bool ge37b) ∧ w'.cell? ⟨bX5, oX5 + (i - 1) * 6 + 4, none⟩ = some (.slice ae37b ne37b ce37b) ∧ w'.cell? ⟨bX5, oX5 + (i - 1) * 6 + 5, none⟩ = some (.slice Ae37b Ne37b De37b)) (by kernel_rfl) 17 ?_
              refine AnyU.abs ?_
              intro w55 hW
              have hb : Below w54.heap.size w54 w55 := by rw [hW]; exact bDrew _
              replace hs := bStep hs hb
              replace Blpart := Blpart.mono hb
              replace Blfactor := Blfactor.mono hb
              replace h6 := h6.mono hb
              replace h7 := h7.mono hb
              replace he20a := he20a.mono hb
              replace he20b := he20b.mono hb
              replace he22a := he22a.mono hb
              replace he22b := he22b.mono hb
              replace he28a := he28a.mono hb
              replace he28b := he28b.mono hb
              replace he34a := he34a.mono hb
              replace he34b := he34b.mono hb
              replace he37a := he37a.mono hb
              replace he37b := he37b.mono hb
              replace Ee340 := cellK Ee340 hb
              replace Ee341 := cellK Ee341 hb
              replace Ee342 := cellK Ee342 hb
              replace Ee343 := cellK Ee343 hb
              replace Ee344 := cellK Ee344 hb
              replace Ee345 := cellK Ee345 hb
              replace Ee370 := cellK Ee370 hb
              replace Ee371 := cellK Ee371 hb
              replace Ee372 := cellK Ee372 hb
              replace Ee373 := cellK Ee373 hb
              replace Ee374 := cellK Ee374 hb
              replace Ee375 := cellK Ee375 hb
              clear hb hW
              have hH := (show w55.cell? ⟨bX5, oX5 + i * 6, none⟩ = some (.bool ge34a) ∧ w55.cell? ⟨bX5, oX5 + i * 6 + 1, none⟩ = some (.slice ae34a ne34a ce34a) ∧ w55.cell? ⟨bX5, oX5 + i * 6 + 2, none⟩ = some (.slice Ae34a Ne34a De34a) ∧ w55.cell? ⟨bX5, oX5 + i * 6 + 3, none⟩ = some (.bool ge34b) ∧ w55.cell? ⟨bX5, oX5 + i * 6 + 4, none⟩ = some (.slice ae34b ne34b ce34b) ∧ w55.cell? ⟨bX5, oX5 + i * 6 + 5, none⟩ = some (.slice Ae34b Ne34b De34b) ∧ w55.cell? ⟨bX5, oX5 + (i - 1) * 6, none⟩ = some (.bool ge37a) ∧ w55.cell? ⟨bX5, oX5 + (i - 1) * 6 + 1, none⟩ = some (.slice ae37a ne37a ce37a) ∧ w55.cell? ⟨bX5, oX5 + (i - 1) * 6 + 2, none⟩ = some (.slice Ae37a Ne37a De37a) ∧ w55.cell? ⟨bX5, oX5 + (i - 1) * 6 + 3, none⟩ = some (.bool ge37b) ∧ w55.cell? ⟨bX5, oX5 + (i - 1) * 6 + 4, none⟩ = some (.slice ae37b ne37b ce37b) ∧ w55.cell? ⟨bX5, oX5 + (i - 1) * 6 + 5, none⟩ = some (.slice Ae37b Ne37b De37b) from ⟨Ee340, Ee341, Ee342, Ee343, Ee344, Ee345, Ee370, Ee371, Ee372, Ee373, Ee374, Ee375⟩)
              refine U_takeN (i := 0) (d := 215) (v := ?_) rfl rfl rfl (by kernel_rfl) (by kernel_rfl) (by kernel_rfl) (fun _ _ _ h => h) (Or.inl ⟨by rfl, ?_⟩) hH ?_
              rotate_left
              · intro w hSw
                try dsimp only at hSw
                go_simp
                try with_reducible rfl
              simp only [LY]
              refine U_takeN (i := 1) (d := 216) (v := ?_) rfl rfl rfl (by kernel_rfl) (by kernel_rfl) (by kernel_rfl) (fun _ _ _ h => h) (Or.inl ⟨by rfl, ?_⟩) hH ?_
              rotate_left
              · intro w hSw
                try dsimp only at hSw
                go_simp
                try with_reducible rfl
              simp only [LY]
              refine U_takeN (i := 2) (d := 217) (v := ?_) rfl rfl rfl (by kernel_rfl) (by kernel_rfl) (by kernel_rfl) (fun _ _ _ h => h) (Or.inl ⟨by rfl, ?_⟩) hH ?_
              rotate_left
              · intro w hSw
                try dsimp only at hSw
                go_simp
                try with_reducible rfl
              simp only [LY]
              refine U_takeN (i := 3) (d := 218) (v := ?_) rfl rfl rfl (by kernel_rfl) (by kernel_rfl) (by kernel_rfl) (fun _ _ _ h => h) (Or.inl ⟨by rfl, ?_⟩) hH ?_
              rotate_left
              · intro w hSw
                try dsimp only at hSw
                go_simp
                try with_reducible rfl
              simp only [LY]
              refine U_takeN (i := 4) (d := 219) (v := ?_) rfl rfl rfl (by kernel_rfl) (by kernel_rfl) (by kernel_rfl) (fun _ _ _ h => h) (Or.inl ⟨by rfl, ?_⟩) hH ?_
              rotate_left
              · intro w hSw
                try dsimp only at hSw
                go_simp
                try with_reducible rfl
              simp only [LY]
              refine U_takeN (i := 5) (d := 220) (v := ?_) rfl rfl rfl (by kernel_rfl) (by kernel_rfl) (by kernel_rfl) (fun _ _ _ h => h) (Or.inl ⟨by rfl, ?_⟩) hH ?_
              rotate_left
              · intro w hSw
                try dsimp only at hSw
                go_simp
                try with_reducible rfl
              simp only [LY]
              refine U_takeN (i := 6) (d := 221) (v := ?_) rfl rfl rfl (by kernel_rfl) (by kernel_rfl) (by kernel_rfl) (fun _ _ _ h => h) (Or.inl ⟨by rfl, ?_⟩) hH ?_
              rotate_left
              · intro w hSw
                try dsimp only at hSw
                go_simp
                try with_reducible rfl
              simp only [LY]
              refine U_takeN (i := 7) (d := 222) (v := ?_) rfl rfl rfl (by kernel_rfl) (by kernel_rfl) (by kernel_rfl) (fun _ _ _ h => h) (Or.inl ⟨by rfl, ?_⟩) hH ?_
              rotate_left
              · intro w hSw
                try dsimp only at hSw
                go_simp
                try with_reducible rfl
              simp only [LY]
              refine U_takeN (i := 8) (d := 223) (v := ?_) rfl rfl rfl (by kernel_rfl) (by kernel_rfl) (by kernel_rfl) (fun _ _ _ h => h) (Or.inl ⟨by rfl, ?_⟩) hH ?_
              rotate_left
              · intro w hSw
                try dsimp only at hSw
                go_simp
                try with_reducible rfl
              simp only [LY]
              refine U_takeN (i := 9) (d := 224) (v := ?_) rfl rfl rfl (by kernel_rfl) (by kernel_rfl) (by kernel_rfl) (fun _ _ _ h => h) (Or.inl ⟨by rfl, ?_⟩) hH ?_
              rotate_left
              · intro w hSw
                try dsimp only at hSw
                go_simp
                try with_reducible rfl
              simp only [LY]
              refine U_takeN (i := 10) (d := 225) (v := ?_) rfl rfl rfl (by kernel_rfl) (by kernel_rfl) (by kernel_rfl) (fun _ _ _ h => h) (Or.inl ⟨by rfl, ?_⟩) hH ?_
              rotate_left
              · intro w hSw
                try dsimp only at hSw
                go_simp
                try with_reducible rfl
              simp only [LY]
              refine U_takeN (i := 11) (d := 226) (v := ?_) rfl rfl rfl (by kernel_rfl) (by kernel_rfl) (by kernel_rfl) (fun _ _ _ h => h) (Or.inl ⟨by rfl, ?_⟩) hH ?_
              rotate_left
              · intro w hSw
                try dsimp only at hSw
                go_simp
                try with_reducible rfl
              simp only [LY]
              refine U_takeN (i := 12) (d := 227) (v := ?_) rfl rfl rfl (by kernel_rfl) (by kernel_rfl) (by kernel_rfl) (fun _ _ _ h => h) (Or.inl ⟨by rfl, ?_⟩) hH ?_
              rotate_left
              · intro w hSw
                try dsimp only at hSw
                go_simp
                try with_reducible rfl
              simp only [LY]
              refine U_takeN (i := 13) (d := 228) (v := ?_) rfl rfl rfl (by kernel_rfl) (by kernel_rfl) (by kernel_rfl) (fun _ _ _ h => h) (Or.inl ⟨by rfl, ?_⟩) hH ?_
              rotate_left
              · intro w hSw
                try dsimp only at hSw
                go_simp
                try with_reducible rfl
              simp only [LY]
              clear hH
              refine U_one (i := 14) (by kernel_rfl) rfl (fun K hK => ?_)
              go_simp
              (with_reducible refine (pCmp he34a he37a (SzQ.fit (HSX.out i (by omega)).1) (SzQ.fit (HSX.out (i - 1) (by omega)).1)).mono ?_)
              rintro e w56 ⟨rfl, hb⟩
              replace hs := bStep hs hb
              replace Blpart := Blpart.mono hb
              replace Blfactor := Blfactor.mono hb
              replace h6 := h6.mono hb
              replace h7 := h7.mono hb
              replace he20a := he20a.mono hb
              replace he20b := he20b.mono hb
              replace he22a := he22a.mono hb
              replace he22b := he22b.mono hb
              replace he28a := he28a.mono hb
              replace he28b := he28b.mono hb
              replace he34a := he34a.mono hb
              replace he34b := he34b.mono hb
              replace he37a := he37a.mono hb
              replace he37b := he37b.mono hb
              replace Ee340 := cellK Ee340 hb
              replace Ee341 := cellK Ee341 hb
              replace Ee342 := cellK Ee342 hb
              replace Ee343 := cellK Ee343 hb
              replace Ee344 := cellK Ee344 hb
              replace Ee345 := cellK Ee345 hb
              replace Ee370 := cellK Ee370 hb
              replace Ee371 := cellK Ee371 hb
              replace Ee372 := cellK Ee372 hb
              replace Ee373 := cellK Ee373 hb
              replace Ee374 := cellK Ee374 hb
              replace Ee375 := cellK Ee375 hb
              clear hb
              rw [← Hsg38.out]
              try go_wp2_with fail
              refine hK.out _ _ ⟨Ee340, Ee341, Ee342, Ee343, Ee344, Ee345, Ee370, Ee371, Ee372, Ee373, Ee374, Ee375⟩ (fun hH => ?_)
              clear hK K
              try simp only [LY]
              refine U_takeN (i := 15) (d := 230) (v := ?_) rfl rfl rfl (by kernel_rfl) (by kernel_rfl) (by kernel_rfl) (fun _ _ _ h => h) (Or.inl ⟨by rfl, ?_⟩) hH ?_
              rotate_left
              · intro w hSw
                try dsimp only at hSw
                go_simp
                try with_reducible rfl
              simp only [LY]
              refine U_takeN (i := 16) (d := 231) (v := ?_) rfl rfl rfl (by kernel_rfl) (by kernel_rfl) (by kernel_rfl) (fun _ _ _ h => h) (Or.inl ⟨by rfl, ?_⟩) hH ?_
              rotate_left
              · intro w hSw
                try dsimp only at hSw
                go_simp
                try with_reducible rfl
              simp only [LY]
              clear hH
              refine U_endN (by kernel_rfl) ?_
              clear Ee340 Ee341 Ee342 Ee343 Ee344 Ee345 Ee370 Ee371 Ee372 Ee373 Ee374 Ee375
              have q39 : ¬ (taQ X i ≤ taQ X (i - 1)) := (split_up HP.out HX.out (by omega) (by omega))
              have q39_ : ¬ (sg38 ≤ 0) := by have h := sq_le (taQ X i) (taQ X (i - 1)); rw [← Hsg38.out] at h; exact fun h1 => q39 (h.1 h1)
              have q39H := Lib.hid q39
              clear q39
              have q39d : decide (sg38 ≤ 0) = false := decide_eq_false q39_
              go_wp2
              go_roundw
              case rel => exact ⟨i + 1, by omega, by go_num, hs, Blpart, Blfactor, h6, h7⟩
              all_goals first | (simp [intOf]; done) | (simp [intOf]; omega)
            · have q33d : ((0 : Int) < (i : Int)) = False := eq_false (by omega)
              refine U_region (S := fun w' => True) (by kernel_rfl) 17 ?_
              refine AnyU.abs ?_
              intro w55 hW
              have hb : Below w54.heap.size w54 w55 := by rw [hW]; exact bDrew _
              replace hs := bStep hs hb
              replace Blpart := Blpart.mono hb
              replace Blfactor := Blfactor.mono hb
              replace h6 := h6.mono hb
              replace h7 := h7.mono hb
              replace he20a := he20a.mono hb
              replace he20b := he20b.mono hb
              replace he22a := he22a.mono hb
              replace he22b := he22b.mono hb
              replace he28a := he28a.mono hb
              replace he28b := he28b.mono hb
              clear hb hW
              have hH := (show True from True.intro)
              refine U_takeN (i := 0) (d := 215) (v := ?_) rfl rfl rfl (by kernel_rfl) (by kernel_rfl) (by kernel_rfl) (fun _ _ _ h => h) (Or.inl ⟨by rfl, ?_⟩) hH ?_
              rotate_left
              · intro w hSw
                try dsimp only at hSw
                go_simp
                try with_reducible rfl
              simp only [LY]
              refine U_takeN (i := 1) (d := 216) (v := ?_) rfl rfl rfl (by kernel_rfl) (by kernel_rfl) (by kernel_rfl) (fun _ _ _ h => h) (Or.inl ⟨by rfl, ?_⟩) hH ?_
              rotate_left
              · intro w hSw
                try dsimp only at hSw
                go_simp
                try with_reducible rfl
              simp only [LY]
              refine U_takeN (i := 2) (d := 217) (v := ?_) rfl rfl rfl (by kernel_rfl) (by kernel_rfl) (by kernel_rfl) (fun _ _ _ h => h) (Or.inl ⟨by rfl, ?_⟩) hH ?_
              rotate_left
              · intro w hSw
                try dsimp only at hSw
                go_simp
                try with_reducible rfl
              simp only [LY]
              refine U_takeN (i := 3) (d := 218) (v := undef) rfl rfl rfl (by kernel_rfl) (by kernel_rfl) (by kernel_rfl) (fun _ _ _ h => h) (Or.inr ⟨by rfl, rfl⟩) hH ?_
              simp only [LY]
              refine U_takeN (i := 4) (d := 219) (v := undef) rfl rfl rfl (by kernel_rfl) (by kernel_rfl) (by kernel_rfl) (fun _ _ _ h => h) (Or.inr ⟨by rfl, rfl⟩) hH ?_
              simp only [LY]
              refine U_takeN (i := 5) (d := 220) (v := undef) rfl rfl rfl (by kernel_rfl) (by kernel_rfl) (by kernel_rfl) (fun _ _ _ h => h) (Or.inr ⟨by rfl, rfl⟩) hH ?_
              simp only [LY]
              refine U_takeN (i := 6) (d := 221) (v := undef) rfl rfl rfl (by kernel_rfl) (by kernel_rfl) (by kernel_rfl) (fun _ _ _ h => h) (Or.inr ⟨by rfl, rfl⟩) hH ?_
              simp only [LY]
              refine U_takeN (i := 7) (d := 222) (v := undef) rfl rfl rfl (by kernel_rfl) (by kernel_rfl) (by kernel_rfl) (fun _ _ _ h => h) (Or.inr ⟨by rfl, rfl⟩) hH ?_
              simp only [LY]
              refine U_takeN (i := 8) (d := 223) (v := undef) rfl rfl rfl (by kernel_rfl) (by kernel_rfl) (by kernel_rfl) (fun _ _ _ h => h) (Or.inr ⟨by rfl, rfl⟩) hH ?_
              simp only [LY]
              refine U_takeN (i := 9) (d := 224) (v := undef) rfl rfl rfl (by kernel_rfl) (by kernel_rfl) (by kernel_rfl) (fun _ _ _ h => h) (Or.inr ⟨by rfl, rfl⟩) hH ?_
              simp only [LY]
              refine U_takeN (i := 10) (d := 225) (v := undef) rfl rfl rfl (by kernel_rfl) (by kernel_rfl) (by kernel_rfl) (fun _ _ _ h => h) (Or.inr ⟨by rfl, rfl⟩) hH ?_
              simp only [LY]
              refine U_takeN (i := 11) (d := 226) (v := undef) rfl rfl rfl (by kernel_rfl) (by kernel_rfl) (by kernel_rfl) (fun _ _ _ h => h) (Or.inr ⟨by rfl, rfl⟩) hH ?_
              simp only [LY]
              refine U_takeN (i := 12) (d := 227) (v := undef) rfl rfl rfl (by kernel_rfl) (by kernel_rfl) (by kernel_rfl) (fun _ _ _ h => h) (Or.inr ⟨by rfl, rfl⟩) hH ?_
              simp only [LY]
              refine U_takeN (i := 13) (d := 228) (v := undef) rfl rfl rfl (by kernel_rfl) (by kernel_rfl) (by kernel_rfl) (fun _ _ _ h => h) (Or.inr ⟨by rfl, rfl⟩) hH ?_
              simp only [LY]
              clear hH
              refine U_one (i := 14) (by kernel_rfl) rfl (fun K hK => ?_)
              go_simp
              refine hK.out _ _ True.intro (fun hH => ?_)
              clear hK K
              try simp only [LY]
              refine U_takeN (i := 15) (d := 230) (v := undef) rfl rfl rfl (by kernel_rfl) (by kernel_rfl) (by kernel_rfl) (fun _ _ _ h => h) (Or.inr ⟨by rfl, rfl⟩) hH ?_
              simp only [LY]
              refine U_takeN (i := 16) (d := 231) (v := ?_) rfl rfl rfl (by kernel_rfl) (by kernel_rfl) (by kernel_rfl) (fun _ _ _ h => h) (Or.inl ⟨by rfl, ?_⟩) hH ?_
              rotate_left
              · intro w hSw
                try dsimp only at hSw
                go_simp
                try with_reducible rfl
              simp only [LY]
              clear hH
              refine U_endN (by kernel_rfl) ?_
              go_wp2
              go_roundw
              case rel => exact ⟨i + 1, by omega, by go_num, hs, Blpart, Blfactor, h6, h7⟩
              all_goals first | (simp [intOf]; done) | (simp [intOf]; omega)
          · have q17d : ((k : Int) ≤ (i : Int)) = False := eq_false (by omega)
            go_upto_region 31 with fail
            have BI18a : i < U.length := by omega
            have BI18b : ((i : Int) : Int) < (U.length : Int) := by omega
            obtain ⟨ge19a, ae19a, ne19a, ce19a, Ae19a, Ne19a, De19a, ge19b, ae19b, ne19b, ce19b, Ae19b, Ne19b, De19b, Ee190, Ee191, Ee192, Ee193, Ee194, Ee195, he19a, he19b, le19⟩ := rowSP_at (rowsJ (C2.kept PC.kept) _ _ _ FU10.out hs) (show i < U.length by omega)
            have BI20a : i < X.length := by omega
            have BI20b : ((i : Int) : Int) < (X.length : Int) := by omega
            obtain ⟨ge21a, ae21a, ne21a, ce21a, Ae21a, Ne21a, De21a, ge21b, ae21b, ne21b, ce21b, Ae21b, Ne21b, De21b, Ee210, Ee211, Ee212, Ee213, Ee214, Ee215, he21a, he21b, le21⟩ := rowSP_at (rowsJ (C2.kept PC.kept) _ _ _ FX5.out hs) (show i < X.length by omega)
            obtain ⟨b22, Hb22⟩ : ∃ b : Bool, b = decide (taQ U i = taQ X i) := ⟨_, rfl⟩
            replace Hb22 := Lib.hid Hb22
            have q23 : taQ U i = taQ X i := (HS.out.1 i (by omega) i (if_neg q17).symm).1
            obtain rfl : b22 = true := by rw [Hb22.out]; exact decide_eq_true q23
            have q23H := Lib.hid q23
            clear q23
            obtain ⟨b24, Hb24⟩ : ∃ b : Bool, b = decide (vaQ U i = vaQ X i) := ⟨_, rfl⟩
            replace Hb24 := Lib.hid Hb24
            have q25 : vaQ U i = vaQ X i := (HS.out.1 i (by omega) i (if_neg q17).symm).2
            obtain rfl : b24 = true := by rw [Hb24.out]; exact decide_eq_true q25
            have q25H := Lib.hid q25
            clear q25
            have BI26a : i < V.length := by omega
            have BI26b : ((i : Int) : Int) < (V.length : Int) := by omega
            obtain ⟨ge27a, ae27a, ne27a, ce27a, Ae27a, Ne27a, De27a, ge27b, ae27b, ne27b, ce27b, Ae27b, Ne27b, De27b, Ee270, Ee271, Ee272, Ee273, Ee274, Ee275, he27a, he27b, le27⟩ := rowSP_at (rowsJ (C2.kept PC.kept) _ _ _ FV11.out hs) (show i < V.length by omega)
            obtain ⟨b28, Hb28⟩ : ∃ b : Bool, b = decide (vaQ V i = vaQ X i) := ⟨_, rfl⟩
            replace Hb28 := Lib.hid Hb28
            have q29 : vaQ V i = vaQ X i := (HS.out.2.1 i (by omega)).1
            obtain rfl : b28 = true := by rw [Hb28.out]; exact decide_eq_true q29
            have q29H := Lib.hid q29
            clear q29
            obtain ⟨b30, Hb30⟩ : ∃ b : Bool, b = decide (taQ V i = taQ X i) := ⟨_, rfl⟩
            replace Hb30 := Lib.hid Hb30
            refine U_region (S := fun w' => w'.cell? ⟨bU10, oU10 + i * 6, none⟩ = some (.bool ge19a) ∧ w'.cell? ⟨bU10, oU10 + i * 6 + 1, none⟩ = some (.slice ae19a ne19a ce19a) ∧ w'.cell? ⟨bU10, oU10 + i * 6 + 2, none⟩ = some (.slice Ae19a Ne19a De19a) ∧ w'.cell? ⟨bU10, oU10 + i * 6 + 3, none⟩ = some (.bool ge19b) ∧ w'.cell? ⟨bU10, oU10 + i * 6 + 4, none⟩ = some (.slice ae19b ne19b ce19b) ∧ w'.cell? ⟨bU10, oU10 + i * 6 + 5, none⟩ = some (.slice Ae19b Ne19b De19b) ∧ w'.cell? ⟨bX5, oX5 + i * 6, none⟩ = some (.bool ge21a) ∧ w'.cell? ⟨bX5, oX5 + i * 6 + 1, none⟩ = some (.slice ae21a ne21a ce21a) ∧ w'.cell? ⟨bX5, oX5 + i * 6 + 2, none⟩ = some (.slice Ae21a Ne21a De21a) ∧ w'.cell? ⟨bX5, oX5 + i * 6 + 3, none⟩ = some (.bool ge21b) ∧ w'.cell? ⟨bX5, oX5 + i * 6 + 4, none⟩ = some (.slice ae21b ne21b ce21b) ∧ w'.cell? ⟨bX5, oX5 + i * 6 + 5, none⟩ = some (.slice Ae21b Ne21b De21b) ∧ w'.cell? ⟨bV11, oV11 + i * 6, none⟩ = some (.bool ge27a) ∧ w'.cell? ⟨bV11, oV11 + i * 6 + 1, none⟩ = some (.slice ae27a ne27a ce27a) ∧ w'.cell? ⟨bV11, oV11 + i * 6 + 2, none⟩ = some (.slice Ae27a Ne27a De27a) ∧ w'.cell? ⟨bV11, oV11 + i * 6 + 3, none⟩ = some (.bool ge27b) ∧ w'.cell? ⟨bV11, oV11 + i * 6 + 4, none⟩ = some (.slice ae27b ne27b ce27b) ∧ w'.cell? ⟨bV11, oV11 + i * 6 + 5, none⟩ = some (.slice Ae27b Ne27b De27b)) (by kernel_rfl) 54 ?_
            refine AnyU.abs ?_
            intro w50 hW
            have hb : Below wr.heap.size wr w50 := by rw [hW]; exact bDrew _
            replace hs := bStep hs hb
            replace Blpart := Blpart.mono hb
            replace Blfactor := Blfactor.mono hb
            replace h6 := h6.mono hb
            replace h7 := h7.mono hb
            replace he19a := he19a.mono hb
            replace he19b := he19b.mono hb
            replace he21a := he21a.mono hb
            replace he21b := he21b.mono hb
            replace he27a := he27a.mono hb
            replace he27b := he27b.mono hb
            replace Ee190 := cellK Ee190 hb
            replace Ee191 := cellK Ee191 hb
            replace Ee192 := cellK Ee192 hb
            replace Ee193 := cellK Ee193 hb
            replace Ee194 := cellK Ee194 hb
            replace Ee195 := cellK Ee195 hb
            replace Ee210 := cellK Ee210 hb
            replace Ee211 := cellK Ee211 hb
            replace Ee212 := cellK Ee212 hb
            replace Ee213 := cellK Ee213 hb
            replace Ee214 := cellK Ee214 hb
            replace Ee215 := cellK Ee215 hb
            replace Ee270 := cellK Ee270 hb
            replace Ee271 := cellK Ee271 hb
            replace Ee272 := cellK Ee272 hb
            replace Ee273 := cellK Ee273 hb
            replace Ee274 := cellK Ee274 hb
            replace Ee275 := cellK Ee275 hb
            clear hb hW
            have hH := (show w50.cell? ⟨bU10, oU10 + i * 6, none⟩ = some (.bool ge19a) ∧ w50.cell? ⟨bU10, oU10 + i * 6 + 1, none⟩ = some (.slice ae19a ne19a ce19a) ∧ w50.cell? ⟨bU10, oU10 + i * 6 + 2, none⟩ = some (.slice Ae19a Ne19a De19a) ∧ w50.cell? ⟨bU10, oU10 + i * 6 + 3, none⟩ = some (.bool ge19b) ∧ w50.cell? ⟨bU10, oU10 + i * 6 + 4, none⟩ = some (.slice ae19b ne19b ce19b) ∧ w50.cell? ⟨bU10, oU10 + i * 6 + 5, none⟩ = some (.slice Ae19b Ne19b De19b) ∧ w50.cell? ⟨bX5, oX5 + i * 6, none⟩ = some (.bool ge21a) ∧ w50.cell? ⟨bX5, oX5 + i * 6 + 1, none⟩ = some (.slice ae21a ne21a ce21a) ∧ w50.cell? ⟨bX5, oX5 + i * 6 + 2, none⟩ = some (.slice Ae21a Ne21a De21a) ∧ w50.cell? ⟨bX5, oX5 + i * 6 + 3, none⟩ = some (.bool ge21b) ∧ w50.cell? ⟨bX5, oX5 + i * 6 + 4, none⟩ = some (.slice ae21b ne21b ce21b) ∧ w50.cell? ⟨bX5, oX5 + i * 6 + 5, none⟩ = some (.slice Ae21b Ne21b De21b) ∧ w50.cell? ⟨bV11, oV11 + i * 6, none⟩ = some (.bool ge27a) ∧ w50.cell? ⟨bV11, oV11 + i * 6 + 1, none⟩ = some (.slice ae27a ne27a ce27a) ∧ w50.cell? ⟨bV11, oV11 + i * 6 + 2, none⟩ = some (.slice Ae27a Ne27a De27a) ∧ w50.cell? ⟨bV11, oV11 + i * 6 + 3, none⟩ = some (.bool ge27b) ∧ w50.cell? ⟨bV11, oV11 + i * 6 + 4, none⟩ = some (.slice ae27b ne27b ce27b) ∧ w50.cell? ⟨bV11, oV11 + i * 6 + 5, none⟩ = some (.slice Ae27b Ne27b De27b) from ⟨Ee190, Ee191, Ee192, Ee193, Ee194, Ee195, Ee210, Ee211, Ee212, Ee213, Ee214, Ee215, Ee270, Ee271, Ee272, Ee273, Ee274, Ee275⟩)
            refine U_takeN (i := 0) (d := 161) (v := ?_) rfl rfl rfl (by kernel_rfl) (by kernel_rfl) (by kernel_rfl) (fun _ _ _ h => h) (Or.inl ⟨by rfl, ?_⟩) hH ?_
            rotate_left
            · intro w hSw
              try dsimp only at hSw
              go_simp
              try with_reducible rfl
            simp only [LY]
            refine U_takeN (i := 1) (d := 162) (v := ?_) rfl rfl rfl (by kernel_rfl) (by kernel_rfl) (by kernel_rfl) (fun _ _ _ h => h) (Or.inl ⟨by rfl, ?_⟩) hH ?_
            rotate_left
            · intro w hSw
              try dsimp only at hSw
              go_simp
              try with_reducible rfl
            simp only [LY]
            refine U_takeN (i := 2) (d := 163) (v := ?_) rfl rfl rfl (by kernel_rfl) (by kernel_rfl) (by kernel_rfl) (fun _ _ _ h => h) (Or.inl ⟨by rfl, ?_⟩) hH ?_
            rotate_left
            · intro w hSw
              try dsimp only at hSw
              go_simp
              try with_reducible rfl
            simp only [LY]
            refine U_takeN (i := 3) (d := 164) (v := ?_) rfl rfl rfl (by kernel_rfl) (by kernel_rfl) (by kernel_rfl) (fun _ _ _ h => h) (Or.inl ⟨by rfl, ?_⟩) hH ?_
            rotate_left
            · intro w hSw
              try dsimp only at hSw
              go_simp
              try with_reducible rfl
            simp only [LY]
            refine U_takeN (i := 4) (d := 165) (v := ?_) rfl rfl rfl (by kernel_rfl) (by kernel_rfl) (by kernel_rfl) (fun _ _ _ h => h) (Or.inl ⟨by rfl, ?_⟩) hH ?_
            rotate_left
            · intro w hSw
              try dsimp only at hSw
              go_simp
              try with_reducible rfl
            simp only [LY]
            refine U_takeN (i := 5) (d := 166) (v := ?_) rfl rfl rfl (by kernel_rfl) (by kernel_rfl) (by kernel_rfl) (fun _ _ _ h => h) (Or.inl ⟨by rfl, ?_⟩) hH ?_
            rotate_left
            · intro w hSw
              try dsimp only at hSw
              go_simp
              try with_reducible rfl
            simp only [LY]
            refine U_takeN (i := 6) (d := 167) (v := ?_) rfl rfl rfl (by kernel_rfl) (by kernel_rfl) (by kernel_rfl) (fun _ _ _ h => h) (Or.inl ⟨by rfl, ?_⟩) hH ?_
            rotate_left
            · intro w hSw
              try dsimp only at hSw
              go_simp
              try with_reducible rfl
            simp only [LY]
            refine U_takeN (i := 7) (d := 168) (v := ?_) rfl rfl rfl (by kernel_rfl) (by kernel_rfl) (by kernel_rfl) (fun _ _ _ h => h) (Or.inl ⟨by rfl, ?_⟩) hH ?_
            rotate_left
            · intro w hSw
              try dsimp only at hSw
              go_simp
              try with_reducible rfl
            simp only [LY]
            refine U_takeN (i := 8) (d := 169) (v := ?_) rfl rfl rfl (by kernel_rfl) (by kernel_rfl) (by kernel_rfl) (fun _ _ _ h => h) (Or.inl ⟨by rfl, ?_⟩) hH ?_
            rotate_left
            · intro w hSw
              try dsimp only at hSw
              go_simp
              try with_reducible rfl
            simp only [LY]
            refine U_takeN (i := 9) (d := 170) (v := ?_) rfl rfl rfl (by kernel_rfl) (by kernel_rfl) (by kernel_rfl) (fun _ _ _ h => h) (Or.inl ⟨by rfl, ?_⟩) hH ?_
            rotate_left
            · intro w hSw
              try dsimp only at hSw
              go_simp
              try with_reducible rfl
            simp only [LY]
            clear hH
            refine U_one (i := 10) (by kernel_rfl) rfl (fun K hK => ?_)
            go_simp
            (with_reducible refine (p_Same_calls _ _ _ _ _ he19a he21a).mono ?_)
            rintro e w51 ⟨rfl, hb⟩
            replace hs := bStep hs hb
            replace Blpart := Blpart.mono hb
            replace Blfactor := Blfactor.mono hb
            replace h6 := h6.mono hb
            replace h7 := h7.mono hb
            replace he19a := he19a.mono hb
            replace he19b := he19b.mono hb
            replace he21a := he21a.mono hb
            replace he21b := he21b.mono hb
            replace he27a := he27a.mono hb
            replace he27b := he27b.mono hb
            replace Ee190 := cellK Ee190 hb
            replace Ee191 := cellK Ee191 hb
            replace Ee192 := cellK Ee192 hb
            replace Ee193 := cellK Ee193 hb
            replace Ee194 := cellK Ee194 hb
            replace Ee195 := cellK Ee195 hb
            replace Ee210 := cellK Ee210 hb
            replace Ee211 := cellK Ee211 hb
            replace Ee212 := cellK Ee212 hb
            replace Ee213 := cellK Ee213 hb
            replace Ee214 := cellK Ee214 hb
            replace Ee215 := cellK Ee215 hb
            replace Ee270 := cellK Ee270 hb
            replace Ee271 := cellK Ee271 hb
            replace Ee272 := cellK Ee272 hb
            replace Ee273 := cellK Ee273 hb
            replace Ee274 := cellK Ee274 hb
            replace Ee275 := cellK Ee275 hb
            clear hb
            rw [← Hb22.out]
            try go_wp2_with fail
            refine hK.out _ _ ⟨Ee190, Ee191, Ee192, Ee193, Ee194, Ee195, Ee210, Ee211, Ee212, Ee213, Ee214, Ee215, Ee270, Ee271, Ee272, Ee273, Ee274, Ee275⟩ (fun hH => ?_)
            clear hK K
            try simp only [LY]
            refine U_takeN (i := 11) (d := 172) (v := ?_) rfl rfl rfl (by kernel_rfl) (by kernel_rfl) (by kernel_rfl) (fun _ _ _ h => h) (Or.inl ⟨by rfl, ?_⟩) hH ?_
            rotate_left
            · intro w hSw
              try dsimp only at hSw
              go_simp
              try with_reducible rfl
            simp only [LY]
            refine U_takeN (i := 12) (d := 173) (v := ?_) rfl rfl rfl (by kernel_rfl) (by kernel_rfl) (by kernel_rfl) (fun _ _ _ h => h) (Or.inl ⟨by rfl, ?_⟩) hH ?_
            rotate_left
            · intro w hSw
              try dsimp only at hSw
              go_simp
              try with_reducible rfl
            simp only [LY]
            refine U_takeN (i := 13) (d := 174) (v := ?_) rfl rfl rfl (by kernel_rfl) (by kernel_rfl) (by kernel_rfl) (fun _ _ _ h => h) (Or.inl ⟨by rfl, ?_⟩) hH ?_
            rotate_left
            · intro w hSw
              try dsimp only at hSw
              go_simp
              try with_reducible rfl
            simp only [LY]
            refine U_takeN (i := 14) (d := 175) (v := ?_) rfl rfl rfl (by kernel_rfl) (by kernel_rfl) (by kernel_rfl) (fun _ _ _ h => h) (Or.inl ⟨by rfl, ?_⟩) hH ?_
            rotate_left
            · intro w hSw
              try dsimp only at hSw
              go_simp
              try with_reducible rfl
            simp only [LY]
            refine U_takeN (i := 15) (d := 176) (v := ?_) rfl rfl rfl (by kernel_rfl) (by kernel_rfl) (by kernel_rfl) (fun _ _ _ h => h) (Or.inl ⟨by rfl, ?_⟩) hH ?_
            rotate_left
            · intro w hSw
              try dsimp only at hSw
              go_simp
              try with_reducible rfl
            simp only [LY]
            refine U_takeN (i := 16) (d := 177) (v := ?_) rfl rfl rfl (by kernel_rfl) (by kernel_rfl) (by kernel_rfl) (fun _ _ _ h => h) (Or.inl ⟨by rfl, ?_⟩) hH ?_
            rotate_left
            · intro w hSw
              try dsimp only at hSw
              go_simp
              try with_reducible rfl
            simp only [LY]
            refine U_takeN (i := 17) (d := 178) (v := ?_) rfl rfl rfl (by kernel_rfl) (by kernel_rfl) (by kernel_rfl) (fun _ _ _ h => h) (Or.inl ⟨by rfl, ?_⟩) hH ?_
            rotate_left
            · intro w hSw
              try dsimp only at hSw
              go_simp
              try with_reducible rfl
            simp only [LY]
            refine U_takeN (i := 18) (d := 179) (v := ?_) rfl rfl rfl (by kernel_rfl) (by kernel_rfl) (by kernel_rfl) (fun _ _ _ h => h) (Or.inl ⟨by rfl, ?_⟩) hH ?_
            rotate_left
            · intro w hSw
              try dsimp only at hSw
              go_simp
              try with_reducible rfl
            simp only [LY]
            refine U_takeN (i := 19) (d := 180) (v := ?_) rfl rfl rfl (by kernel_rfl) (by kernel_rfl) (by kernel_rfl) (fun _ _ _ h => h) (Or.inl ⟨by rfl, ?_⟩) hH ?_
            rotate_left
            · intro w hSw
              try dsimp only at hSw
              go_simp
              try with_reducible rfl
            simp only [LY]
            refine U_takeN (i := 20) (d := 181) (v := ?_) rfl rfl rfl (by kernel_rfl) (by kernel_rfl) (by kernel_rfl) (fun _ _ _ h => h) (Or.inl ⟨by rfl, ?_⟩) hH ?_
            rotate_left
            · intro w hSw
              try dsimp only at hSw
              go_simp
              try with_reducible rfl
            simp only [LY]
            refine U_takeN (i := 21) (d := 182) (v := ?_) rfl rfl rfl (by kernel_rfl) (by kernel_rfl) (by kernel_rfl) (fun _ _ _ h => h) (Or.inl ⟨by rfl, ?_⟩) hH ?_
            rotate_left
            · intro w hSw
              try dsimp only at hSw
              go_simp
              try with_reducible rfl
            simp only [LY]
            refine U_takeN (i := 22) (d := 183) (v := ?_) rfl rfl rfl (by kernel_rfl) (by kernel_rfl) (by kernel_rfl) (fun _ _ _ h => h) (Or.inl ⟨by rfl, ?_⟩) hH ?_
            rotate_left
            · intro w hSw
              try dsimp only at hSw
              go_simp
              try with_reducible rfl
            simp only [LY]
            clear hH
            refine U_one (i := 23) (by kernel_rfl) rfl (fun K hK => ?_)
            go_simp
            (with_reducible refine (p_Same_calls _ _ _ _ _ he19b he21b).mono ?_)
            rintro e w52 ⟨rfl, hb⟩
            replace hs := bStep hs hb
            replace Blpart := Blpart.mono hb
            replace Blfactor := Blfactor.mono hb
            replace h6 := h6.mono hb
            replace h7 := h7.mono hb
            replace he19a := he19a.mono hb
            replace he19b := he19b.mono hb
            replace he21a := he21a.mono hb
            replace he21b := he21b.mono hb
            replace he27a := he27a.mono hb
            replace he27b := he27b.mono hb
            replace Ee190 := cellK Ee190 hb
            replace Ee191 := cellK Ee191 hb
            replace Ee192 := cellK Ee192 hb
            replace Ee193 := cellK Ee193 hb
            replace Ee194 := cellK Ee194 hb
            replace Ee195 := cellK Ee195 hb
            replace Ee210 := cellK Ee210 hb
            replace Ee211 := cellK Ee211 hb
            replace Ee212 := cellK Ee212 hb
            replace Ee213 := cellK Ee213 hb
            replace Ee214 := cellK Ee214 hb
            replace Ee215 := cellK Ee215 hb
            replace Ee270 := cellK Ee270 hb
            replace Ee271 := cellK Ee271 hb
            replace Ee272 := cellK Ee272 hb
            replace Ee273 := cellK Ee273 hb
            replace Ee274 := cellK Ee274 hb
            replace Ee275 := cellK Ee275 hb
            clear hb
            rw [← Hb24.out]
            try go_wp2_with fail
            refine hK.out _ _ ⟨Ee190, Ee191, Ee192, Ee193, Ee194, Ee195, Ee210, Ee211, Ee212, Ee213, Ee214, Ee215, Ee270, Ee271, Ee272, Ee273, Ee274, Ee275⟩ (fun hH => ?_)
            clear hK K
            try simp only [LY]
            refine U_takeN (i := 24) (d := 185) (v := ?_) rfl rfl rfl (by kernel_rfl) (by kernel_rfl) (by kernel_rfl) (fun _ _ _ h => h) (Or.inl ⟨by rfl, ?_⟩) hH ?_
            rotate_left
            · intro w hSw
              try dsimp only at hSw
              go_simp
              try with_reducible rfl
            simp only [LY]
            refine U_takeN (i := 25) (d := 186) (v := ?_) rfl rfl rfl (by kernel_rfl) (by kernel_rfl) (by kernel_rfl) (fun _ _ _ h => h) (Or.inl ⟨by rfl, ?_⟩) hH ?_
            rotate_left
            · intro w hSw
              try dsimp only at hSw
              go_simp
              try with_reducible rfl
            simp only [LY]
            refine U_takeN (i := 26) (d := 187) (v := ?_) rfl rfl rfl (by kernel_rfl) (by kernel_rfl) (by kernel_rfl) (fun _ _ _ h => h) (Or.inl ⟨by rfl, ?_⟩) hH ?_
            rotate_left
            · intro w hSw
              try dsimp only at hSw
              go_simp
              try with_reducible rfl
            simp only [LY]
            refine U_takeN (i := 27) (d := 188) (v := ?_) rfl rfl rfl (by kernel_rfl) (by kernel_rfl) (by kernel_rfl) (fun _ _ _ h => h) (Or.inl ⟨by rfl, ?_⟩) hH ?_
            rotate_left
            · intro w hSw
              try dsimp only at hSw
              go_simp
              try with_reducible rfl
            simp only [LY]
            refine U_takeN (i := 28) (d := 189) (v := ?_) rfl rfl rfl (by kernel_rfl) (by kernel_rfl) (by kernel_rfl) (fun _ _ _ h => h) (Or.inl ⟨by rfl, ?_⟩) hH ?_
            rotate_left
            · intro w hSw
              try dsimp only at hSw
              go_simp
              try with_reducible rfl
            simp only [LY]
            refine U_takeN (i := 29) (d := 190) (v := ?_) rfl rfl rfl (by kernel_rfl) (by kernel_rfl) (by kernel_rfl) (fun _ _ _ h => h) (Or.inl ⟨by rfl, ?_⟩) hH ?_
            rotate_left
            · intro w hSw
              try dsimp only at hSw
              go_simp
              try with_reducible rfl
            simp only [LY]
            refine U_takeN (i := 30) (d := 191) (v := ?_) rfl rfl rfl (by kernel_rfl) (by kernel_rfl) (by kernel_rfl) (fun _ _ _ h => h) (Or.inl ⟨by rfl, ?_⟩) hH ?_
            rotate_left
            · intro w hSw
              try dsimp only at hSw
              go_simp
              try with_reducible rfl
            simp only [LY]
            refine U_takeN (i := 31) (d := 192) (v := ?_) rfl rfl rfl (by kernel_rfl) (by kernel_rfl) (by kernel_rfl) (fun _ _ _ h => h) (Or.inl ⟨by rfl, ?_⟩) hH ?_
            rotate_left
            · intro w hSw
              try dsimp only at hSw
              go_simp
              try with_reducible rfl
            simp only [LY]
            refine U_takeN (i := 32) (d := 193) (v := ?_) rfl rfl rfl (by kernel_rfl) (by kernel_rfl) (by kernel_rfl) (fun _ _ _ h => h) (Or.inl ⟨by rfl, ?_⟩) hH ?_
            rotate_left
            · intro w hSw
              try dsimp only at hSw
              go_simp
              try with_reducible rfl
            simp only [LY]
            refine U_takeN (i := 33) (d := 194) (v := ?_) rfl rfl rfl (by kernel_rfl) (by kernel_rfl) (by kernel_rfl) (fun _ _ _ h => h) (Or.inl ⟨by rfl, ?_⟩) hH ?_
            rotate_left
            · intro w hSw
              try dsimp only at hSw
              go_simp
              try with_reducible rfl
            simp only [LY]
            refine U_takeN (i := 34) (d := 195) (v := ?_) rfl rfl rfl (by kernel_rfl) (by kernel_rfl) (by kernel_rfl) (fun _ _ _ h => h) (Or.inl ⟨by rfl, ?_⟩) hH ?_
            rotate_left
            · intro w hSw
              try dsimp only at hSw
              go_simp
              try with_reducible rfl
            simp only [LY]
            refine U_takeN (i := 35) (d := 196) (v := ?_) rfl rfl rfl (by kernel_rfl) (by kernel_rfl) (by kernel_rfl) (fun _ _ _ h => h) (Or.inl ⟨by rfl, ?_⟩) hH ?_
            rotate_left
            · intro w hSw
              try dsimp only at hSw
              go_simp
              try with_reducible rfl
            simp only [LY]
            refine U_takeN (i := 36) (d := 197) (v := ?_) rfl rfl rfl (by kernel_rfl) (by kernel_rfl) (by kernel_rfl) (fun _ _ _ h => h) (Or.inl ⟨by rfl, ?_⟩) hH ?_
            rotate_left
            · intro w hSw
              try dsimp only at hSw
              go_simp
              try with_reducible rfl
            simp only [LY]
            clear hH
            refine U_one (i := 37) (by kernel_rfl) rfl (fun K hK => ?_)
            go_simp
            (with_reducible refine (p_Same_calls _ _ _ _ _ he27b he21b).mono ?_)
            rintro e w53 ⟨rfl, hb⟩
            replace hs := bStep hs hb
            replace Blpart := Blpart.mono hb
            replace Blfactor := Blfactor.mono hb
            replace h6 := h6.mono hb
            replace h7 := h7.mono hb
            replace he19a := he19a.mono hb
            replace he19b := he19b.mono hb
            replace he21a := he21a.mono hb
            replace he21b := he21b.mono hb
            replace he27a := he27a.mono hb
            replace he27b := he27b.mono hb
            replace Ee190 := cellK Ee190 hb
            replace Ee191 := cellK Ee191 hb
            replace Ee192 := cellK Ee192 hb
            replace Ee193 := cellK Ee193 hb
            replace Ee194 := cellK Ee194 hb
            replace Ee195 := cellK Ee195 hb
            replace Ee210 := cellK Ee210 hb
            replace Ee211 := cellK Ee211 hb
            replace Ee212 := cellK Ee212 hb
            replace Ee213 := cellK Ee213 hb
            replace Ee214 := cellK Ee214 hb
            replace Ee215 := cellK Ee215 hb
            replace Ee270 := cellK Ee270 hb
            replace Ee271 := cellK Ee271 hb
            replace Ee272 := cellK Ee272 hb
            replace Ee273 := cellK Ee273 hb
            replace Ee274 := cellK Ee274 hb
            replace Ee275 := cellK Ee275 hb
            clear hb
            rw [← Hb28.out]
            try go_wp2_with fail
            refine hK.out _ _ ⟨Ee190, Ee191, Ee192, Ee193, Ee194, Ee195, Ee210, Ee211, Ee212, Ee213, Ee214, Ee215, Ee270, Ee271, Ee272, Ee273, Ee274, Ee275⟩ (fun hH => ?_)
            clear hK K
            try simp only [LY]
            refine U_takeN (i := 38) (d := 199) (v := ?_) rfl rfl rfl (by kernel_rfl) (by kernel_rfl) (by kernel_rfl) (fun _ _ _ h => h) (Or.inl ⟨by rfl, ?_⟩) hH ?_
            rotate_left
            · intro w hSw
              try dsimp only at hSw
              go_simp
              try with_reducible rfl
            simp only [LY]
            refine U_takeN (i := 39) (d := 200) (v := ?_) rfl rfl rfl (by kernel_rfl) (by kernel_rfl) (by kernel_rfl) (fun _ _ _ h => h) (Or.inl ⟨by rfl, ?_⟩) hH ?_
            rotate_left
            · intro w hSw
              try dsimp only at hSw
              go_simp
              try with_reducible rfl
            simp only [LY]
            refine U_takeN (i := 40) (d := 201) (v := ?_) rfl rfl rfl (by kernel_rfl) (by kernel_rfl) (by kernel_rfl) (fun _ _ _ h => h) (Or.inl ⟨by rfl, ?_⟩) hH ?_
            rotate_left
            · intro w hSw
              try dsimp only at hSw
              go_simp
              try with_reducible rfl
            simp only [LY]
            refine U_takeN (i := 41) (d := 202) (v := ?_) rfl rfl rfl (by kernel_rfl) (by kernel_rfl) (by kernel_rfl) (fun _ _ _ h => h) (Or.inl ⟨by rfl, ?_⟩) hH ?_
            rotate_left
            · intro w hSw
              try dsimp only at hSw
              go_simp
              try with_reducible rfl
            simp only [LY]
            refine U_takeN (i := 42) (d := 203) (v := ?_) rfl rfl rfl (by kernel_rfl) (by kernel_rfl) (by kernel_rfl) (fun _ _ _ h => h) (Or.inl ⟨by rfl, ?_⟩) hH ?_
            rotate_left
            · intro w hSw
              try dsimp only at hSw
              go_simp
              try with_reducible rfl
            simp only [LY]
            refine U_takeN (i := 43) (d := 204) (v := ?_) rfl rfl rfl (by kernel_rfl) (by kernel_rfl) (by kernel_rfl) (fun _ _ _ h => h) (Or.inl ⟨by rfl, ?_⟩) hH ?_
            rotate_left
            · intro w hSw
              try dsimp only at hSw
              go_simp
              try with_reducible rfl
            simp only [LY]
            refine U_takeN (i := 44) (d := 205) (v := ?_) rfl rfl rfl (by kernel_rfl) (by kernel_rfl) (by kernel_rfl) (fun _ _ _ h => h) (Or.inl ⟨by rfl, ?_⟩) hH ?_
            rotate_left
            · intro w hSw
              try dsimp only at hSw
              go_simp
              try with_reducible rfl
            simp only [LY]
            refine U_takeN (i := 45) (d := 206) (v := ?_) rfl rfl rfl (by kernel_rfl) (by kernel_rfl) (by kernel_rfl) (fun _ _ _ h => h) (Or.inl ⟨by rfl, ?_⟩) hH ?_
            rotate_left
            · intro w hSw
              try dsimp only at hSw
              go_simp
              try with_reducible rfl
            simp only [LY]
            refine U_takeN (i := 46) (d := 207) (v := ?_) rfl rfl rfl (by kernel_rfl) (by kernel_rfl) (by kernel_rfl) (fun _ _ _ h => h) (Or.inl ⟨by rfl, ?_⟩) hH ?_
            rotate_left
            · intro w hSw
              try dsimp only at hSw
              go_simp
              try with_reducible rfl
            simp only [LY]
            refine U_takeN (i := 47) (d := 208) (v := ?_) rfl rfl rfl (by kernel_rfl) (by kernel_rfl) (by kernel_rfl) (fun _ _ _ h => h) (Or.inl ⟨by rfl, ?_⟩) hH ?_
            rotate_left
            · intro w hSw
              try dsimp only at hSw
              go_simp
              try with_reducible rfl
            simp only [LY]
            refine U_takeN (i := 48) (d := 209) (v := ?_) rfl rfl rfl (by kernel_rfl) (by kernel_rfl) (by kernel_rfl) (fun _ _ _ h => h) (Or.inl ⟨by rfl, ?_⟩) hH ?_
            rotate_left
            · intro w hSw
              try dsimp only at hSw
              go_simp
              try with_reducible rfl
            simp only [LY]
            refine U_takeN (i := 49) (d := 210) (v := ?_) rfl rfl rfl (by kernel_rfl) (by kernel_rfl) (by kernel_rfl) (fun _ _ _ h => h) (Or.inl ⟨by rfl, ?_⟩) hH ?_
            rotate_left
            · intro w hSw
              try dsimp only at hSw
              go_simp
              try with_reducible rfl
            simp only [LY]
            refine U_takeN (i := 50) (d := 211) (v := ?_) rfl rfl rfl (by kernel_rfl) (by kernel_rfl) (by kernel_rfl) (fun _ _ _ h => h) (Or.inl ⟨by rfl, ?_⟩) hH ?_
            rotate_left
            · intro w hSw
              try dsimp only at hSw
              go_simp
              try with_reducible rfl
            simp only [LY]
            clear hH
            refine U_one (i := 51) (by kernel_rfl) rfl (fun K hK => ?_)
            go_simp
            (with_reducible refine (p_Same_calls _ _ _ _ _ he27a he21a).mono ?_)
            rintro e w54 ⟨rfl, hb⟩
            replace hs := bStep hs hb
            replace Blpart := Blpart.mono hb
            replace Blfactor := Blfactor.mono hb
            replace h6 := h6.mono hb
            replace h7 := h7.mono hb
            replace he19a := he19a.mono hb
            replace he19b := he19b.mono hb
            replace he21a := he21a.mono hb
            replace he21b := he21b.mono hb
            replace he27a := he27a.mono hb
            replace he27b := he27b.mono hb
            replace Ee190 := cellK Ee190 hb
            replace Ee191 := cellK Ee191 hb
            replace Ee192 := cellK Ee192 hb
            replace Ee193 := cellK Ee193 hb
            replace Ee194 := cellK Ee194 hb
            replace Ee195 := cellK Ee195 hb
            replace Ee210 := cellK Ee210 hb
            replace Ee211 := cellK Ee211 hb
            replace Ee212 := cellK Ee212 hb
            replace Ee213 := cellK Ee213 hb
            replace Ee214 := cellK Ee214 hb
            replace Ee215 := cellK Ee215 hb
            replace Ee270 := cellK Ee270 hb
            replace Ee271 := cellK Ee271 hb
            replace Ee272 := cellK Ee272 hb
            replace Ee273 := cellK Ee273 hb
            replace Ee274 := cellK Ee274 hb
            replace Ee275 := cellK Ee275 hb
            clear hb
            rw [← Hb30.out]
            try go_wp2_with fail
            refine hK.out _ _ ⟨Ee190, Ee191, Ee192, Ee193, Ee194, Ee195, Ee210, Ee211, Ee212, Ee213, Ee214, Ee215, Ee270, Ee271, Ee272, Ee273, Ee274, Ee275⟩ (fun hH => ?_)
            clear hK K
            try simp only [LY]
            refine U_takeN (i := 52) (d := 213) (v := ?_) rfl rfl rfl (by kernel_rfl) (by kernel_rfl) (by kernel_rfl) (fun _ _ _ h => h) (Or.inl ⟨by rfl, ?_⟩) hH ?_
            rotate_left
            · intro w hSw
              try dsimp only at hSw
              go_simp
              try with_reducible rfl
            simp only [LY]
            refine U_takeN (i := 53) (d := 214) (v := ?_) rfl rfl rfl (by kernel_rfl) (by kernel_rfl) (by kernel_rfl) (fun _ _ _ h => h) (Or.inl ⟨by rfl, ?_⟩) hH ?_
            rotate_left
            · intro w hSw
              try dsimp only at hSw
              go_simp
              try with_reducible rfl
            simp only [LY]
            clear hH
            refine U_endN (by kernel_rfl) ?_
            clear Ee190 Ee191 Ee192 Ee193 Ee194 Ee195 Ee210 Ee211 Ee212 Ee213 Ee214 Ee215 Ee270 Ee271 Ee272 Ee273 Ee274 Ee275
            have q31 : taQ V i = taQ X i := (HS.out.2.1 i (by omega)).2
            obtain rfl : b30 = true := by rw [Hb30.out]; exact decide_eq_true q31
            have q31H := Lib.hid q31
            clear q31
            go_upto_region 33 with fail
            clear le19 le21 le27
            by_cases q32 : 0 < i
            · have q32d : ((0 : Int) < (i : Int)) = True := eq_true (by omega)
              obtain ⟨ge33a, ae33a, ne33a, ce33a, Ae33a, Ne33a, De33a, ge33b, ae33b, ne33b, ce33b, Ae33b, Ne33b, De33b, Ee330, Ee331, Ee332, Ee333, Ee334, Ee335, he33a, he33b, le33⟩ := rowSP_at (rowsJ (C2.kept PC.kept) _ _ _ FX5.out hs) (show i < X.length by omega)
              have SW34a := IntWalk.i64_in ((i : Int) - 1) (by omega)
              have SW34b : (0 : Int) ≤ (i : Int) - 1 := by omega
              have SW34c : ((i : Int) - 1).toNat = (i - 1) := by omega
              have SW34d : (i : Int) - 1 < (X.length : Int) := by omega
              have SW34e : (1 : Int) ≤ (i : Int) := by omega
              have SW34f : (i : Int) < (X.length : Int) + 1 := by omega
              have BI35a : (i - 1) < X.length := by omega
              have BI35b : ((i : Int) - 1 : Int) < (X.length : Int) := by omega
              obtain ⟨ge36a, ae36a, ne36a, ce36a, Ae36a, Ne36a, De36a, ge36b, ae36b, ne36b, ce36b, Ae36b, Ne36b, De36b, Ee360, Ee361, Ee362, Ee363, Ee364, Ee365, he36a, he36b, le36⟩ := rowSP_at (rowsJ (C2.kept PC.kept) _ _ _ FX5.out hs) (show (i - 1) < X.length by omega)
              obtain ⟨sg37, Hsg37⟩ : ∃ s : Int, s = sgQ ((taQ X i) - (taQ X (i - 1))) := ⟨_, rfl⟩
              replace Hsg37 := Lib.hid Hsg37
              refine U_region (S := fun w' => w'.cell? ⟨bX5, oX5 + i * 6, none⟩ = some (.bool ge33a) ∧ w'.cell? ⟨bX5, oX5 + i * 6 + 1, none⟩ = some (.slice ae33a ne33a ce33a) ∧ w'.cell? ⟨bX5, oX5 + i * 6 + 2, none⟩ = some (.slice Ae33a Ne33a De33a) ∧ w'.cell? ⟨bX5, oX5 + i * 6 + 3, none⟩ = some (.bool ge33b) ∧ w'.cell? ⟨bX5, oX5 + i * 6 + 4, none⟩ = some (.slice ae33b ne33b ce33b) ∧ w'.cell? ⟨bX5, oX5 + i * 6 + 5, none⟩ = some (.slice Ae33b Ne33b De33b) ∧ w'.cell? ⟨bX5, oX5 + (i - 1) * 6, none⟩ = some (.bool ge36a) ∧ w'.cell? ⟨bX5, oX5 + (i - 1) * 6 + 1, none⟩ = some (.slice ae36a ne36a ce36a) ∧ w'.cell? ⟨bX5, oX5 + (i - 1) * 6 + 2, none⟩ = some (.slice Ae36a Ne36a De36a) ∧ w'.cell? ⟨bX5, oX5 + (i - 1) * 6 + 3, none⟩ = some (.bool ge36b) ∧ w'.cell? ⟨bX5, oX5 + (i - 1) * 6 + 4, none⟩ = some (.slice ae36b ne36b ce36b) ∧ w'.cell? ⟨bX5, oX5 + (i - 1) * 6 + 5, none⟩ = some (.slice Ae36b Ne36b De36b)) (by kernel_rfl) 17 ?_
              refine AnyU.abs ?_
              intro w55 hW
              have hb : Below w54.heap.size w54 w55 := by rw [hW]; exact bDrew _
              replace hs := bStep hs hb
              replace Blpart := Blpart.mono hb
              replace Blfactor := Blfactor.mono hb
              replace h6 := h6.mono hb
              replace h7 := h7.mono hb
              replace he19a := he19a.mono hb
              replace he19b := he19b.mono hb
              replace he21a := he21a.mono hb
              replace he21b := he21b.mono hb
              replace he27a := he27a.mono hb
              replace he27b := he27b.mono hb
              replace he33a := he33a.mono hb
              replace he33b := he33b.mono hb
              replace he36a := he36a.mono hb
              replace he36b := he36b.mono hb
              replace Ee330 := cellK Ee330 hb
              replace Ee331 := cellK Ee331 hb
              replace Ee332 := cellK Ee332 hb
              replace Ee333 := cellK Ee333 hb
              replace Ee334 := cellK Ee334 hb
              replace Ee335 := cellK Ee335 hb
              replace Ee360 := cellK Ee360 hb
              replace Ee361 := cellK Ee361 hb
              replace Ee362 := cellK Ee362 hb
              replace Ee363 := cellK Ee363 hb
              replace Ee364 := cellK Ee364 hb
              replace Ee365 := cellK Ee365 hb
              clear hb hW
              have hH := (show w55.cell? ⟨bX5, oX5 + i * 6, none⟩ = some (.bool ge33a) ∧ w55.cell? ⟨bX5, oX5 + i * 6 + 1, none⟩ = some (.slice ae33a ne33a ce33a) ∧ w55.cell? ⟨bX5, oX5 + i * 6 + 2, none⟩ = some (.slice Ae33a Ne33a De33a) ∧ w55.cell? ⟨bX5, oX5 + i * 6 + 3, none⟩ = some (.bool ge33b) ∧ w55.cell? ⟨bX5, oX5 + i * 6 + 4, none⟩ = some (.slice ae33b ne33b ce33b) ∧ w55.cell? ⟨bX5, oX5 + i * 6 + 5, none⟩ = some (.slice Ae33b Ne33b De33b) ∧ w55.cell? ⟨bX5, oX5 + (i - 1) * 6, none⟩ = some (.bool ge36a) ∧ w55.cell? ⟨bX5, oX5 + (i - 1) * 6 + 1, none⟩ = some (.slice ae36a ne36a ce36a) ∧ w55.cell? ⟨bX5, oX5 + (i - 1) * 6 + 2, none⟩ = some (.slice Ae36a Ne36a De36a) ∧ w55.cell? ⟨bX5, oX5 + (i - 1) * 6 + 3, none⟩ = some (.bool ge36b) ∧ w55.cell? ⟨bX5, oX5 + (i - 1) * 6 + 4, none⟩ = some (.slice ae36b ne36b ce36b) ∧ w55.cell? ⟨bX5, oX5 + (i - 1) * 6 + 5, none⟩ = some (.slice Ae36b Ne36b De36b) from ⟨Ee330, Ee331, Ee332, Ee333, Ee334, Ee335, Ee360, Ee361, Ee362, Ee363, Ee364, Ee365⟩)
              refine U_takeN (i := 0) (d := 215) (v := ?_) rfl rfl rfl (by kernel_rfl) (by kernel_rfl) (by kernel_rfl) (fun _ _ _ h => h) (Or.inl ⟨by rfl, ?_⟩) hH ?_
              rotate_left
              · intro w hSw
                try dsimp only at hSw
                go_simp
                try with_reducible rfl
              simp only [LY]
              refine U_takeN (i := 1) (d := 216) (v := ?_) rfl rfl rfl (by kernel_rfl) (by kernel_rfl) (by kernel_rfl) (fun _ _ _ h => h) (Or.inl ⟨by rfl, ?_⟩) hH ?_
              rotate_left
              · intro w hSw
                try dsimp only at hSw
                go_simp
                try with_reducible rfl
              simp only [LY]
              refine U_takeN (i := 2) (d := 217) (v := ?_) rfl rfl rfl (by kernel_rfl) (by kernel_rfl) (by kernel_rfl) (fun _ _ _ h => h) (Or.inl ⟨by rfl, ?_⟩) hH ?_
              rotate_left
              · intro w hSw
                try dsimp only at hSw
                go_simp
                try with_reducible rfl
              simp only [LY]
              refine U_takeN (i := 3) (d := 218) (v := ?_) rfl rfl rfl (by kernel_rfl) (by kernel_rfl) (by kernel_rfl) (fun _ _ _ h => h) (Or.inl ⟨by rfl, ?_⟩) hH ?_
              rotate_left
              · intro w hSw
                try dsimp only at hSw
                go_simp
                try with_reducible rfl
              simp only [LY]
              refine U_takeN (i := 4) (d := 219) (v := ?_) rfl rfl rfl (by kernel_rfl) (by kernel_rfl) (by kernel_rfl) (fun _ _ _ h => h) (Or.inl ⟨by rfl, ?_⟩) hH ?_
              rotate_left
              · intro w hSw
                try dsimp only at hSw
                go_simp
                try with_reducible rfl
              simp only [LY]
              refine U_takeN (i := 5) (d := 220) (v := ?_) rfl rfl rfl (by kernel_rfl) (by kernel_rfl) (by kernel_rfl) (fun _ _ _ h => h) (Or.inl ⟨by rfl, ?_⟩) hH ?_
              rotate_left
              · intro w hSw
                try dsimp only at hSw
                go_simp
                try with_reducible rfl
              simp only [LY]
              refine U_takeN (i := 6) (d := 221) (v := ?_) rfl rfl rfl (by kernel_rfl) (by kernel_rfl) (by kernel_rfl) (fun _ _ _ h => h) (Or.inl ⟨by rfl, ?_⟩) hH ?_
              rotate_left
              · intro w hSw
                try dsimp only at hSw
                go_simp
                try with_reducible rfl
              simp only [LY]
              refine U_takeN (i := 7) (d := 222) (v := ?_) rfl rfl rfl (by kernel_rfl) (by kernel_rfl) (by kernel_rfl) (fun _ _ _ h => h) (Or.inl ⟨by rfl, ?_⟩) hH ?_
              rotate_left
              · intro w hSw
                try dsimp only at hSw
                go_simp
                try with_reducible rfl
              simp only [LY]
              refine U_takeN (i := 8) (d := 223) (v := ?_) rfl rfl rfl (by kernel_rfl) (by kernel_rfl) (by kernel_rfl) (fun _ _ _ h => h) (Or.inl ⟨by rfl, ?_⟩) hH ?_
              rotate_left
              · intro w hSw
                try dsimp only at hSw
                go_simp
                try with_reducible rfl
              simp only [LY]
              refine U_takeN (i := 9) (d := 224) (v := ?_) rfl rfl rfl (by kernel_rfl) (by kernel_rfl) (by kernel_rfl) (fun _ _ _ h => h) (Or.inl ⟨by rfl, ?_⟩) hH ?_
              rotate_left
              · intro w hSw
                try dsimp only at hSw
                go_simp
                try with_reducible rfl
              simp only [LY]
              refine U_takeN (i := 10) (d := 225) (v := ?_) rfl rfl rfl (by kernel_rfl) (by kernel_rfl) (by kernel_rfl) (fun _ _ _ h => h) (Or.inl ⟨by rfl, ?_⟩) hH ?_
              rotate_left
              · intro w hSw
                try dsimp only at hSw
                go_simp
                try with_reducible rfl
              simp only [LY]
              refine U_takeN (i := 11) (d := 226) (v := ?_) rfl rfl rfl (by kernel_rfl) (by kernel_rfl) (by kernel_rfl) (fun _ _ _ h => h) (Or.inl ⟨by rfl, ?_⟩) hH ?_
              rotate_left
              · intro w hSw
                try dsimp only at hSw
                go_simp
                try with_reducible rfl
              simp only [LY]
              refine U_takeN (i := 12) (d := 227) (v := ?_) rfl rfl rfl (by kernel_rfl) (by kernel_rfl) (by kernel_rfl) (fun _ _ _ h => h) (Or.inl ⟨by rfl, ?_⟩) hH ?_
              rotate_left
              · intro w hSw
                try dsimp only at hSw
                go_simp
                try with_reducible rfl
              simp only [LY]
              refine U_takeN (i := 13) (d := 228) (v := ?_) rfl rfl rfl (by kernel_rfl) (by kernel_rfl) (by kernel_rfl) (fun _ _ _ h => h) (Or.inl ⟨by rfl, ?_⟩) hH ?_
              rotate_left
              · intro w hSw
                try dsimp only at hSw
                go_simp
                try with_reducible rfl
              simp only [LY]
              clear hH
              refine U_one (i := 14) (by kernel_rfl) rfl (fun K hK => ?_)
              go_simp
              (with_reducible refine (pCmp he33a he36a (SzQ.fit (HSX.out i (by omega)).1) (SzQ.fit (HSX.out (i - 1) (by omega)).1)).mono ?_)
              rintro e w56 ⟨rfl, hb⟩
              replace hs := bStep hs hb
              replace Blpart := Blpart.mono hb
              replace Blfactor := Blfactor.mono hb
              replace h6 := h6.mono hb
              replace h7 := h7.mono hb
              replace he19a := he19a.mono hb
              replace he19b := he19b.mono hb
              replace he21a := he21a.mono hb
              replace he21b := he21b.mono hb
              replace he27a := he27a.mono hb
              replace he27b := he27b.mono hb
              replace he33a := he33a.mono hb
              replace he33b := he33b.mono hb
              replace he36a := he36a.mono hb
              replace he36b := he36b.mono hb
              replace Ee330 := cellK Ee330 hb
              replace Ee331 := cellK Ee331 hb
              replace Ee332 := cellK Ee332 hb
              replace Ee333 := cellK Ee333 hb
              replace Ee334 := cellK Ee334 hb
              replace Ee335 := cellK Ee335 hb
              replace Ee360 := cellK Ee360 hb
              replace Ee361 := cellK Ee361 hb
              replace Ee362 := cellK Ee362 hb
              replace Ee363 := cellK Ee363 hb
              replace Ee364 := cellK Ee364 hb
              replace Ee365 := cellK Ee365 hb
              clear hb
              rw [← Hsg37.out]
              try go_wp2_with fail
              refine hK.out _ _ ⟨Ee330, Ee331, Ee332, Ee333, Ee334, Ee335, Ee360, Ee361, Ee362, Ee363, Ee364, Ee365⟩ (fun hH => ?_)
              clear hK K
              try simp only [LY]
              refine U_takeN (i := 15) (d := 230) (v := ?_) rfl rfl rfl (by kernel_rfl) (by kernel_rfl) (by kernel_rfl) (fun _ _ _ h => h) (Or.inl ⟨by rfl, ?_⟩) hH ?_
              rotate_left
              · intro w hSw
                try dsimp only at hSw
                go_simp
                try with_reducible rfl
              simp only [LY]
              refine U_takeN (i := 16) (d := 231) (v := ?_) rfl rfl rfl (by kernel_rfl) (by kernel_rfl) (by kernel_rfl) (fun _ _ _ h => h) (Or.inl ⟨by rfl, ?_⟩) hH ?_
              rotate_left
              · intro w hSw
                try dsimp only at hSw
                go_simp
                try with_reducible rfl
              simp only [LY]
              clear hH
              refine U_endN (by kernel_rfl) ?_
              clear Ee330 Ee331 Ee332 Ee333 Ee334 Ee335 Ee360 Ee361 Ee362 Ee363 Ee364 Ee365
              have q38 : ¬ (taQ X i ≤ taQ X (i - 1)) := (split_up HP.out HX.out (by omega) (by omega))
              have q38_ : ¬ (sg37 ≤ 0) := by have h := sq_le (taQ X i) (taQ X (i - 1)); rw [← Hsg37.out] at h; exact fun h1 => q38 (h.1 h1)
              have q38H := Lib.hid q38
              clear q38
              have q38d : decide (sg37 ≤ 0) = false := decide_eq_false q38_
              go_wp2
              go_roundw
              case rel => exact ⟨i + 1, by omega, by go_num, hs, Blpart, Blfactor, h6, h7⟩
              all_goals first | (simp [intOf]; done) | (simp [intOf]; omega)
            · have q32d : ((0 : Int) < (i : Int)) = False := eq_false (by omega)
              refine U_region (S := fun w' => True) (by kernel_rfl) 17 ?_
              refine AnyU.abs ?_
              intro w55 hW
              have hb : Below w54.heap.size w54 w55 := by rw [hW]; exact bDrew _
              replace hs := bStep hs hb
              replace Blpart := Blpart.mono hb
              replace Blfactor := Blfactor.mono hb
              replace h6 := h6.mono hb
              replace h7 := h7.mono hb
              replace he19a := he19a.mono hb
              replace he19b := he19b.mono hb
              replace he21a := he21a.mono hb
              replace he21b := he21b.mono hb
              replace he27a := he27a.mono hb
              replace he27b := he27b.mono hb
              clear hb hW
              have hH := (show True from True.intro)
              refine U_takeN (i := 0) (d := 215) (v := ?_) rfl rfl rfl (by kernel_rfl) (by kernel_rfl) (by kernel_rfl) (fun _ _ _ h => h) (Or.inl ⟨by rfl, ?_⟩) hH ?_
              rotate_left
              · intro w hSw
                try dsimp only at hSw
                go_simp
                try with_reducible rfl
              simp only [LY]
              refine U_takeN (i := 1) (d := 216) (v := ?_) rfl rfl rfl (by kernel_rfl) (by kernel_rfl) (by kernel_rfl) (fun _ _ _ h => h) (Or.inl ⟨by rfl, ?_⟩) hH ?_
              rotate_left
              · intro w hSw
                try dsimp only at hSw
                go_simp
                try with_reducible rfl
              simp only [LY]
              refine U_takeN (i := 2) (d := 217) (v := ?_) rfl rfl rfl (by kernel_rfl) (by kernel_rfl) (by kernel_rfl) (fun _ _ _ h => h) (Or.inl ⟨by rfl, ?_⟩) hH ?_
              rotate_left
              · intro w hSw
                try dsimp only at hSw
                go_simp
                try with_reducible rfl
              simp only [LY]
              refine U_takeN (i := 3) (d := 218) (v := undef) rfl rfl rfl (by kernel_rfl) (by kernel_rfl) (by kernel_rfl) (fun _ _ _ h => h) (Or.inr ⟨by rfl, rfl⟩) hH ?_
              simp only [LY]
              refine U_takeN (i := 4) (d := 219) (v := undef) rfl rfl rfl (by kernel_rfl) (by kernel_rfl) (by kernel_rfl) (fun _ _ _ h => h) (Or.inr ⟨by rfl, rfl⟩) hH ?_
              simp only [LY]
              refine U_takeN (i := 5) (d := 220) (v := undef) rfl rfl rfl (by kernel_rfl) (by kernel_rfl) (by kernel_rfl) (fun _ _ _ h => h) (Or.inr ⟨by rfl, rfl⟩) hH ?_
              simp only [LY]
              refine U_takeN (i := 6) (d := 221) (v := undef) rfl rfl rfl (by kernel_rfl) (by kernel_rfl) (by kernel_rfl) (fun _ _ _ h => h) (Or.inr ⟨by rfl, rfl⟩) hH ?_
              simp only [LY]
              refine U_takeN (i := 7) (d := 222) (v := undef) rfl rfl rfl (by kernel_rfl) (by kernel_rfl) (by kernel_rfl) (fun _ _ _ h => h) (Or.inr ⟨by rfl, rfl⟩) hH ?_
              simp only [LY]
              refine U_takeN (i := 8) (d := 223) (v := undef) rfl rfl rfl (by kernel_rfl) (by kernel_rfl) (by kernel_rfl) (fun _ _ _ h => h) (Or.inr ⟨by rfl, rfl⟩) hH ?_
              simp only [LY]
              refine U_takeN (i := 9) (d := 224) (v := undef) rfl rfl rfl (by kernel_rfl) (by kernel_rfl) (by kernel_rfl) (fun _ _ _ h => h) (Or.inr ⟨by rfl, rfl⟩) hH ?_
              simp only [LY]
              refine U_takeN (i := 10) (d := 225) (v := undef) rfl rfl rfl (by kernel_rfl) (by kernel_rfl) (by kernel_rfl) (fun _ _ _ h => h) (Or.inr ⟨by rfl, rfl⟩) hH ?_
              simp only [LY]
              refine U_takeN (i := 11) (d := 226) (v := undef) rfl rfl rfl (by kernel_rfl) (by kernel_rfl) (by kernel_rfl) (fun _ _ _ h => h) (Or.inr ⟨by rfl, rfl⟩) hH ?_
              simp only [LY]
              refine U_takeN (i := 12) (d := 227) (v := undef) rfl rfl rfl (by kernel_rfl) (by kernel_rfl) (by kernel_rfl) (fun _ _ _ h => h) (Or.inr ⟨by rfl, rfl⟩) hH ?_
              simp only [LY]
              refine U_takeN (i := 13) (d := 228) (v := undef) rfl rfl rfl (by kernel_rfl) (by kernel_rfl) (by kernel_rfl) (fun _ _ _ h => h) (Or.inr ⟨by rfl, rfl⟩) hH ?_
              simp only [LY]
              clear hH
              refine U_one (i := 14) (by kernel_rfl) rfl (fun K hK => ?_)
              go_simp
              refine hK.out _ _ True.intro (fun hH => ?_)
              clear hK K
              try simp only [LY]
              refine U_takeN (i := 15) (d := 230) (v := undef) rfl rfl rfl (by kernel_rfl) (by kernel_rfl) (by kernel_rfl) (fun _ _ _ h => h) (Or.inr ⟨by rfl, rfl⟩) hH ?_
              simp only [LY]
              refine U_takeN (i := 16) (d := 231) (v := ?_) rfl rfl rfl (by kernel_rfl) (by kernel_rfl) (by kernel_rfl) (fun _ _ _ h => h) (Or.inl ⟨by rfl, ?_⟩) hH ?_
              rotate_left
              · intro w hSw
                try dsimp only at hSw
                go_simp
                try with_reducible rfl
              simp only [LY]
              clear hH
              refine U_endN (by kernel_rfl) ?_
              go_wp2
              go_roundw
              case rel => exact ⟨i + 1, by omega, by go_num, hs, Blpart, Blfactor, h6, h7⟩
              all_goals first | (simp [intOf]; done) | (simp [intOf]; omega)
        · have q16d : ((i : Int) < (X.length : Int)) = False := eq_false (by omega)
          have hC := rowsJ (C3.kept PC.kept) _ _ _ FhC.out hs
          have hD := rowsJ (C3.kept PC.kept) _ _ _ FhD.out hs
          have A4 := rowsJ (C3.kept PC.kept) _ _ _ FA4.out hs
          have X5 := rowsJ (C2.kept PC.kept) _ _ _ FX5.out hs
          have U10 := rowsJ (C2.kept PC.kept) _ _ _ FU10.out hs
          have V11 := rowsJ (C2.kept PC.kept) _ _ _ FV11.out hs
          replace hs := bStep HB0_15.out hs
          have BI17a : k < U.length := by omega
          have BI17b : ((k : Int) : Int) < (U.length : Int) := by omega
          obtain ⟨ge18a, ae18a, ne18a, ce18a, Ae18a, Ne18a, De18a, ge18b, ae18b, ne18b, ce18b, Ae18b, Ne18b, De18b, Ee180, Ee181, Ee182, Ee183, Ee184, Ee185, he18a, he18b, le18⟩ := rowSP_at U10 (show k < U.length by omega)
          go_wp2_with fail
          clear le18 Ee180 Ee181 Ee182 Ee183 Ee184 Ee185
          with_reducible refine (p_Zero_calls _ _ _ he18b).mono ?_
          rintro e w50 ⟨rfl, hb⟩
          replace hs := bStep hs hb
          replace Blpart := Blpart.mono hb
          replace Blfactor := Blfactor.mono hb
          replace h6 := h6.mono hb
          replace h7 := h7.mono hb
          replace he18a := he18a.mono hb
          replace he18b := he18b.mono hb
          replace hC := rowsJ (C3.kept PC.kept) _ _ _ hC hb
          replace hD := rowsJ (C3.kept PC.kept) _ _ _ hD hb
          replace A4 := rowsJ (C3.kept PC.kept) _ _ _ A4 hb
          replace X5 := rowsJ (C2.kept PC.kept) _ _ _ X5 hb
          replace U10 := rowsJ (C2.kept PC.kept) _ _ _ U10 hb
          replace V11 := rowsJ (C2.kept PC.kept) _ _ _ V11 hb
          clear hb
          obtain ⟨b19, Hb19⟩ : ∃ b : Bool, b = decide (vaQ U k = 0) := ⟨_, rfl⟩
          rw [← Hb19]
          replace Hb19 := Lib.hid Hb19
          have q20 : vaQ U k = 0 := HS.out.2.2
          obtain rfl : b19 = true := by rw [Hb19.out]; exact decide_eq_true q20
          have q20H := Lib.hid q20
          clear q20
          go_wp2_with fail
          with_reducible refine (HAW.out _).mono ?_
          rintro e w51 ⟨rfl, hb⟩
          replace hs := bStep hs hb
          replace Blpart := Blpart.mono hb
          replace Blfactor := Blfactor.mono hb
          replace h6 := h6.mono hb
          replace h7 := h7.mono hb
          replace he18a := he18a.mono hb
          replace he18b := he18b.mono hb
          replace hC := rowsJ (C3.kept PC.kept) _ _ _ hC hb
          replace hD := rowsJ (C3.kept PC.kept) _ _ _ hD hb
          replace A4 := rowsJ (C3.kept PC.kept) _ _ _ A4 hb
          replace X5 := rowsJ (C2.kept PC.kept) _ _ _ X5 hb
          replace U10 := rowsJ (C2.kept PC.kept) _ _ _ U10 hb
          replace V11 := rowsJ (C2.kept PC.kept) _ _ _ V11 hb
          clear hb
          go_wp2
          go_ret
          exact ⟨rfl, hs⟩
end Go.Proofs.Ytlfnapfnpkhggaa
