/-
  Top: TopDepth.
-/
import Derived.Test.YtlfnapfnpkhggaaTopB0
set_option linter.unusedSimpArgs false
set_option linter.unusedVariables false
namespace Go.Proofs.Ytlfnapfnpkhggaa
open Go.RowKit Dg
attribute [local go_sem ↓] Go.wp_at_zero Go.wp_at_succ

theorem p_New_e2 {n d : Int} {f : Rat} (w : World) (h : (n : Rat) / (d : Rat) = f) (h1 : 0 ≤ n) (h2 : n ≤ 4294967295) (h3 : 1 ≤ d) (h4 : d ≤ 4294967295) : Calls Try.prog 10 #[.int .i64 n, .int .i64 d] w (RetPE w f 0) := by
  subst h
  exact p_New_calls n d w (by omega) (by omega) (by omega) (by omega) (by omega)
theorem top_num_e {n : Int} {f : Rat} (w : World) (h : (n : Rat) = f) (h1 : 0 ≤ n) (h2 : n ≤ 4294967295) : Calls Try.prog 26 #[.int .i64 n] w (RetP w f) := h ▸ top_num n w h1 h2
theorem dec1' : decS 1 = [49] := by
  unfold decS
  rw [if_neg (by decide), dgs_succ (by decide), show 1 / 10 = 0 from rfl, dgs_zero]
  rfl
theorem dec2' : decS 2 = [50] := by
  unfold decS
  rw [if_neg (by decide), dgs_succ (by decide), show 2 / 10 = 0 from rfl, dgs_zero]
  rfl
theorem half_text {x : Rat} (hx : x = mkRat 1 2) : strV (textQ x) = .string ⟨#[49, 47, 50]⟩ := by
  have h1 : (mkRat 1 2).num = 1 := by decide +kernel
  have h2 : (mkRat 1 2).den = 2 := by decide +kernel
  have h3 : ng (mkRat 1 2) = false := by decide +kernel
  subst hx
  unfold strV textQ
  rw [h1, h2, h3, show (1 : Int).natAbs = 1 from rfl, dec1', dec2']
  rfl
theorem half_ok : ∃ x : Rat, ((3 : Int) : Rat) / ((6 : Int) : Rat) = x ∧ strV (textQ x) = .string ⟨#[49, 47, 50]⟩ ∧ SzQ 1 x := ⟨_, rfl, half_text (by decide +kernel), szQ_frac (by decide) (by decide) (by decide)⟩

set_option maxRecDepth 100000 in
set_option maxHeartbeats 4000000 in
theorem top_awake (w : World) : Calls Try.prog 24 #[] w (RetV w (.bool true)) := by
  obtain ⟨x, hx, ht, sx⟩ := half_ok
  have HX := Lib.hid hx
  have HT := Lib.hid ht
  clear hx ht
  have hs := Below.refl w.heap.size w
  go_enter Try.func24, Try.ntmps24
  go_wp2_with fail
  with_reducible refine (p_New_e2 _ HX.out (by decide) (by decide) (by decide) (by decide)).mono ?_
  rintro e w1 ⟨_, rfl, h1, hb⟩
  obtain ⟨sh1, ah1, nh1, ch1, Ah1, Nh1, Ch1, rfl⟩ := h1.shape
  replace hs := bStep hs hb
  clear hb
  go_wp2_with fail
  refine Calls.abs ?_
  intro w2 hW
  have hG : Gr [] w1 w2 := by rw [hW]; exact (Gr.refl _ _).alloc
  have hbw : Below w.heap.size w1 w2 := hG.below0 hs.size
  have hk : KeepD w1 w2 := hG.keep True.intro
  have sz_w2 : w.heap.size ≤ w1.heap.size := hs.size
  have Blx : Bx w2 (w1.heap.size) 36 #[.bool sh1, .slice ah1 nh1 ch1, .slice Ah1 Nh1 Ch1] := by rw [hW]; exact (Bx.new0 _ _ _)
  replace hs := hs.trans hbw
  replace h1 := h1.keep hk
  clear hW hG hk hbw
  have hz_w2 : w1.heap.size < w2.heap.size := Blx.lt
  with_reducible refine (pTextS HT.out h1 (SzQ.fit sx)).mono ?_
  rintro e w3 ⟨rfl, hb⟩
  replace hs := bStep hs hb
  replace Blx := Blx.mono hb
  replace h1 := h1.mono hb
  clear hb
  go_wp2
  go_ret
  exact ⟨rfl, hs⟩

def U8C (_ : World) (cs : List Value) (x : Int) : Prop := cs = [.int .u8 x]
theorem U8C.kept : Kept U8C := fun _ _ _ _ h _ => h
theorem u8_some {L : List Int} {i : Nat} (h : i < L.length) : L[i]? = some (L.getD i 0) := by rw [List.getD_eq_getElem?_getD, List.getElem?_eq_getElem h]; rfl
theorem rowU8_at {w : World} {v : Value} {L : List Int} {i : Nat} (h : RowsI 1 U8C w v L) (hi : i < L.length) : ∃ b o c, v = .slice (some ⟨b, o, none⟩) L.length c ∧ w.cell? ⟨b, o + i, none⟩ = some (.int .u8 (L.getD i 0)) ∧ b < w.heap.size := by
  obtain ⟨b', o', c', cs, hv, _, hat, rfl⟩ := h.get (u8_some hi)
  have := hat 0 _ rfl
  rw [Nat.mul_one, Nat.add_zero] at this
  exact ⟨_, _, _, hv, this, cell_lt this⟩
theorem top_fin {L : List I3} {n : Nat} (h : n + 1 = L.length) : topQ (TH L L.length) n + nthQ (TH L L.length) n = ((thk L L.length : Int) : Rat) := by
  have := top_thk (L := L) (n := L.length) (n + 1) (by omega)
  rw [← h] at this ⊢
  exact this
theorem top_Thick {v : Value} (L : List I3) (w : World) (hl : Rows 4 68 PlyC w v L) (h1 : 1 ≤ L.length) (h64 : L.length ≤ 64) (hok : ∀ x ∈ L, PlyOk x) {T : Int} (hT : thk L L.length = T) : Calls Try.prog 27 #[v] w (RetV w (.tuple #[.int .i64 T, .int .i64 0])) := by
  subst hT
  refine (lam_Thickness v L w hl h1 h64 hok).mono ?_
  rintro e w' ⟨_, _, rfl, rfl, rfl, hb⟩
  exact ⟨rfl, hb⟩
theorem top_Plies {v vr : Value} {L : List I3} (w : World) (hl : Rows 3 36 PC w v (TH L L.length)) (h1 : 1 ≤ L.length) (h8 : L.length ≤ 8) (hok : ∀ x ∈ L, PlyOk x) (hz : ∀ i, i < (TH L L.length).length → SzQ 1 (nthQ (TH L L.length) i)) {i : Nat} (hi : i + 1 < L.length) {t : Rat} (ht : t = topQ (TH L L.length) (i + 1)) (hr : PV2 w vr t t) (st : SzQ 1 t) :
    Calls Try.prog 32 #[v, vr] w (RetV w (.tuple #[.int .i64 i, .int .i64 ((i : Int) + 1), .int .i64 0])) := by
  have e := TH_len L L.length
  rw [← plR_at hok hi ht]
  exact sc_Plies_ok v vr _ t t w hl (by omega) (by omega) (TH_pos hok) (fun i hi => (hz i hi).mono (by omega)) hr st.mid st.mid
theorem ratT_info : (Try.prog.info? 36).map (fun i => (i.zero, i.size, i.bytes)) = some (some (.agg #[.bool false, .slice none 0 0, .slice none 0 0]), 3, 56) := by kernel_rfl
theorem zAt_in {I : List Int} {i : Nat} (h : i < I.length) : zAt I i = 1 + I.getD i 0 := if_pos h
theorem zAt_out {I : List Int} {i : Nat} (h : ¬ i < I.length) : zAt I i = 1 := if_neg h

set_option maxRecDepth 100000 in
set_option maxHeartbeats 16000000 in
theorem top_Depth_ok (v v1 : Value) (l : List I3) (b : Int) (I : List Int) (w : World) (hl : RowsI 3 I3C w v l) (hi1 : RowsI 1 U8C w v1 I) (h2 : 2 ≤ l.length) (h8 : l.length ≤ 8) (hi8 : ∀ x ∈ l, -128 ≤ x.1 ∧ x.1 ≤ 127 ∧ -128 ≤ x.2.1 ∧ x.2.1 ≤ 127 ∧ -128 ≤ x.2.2 ∧ x.2.2 ≤ 127) (hI : ∀ x ∈ I, 0 ≤ x ∧ x ≤ 255) (b0 : 0 ≤ b) (b1 : b ≤ 255)
    (L : List I3) (hLL : L = l.map plyF) (hLl : L.length = l.length) (hok : ∀ x ∈ L, PlyOk x) (sp : Rat) (hsp : ((1 + b : Int) : Rat) = sp) (ss : SzQ 1 sp) (s0 : 0 < sp)
    (X : List Stp) (hX : echoQ (lyL L I sp L.length) ((lyL L I sp L.length).length - 1) = X) (hXl : X.length + 1 ≤ L.length) (hXl' : L.length ≤ X.length + 1) (hXt : ∀ i, i + 1 < L.length → taQ X i = tmQ (lyL L I sp L.length) (i + 1)) (hXs : ∀ i, i < X.length → SzQ 100000 (taQ X i) ∧ SzQ 200000 (vaQ X i))
    (T : Int) (hT : thk L L.length = T) (hT0 : 0 ≤ T) (hT1 : T ≤ 8192) :
    Calls Try.prog 5 #[v, .int .u8 b, v1] w (RetV w (.bool true)) := by
  obtain ⟨ao, cap, rfl, hc1, hc2, hc3⟩ := hl.slice
  obtain ⟨ai, ci, rfl, hd1, hd2, hd3⟩ := hi1.slice
  have hs := Below.refl w.heap.size w
  obtain ⟨i0, hi, hz0, hz1, hz2⟩ := info_parts layP_info
  obtain ⟨j0, hj, hy0, hy1, hy2⟩ := info_parts ratT_info
  have HZY := Lib.hid (lyL_sz hok hI ss)
  have HPY := Lib.hid (lyL_pos (I := I) hok hI s0)
  have HTZ := Lib.hid (TH_sz hok)
  have HTP := Lib.hid (TH_pos hok)
  have HTS := Lib.hid (fun k hk => top_sz hok (show L.length ≤ 64 by omega) (k := k) hk)
  have HLN := Lib.hid (lyL_len L I sp L.length)
  have HTN := Lib.hid (TH_len L L.length)
  have HL := Lib.hid hl
  have HI1 := Lib.hid hi1
  have HI8 := Lib.hid hi8
  have HII := Lib.hid hI
  have HLL := Lib.hid hLL
  have HLEN := Lib.hid hLl
  have HOK := Lib.hid hok
  have HSP := Lib.hid hsp
  have HS0 := Lib.hid s0
  have HX := Lib.hid hX
  have HXT := Lib.hid hXt
  have HXS := Lib.hid hXs
  have HTT := Lib.hid hT
  have h2' : 2 ≤ L.length := by omega
  have h8' : L.length ≤ 8 := by omega
  clear hl hi1 hi8 hI hLL hLl hok hsp s0 hX hXt hXs hT
  go_enter Try.func5, Try.ntmps5
  have q1 : ¬ (l.length < 2) := (by omega)
  have q1d : ((l.length : Int) < 2) = False := eq_false (by omega)
  have q2 : ¬ (8 < l.length) := (by omega)
  have q2d : ((8 : Int) < (l.length : Int)) = False := eq_false (by omega)
  go_wp2_with fail
  with_reducible refine (top_laid _ l _ (HL.out.mono I3C.kept hs) (by omega) (by omega) HI8.out).mono ?_
  rintro e w1 ⟨_, rfl, ply3, hb⟩
  rw [← HLL.out] at ply3
  obtain ⟨bply3, oply3, kply3, rfl, ply31, ply32, -⟩ := ply3.open_ (by omega)
  replace hs := bStep hs hb
  clear hb
  go_wp2_with fail
  with_reducible refine (top_num_e _ HSP.out (by omega) (by omega)).mono ?_
  rintro e w2 ⟨_, rfl, h4, hb⟩
  obtain ⟨sh4, ah4, nh4, ch4, Ah4, Nh4, Ch4, rfl⟩ := h4.shape
  replace hs := bStep hs hb
  replace ply3 := rowsJ PlyC.kept _ _ _ ply3 hb
  clear hb
  go_wp2
  refine Code.abs ?_
  intro w3 hW
  have hG : Gr [] w2 w3 := by rw [hW]; exact (Gr.refl _ _).alloc
  have hbw : Below w.heap.size w2 w3 := hG.below0 hs.size
  have hk : KeepD w2 w3 := hG.keep True.intro
  have sz_w3 : w.heap.size ≤ w2.heap.size := hs.size
  have Bls : Bx w3 (w2.heap.size) 36 #[.bool sh4, .slice ah4 nh4 ch4, .slice Ah4 Nh4 Ch4] := by rw [hW]; exact (Bx.new0 _ _ _)
  replace hs := hs.trans hbw
  replace ply3 := rowsJ PlyC.kept _ _ _ ply3 (hG.below0 (Nat.le_refl _))
  replace h4 := h4.keep hk
  clear hW hG hk hbw
  have hz_w3 : w2.heap.size < w3.heap.size := Bls.lt
  have HB0_5 := Lib.hid hs
  clear hs
  have hs := Below.refl w3.heap.size w3
  have nb_s : w2.heap.size < w3.heap.size := Bls.lt
  have Fply3 := Lib.hid ply3
  clear ply3
  go_loopw [9, 10, 42] (fun s9 s10 s42 wq => ∃ j : Nat, j ≤ L.length ∧ s42 = .int .i64 j ∧ Below w3.heap.size w3 wq ∧ Bx wq (w2.heap.size) 36 #[.bool sh4, .slice ah4 nh4 ch4, .slice Ah4 Nh4 Ch4] ∧ PV wq (.agg #[.bool sh4, .slice ah4 nh4 ch4, .slice Ah4 Nh4 Ch4]) (sp) ∧ OwnR w3.heap.size 41 9 (C3 PC) wq s9 (lyL L I sp j) ∧ OwnR w3.heap.size 36 3 PC wq s10 (TH L j)) (fun s9 s10 s42 _ => L.length - (intOf s42).toNat)
  case atStart => exact ⟨0, Nat.zero_le _, rfl, hs, Bls, h4, OwnR.nil _ _ _ _ _, OwnR.nil _ _ _ _ _⟩
  case round =>
    clear Bls h4 hs
    obtain ⟨j, k_le, rfl, hs, Bls, h4, Opl, Opt⟩ := hrel
    have lny : (lyL L I sp j).length ≤ j := Nat.le_of_eq (lyL_len L I sp j)
    have lnt : (TH L j).length ≤ j := Nat.le_of_eq (TH_len L j)
    by_cases q6 : j < L.length
    · have q6d : ((j : Int) < (L.length : Int)) = True := eq_true (by omega)
      obtain ⟨Ee70, Ee71, Ee72, Ee73, le7⟩ := rowPly_at (rowsJ PlyC.kept _ _ _ Fply3.out hs) (show j < L.length by omega)
      obtain ⟨ie7b, Hie7b⟩ : ∃ z : Int, z = (i3At L j).1 := ⟨_, rfl⟩
      rw [← Hie7b] at Ee71
      replace Hie7b := Lib.hid Hie7b.symm
      obtain ⟨ie7c, Hie7c⟩ : ∃ z : Int, z = (i3At L j).2.1 := ⟨_, rfl⟩
      rw [← Hie7c] at Ee72
      replace Hie7c := Lib.hid Hie7c.symm
      obtain ⟨ie7d, Hie7d⟩ : ∃ z : Int, z = (i3At L j).2.2 := ⟨_, rfl⟩
      rw [← Hie7d] at Ee73
      replace Hie7d := Lib.hid Hie7d.symm
      obtain ⟨bt17, bt27⟩ := tk_bd HOK.out (show j < L.length by omega)
      rw [Hie7d.out] at bt17 bt27
      have HK7 : ((ie7d : Int) : Rat) = tkQ L j := by unfold tkQ; rw [Hie7d.out]
      replace HK7 := Lib.hid HK7
      by_cases q8 : j < I.length
      · have q8d : ((j : Int) < (I.length : Int)) = True := eq_true (by omega)
        obtain ⟨bbe9, ooe9, cce9, hve9, Ee9, le9⟩ := rowU8_at (HI1.out.mono U8C.kept (bStep HB0_5.out hs)) (show j < I.length by omega)
        obtain ⟨rfl, rfl⟩ := sliceE hve9
        obtain ⟨ze9, Hze9⟩ : ∃ z : Int, z = I.getD j 0 := ⟨_, rfl⟩
        rw [← Hze9] at Ee9
        have bze9 := HII.out _ (List.mem_of_getElem? (u8_some (show j < I.length by omega)))
        rw [← Hze9] at bze9
        obtain ⟨bze91, bze92⟩ := bze9
        replace Hze9 := Lib.hid Hze9.symm
        go_wp2_with fail
        clear le7 Ee70 Ee71 Ee72 Ee73 le9 Ee9
        refine Calls.abs ?_
        intro w24 hW
        have hG : Gr [] wr w24 := by rw [hW]; exact (Gr.refl _ _).alloc
        have hbw : Below w3.heap.size wr w24 := hG.below0 hs.size
        have hk : KeepD wr w24 := hG.keep True.intro
        have sz_w24 : w3.heap.size ≤ wr.heap.size := hs.size
        have ns_w24 : w2.heap.size < wr.heap.size := Bls.lt
        have Blp : Bx w24 (wr.heap.size) 68 #[.int .i64 0, .int .i64 ie7b, .int .i64 ie7c, .int .i64 ie7d] := by rw [hW]; exact (Bx.new0 _ _ _)
        replace hs := hs.trans hbw
        replace Bls := hG.bx Bls notMem0
        replace h4 := h4.keep hk
        replace Opl := Opl.mono (C3.kept PC.kept) (hG.below0 (Nat.le_refl _))
        replace Opt := Opt.mono PC.kept (hG.below0 (Nat.le_refl _))
        clear hW hG hk hbw
        have hz_w24 : wr.heap.size < w24.heap.size := Blp.lt
        with_reducible refine (top_num_e _ HK7.out (by omega) (by omega)).mono ?_
        rintro e w25 ⟨_, rfl, h10, hb⟩
        obtain ⟨sh10, ah10, nh10, ch10, Ah10, Nh10, Ch10, rfl⟩ := h10.shape
        replace hs := bStep hs hb
        replace Bls := Bls.mono hb
        replace Blp := Blp.mono hb
        replace h4 := h4.mono hb
        replace Opl := Opl.mono (C3.kept PC.kept) hb
        replace Opt := Opt.mono PC.kept hb
        clear hb
        go_wp2_with (at_builtin; refine wpList.stop ?_)
        refine ⟨?_⟩
        refine wpList.abs ?_
        intro w26 hW
        have hG : Gr [] w25 w26 := by rw [hW]; exact (Gr.refl _ _).alloc
        have hbw : Below w3.heap.size w25 w26 := hG.below0 hs.size
        have hk : KeepD w25 w26 := hG.keep True.intro
        have sz_w26 : w3.heap.size ≤ w25.heap.size := hs.size
        have ns_w26 : w2.heap.size < w25.heap.size := Bls.lt
        have np_w26 : wr.heap.size < w25.heap.size := Blp.lt
        have Blls : Bx w26 (w25.heap.size) 36 #[.bool sh10, .slice ah10 nh10 ch10, .slice Ah10 Nh10 Ch10] := by rw [hW]; exact (Bx.new0 _ _ _)
        replace hs := hs.trans hbw
        replace Bls := hG.bx Bls notMem0
        replace Blp := hG.bx Blp notMem0
        replace h4 := h4.keep hk
        replace h10 := h10.keep hk
        replace Opl := Opl.mono (C3.kept PC.kept) (hG.below0 (Nat.le_refl _))
        replace Opt := Opt.mono PC.kept (hG.below0 (Nat.le_refl _))
        clear hW hG hk hbw
        have hz_w26 : w25.heap.size < w26.heap.size := Blls.lt
        obtain ⟨css, ho1, ho2, ho3, hown0⟩ := Opt
        refine wpList_append_lies _ rfl _ _ _ rfl w3.heap.size 36 j0 _ 3 56 Try.underlying50 hj hy0 hy1 hy2 rfl (by omega) _ _ css.flatten rfl hown0 ⟨w25.heap.size, 0, none⟩ 1 1 [.bool sh10, .slice ah10 nh10 ch10, .slice Ah10 Nh10 Ch10] rfl rfl Blls.news ?_ (by omega) ?_ ?_ ?_ _ rfl ?_
        · intro u hu; simp only [List.mem_cons, List.mem_nil_iff, or_false] at hu; rcases hu with rfl | rfl | rfl <;> rfl
        · unfold maxLen; (try simp only [List.length_append, List.length_cons, List.length_nil]); omega
        · (try simp only [List.length_append, List.length_cons, List.length_nil]); omega
        · exact hs.size
        intro gpt cappt w27 hown1 hgrow hat hlt_
        have hk_ := KeepD.owns hown0 hgrow (by decide)
        have ho := owns_onlyT hown0 hgrow
        replace hs := hs.grown hgrow hs.size (fun k hk => (hown0.lt k hk).1)
        replace Opt := OwnR.push' PC.kept ho1 ho2 ho3 (x := tkQ L j) rfl ⟨_, _, _, rfl, h10⟩ (by simp) hown1 hk_
        replace Bls := Bls.grown hgrow (fun e => by have := (hown0.lt _ e.symm).1; omega)
        replace Blp := Blp.only ho (by decide)
        replace h4 := h4.keep hk_
        replace h10 := h10.keep hk_
        replace Opl := Opl.onlyT (C3.kept PC.kept) ho (by decide) (by decide)
        clear hk_ ho ho1 ho2 ho3 hown0 hown1 hgrow hat hlt_ Blls
        go_upto_region 14 with fail
        refine U_region (S := fun w' => w'.cell? ⟨wr.heap.size, 0, none⟩ = some (.int .i64 0) ∧ w'.cell? ⟨wr.heap.size, 1, none⟩ = some (.int .i64 ie7b) ∧ w'.cell? ⟨wr.heap.size, 2, none⟩ = some (.int .i64 ie7c) ∧ w'.cell? ⟨wr.heap.size, 3, none⟩ = some (.int .i64 ie7d) ∧ w'.cell? ⟨w2.heap.size, 0, none⟩ = some (.bool sh4) ∧ w'.cell? ⟨w2.heap.size, 1, none⟩ = some (.slice ah4 nh4 ch4) ∧ w'.cell? ⟨w2.heap.size, 2, none⟩ = some (.slice Ah4 Nh4 Ch4)) (by kernel_rfl) 10 ?_
        refine AnyU.abs ?_
        intro w28 hW
        have hb : Below w27.heap.size w27 w28 := by rw [hW]; exact bDrew _
        replace hs := bStep hs hb
        replace Bls := Bls.mono hb
        replace Blp := Blp.mono hb
        replace h4 := h4.mono hb
        replace h10 := h10.mono hb
        replace Opl := Opl.mono (C3.kept PC.kept) hb
        replace Opt := Opt.mono PC.kept hb
        clear hb hW
        have cp_0 : w28.cell? ⟨wr.heap.size, 0, none⟩ = some (.int .i64 0) := Blp.at 0 rfl
        have cp_1 : w28.cell? ⟨wr.heap.size, 1, none⟩ = some (.int .i64 ie7b) := Blp.at 1 rfl
        have cp_2 : w28.cell? ⟨wr.heap.size, 2, none⟩ = some (.int .i64 ie7c) := Blp.at 2 rfl
        have cp_3 : w28.cell? ⟨wr.heap.size, 3, none⟩ = some (.int .i64 ie7d) := Blp.at 3 rfl
        have cs_0 : w28.cell? ⟨w2.heap.size, 0, none⟩ = some (.bool sh4) := Bls.at 0 rfl
        have cs_1 : w28.cell? ⟨w2.heap.size, 1, none⟩ = some (.slice ah4 nh4 ch4) := Bls.at 1 rfl
        have cs_2 : w28.cell? ⟨w2.heap.size, 2, none⟩ = some (.slice Ah4 Nh4 Ch4) := Bls.at 2 rfl
        have hH := (show w28.cell? ⟨wr.heap.size, 0, none⟩ = some (.int .i64 0) ∧ w28.cell? ⟨wr.heap.size, 1, none⟩ = some (.int .i64 ie7b) ∧ w28.cell? ⟨wr.heap.size, 2, none⟩ = some (.int .i64 ie7c) ∧ w28.cell? ⟨wr.heap.size, 3, none⟩ = some (.int .i64 ie7d) ∧ w28.cell? ⟨w2.heap.size, 0, none⟩ = some (.bool sh4) ∧ w28.cell? ⟨w2.heap.size, 1, none⟩ = some (.slice ah4 nh4 ch4) ∧ w28.cell? ⟨w2.heap.size, 2, none⟩ = some (.slice Ah4 Nh4 Ch4) from ⟨cp_0, cp_1, cp_2, cp_3, cs_0, cs_1, cs_2⟩)
        refine U_take (i := 0) (v := ?_) rfl (by kernel_rfl) (by kernel_rfl) (by kernel_rfl) (by kernel_rfl) (fun _ _ _ h => h) (Or.inl ⟨by rfl, ?_⟩) hH ?_
        rotate_left
        · intro w hSw
          try dsimp only at hSw
          go_simp
          try with_reducible rfl
        try simp only [Act.put, List.setIfInBounds_toArray, List.set_cons_zero, List.set_cons_succ]
        refine U_take (i := 1) (v := ?_) rfl (by kernel_rfl) (by kernel_rfl) (by kernel_rfl) (by kernel_rfl) (fun _ _ _ h => h) (Or.inl ⟨by rfl, ?_⟩) hH ?_
        rotate_left
        · intro w hSw
          try dsimp only at hSw
          go_simp
          try with_reducible rfl
        try simp only [Act.put, List.setIfInBounds_toArray, List.set_cons_zero, List.set_cons_succ]
        refine U_take (i := 3) (v := ?_) rfl (by kernel_rfl) (by kernel_rfl) (by kernel_rfl) (by kernel_rfl) (fun _ _ _ h => h) (Or.inl ⟨by rfl, ?_⟩) hH ?_
        rotate_left
        · intro w hSw
          try dsimp only at hSw
          go_simp
          try with_reducible rfl
        try simp only [Act.put, List.setIfInBounds_toArray, List.set_cons_zero, List.set_cons_succ]
        refine U_take (i := 4) (v := ?_) rfl (by kernel_rfl) (by kernel_rfl) (by kernel_rfl) (by kernel_rfl) (fun _ _ _ h => h) (Or.inl ⟨by rfl, ?_⟩) hH ?_
        rotate_left
        · intro w hSw
          try dsimp only at hSw
          go_simp
          try with_reducible rfl
        try simp only [Act.put, List.setIfInBounds_toArray, List.set_cons_zero, List.set_cons_succ]
        refine U_take (i := 6) (v := ?_) rfl (by kernel_rfl) (by kernel_rfl) (by kernel_rfl) (by kernel_rfl) (fun _ _ _ h => h) (Or.inl ⟨by rfl, ?_⟩) hH ?_
        rotate_left
        · intro w hSw
          try dsimp only at hSw
          go_simp
          try with_reducible rfl
        try simp only [Act.put, List.setIfInBounds_toArray, List.set_cons_zero, List.set_cons_succ]
        clear hH
        refine U_one (i := 2) (by kernel_rfl) rfl (fun K hK => ?_)
        go_simp
        (with_reducible refine (top_num_e _ (show (((1 + ze9 : Int)) : Rat) = ((zAt I j : Int) : Rat) by rw [zAt_in (show j < I.length by omega), Hze9.out]) (by omega) (by omega)).mono ?_)
        rintro e w29 ⟨_, rfl, h11, hb⟩
        obtain ⟨sh11, ah11, nh11, ch11, Ah11, Nh11, Ch11, rfl⟩ := h11.shape
        replace hs := bStep hs hb
        replace Bls := Bls.mono hb
        replace Blp := Blp.mono hb
        replace h4 := h4.mono hb
        replace h10 := h10.mono hb
        replace Opl := Opl.mono (C3.kept PC.kept) hb
        replace Opt := Opt.mono PC.kept hb
        replace cp_0 := cellK cp_0 hb
        replace cp_1 := cellK cp_1 hb
        replace cp_2 := cellK cp_2 hb
        replace cp_3 := cellK cp_3 hb
        replace cs_0 := cellK cs_0 hb
        replace cs_1 := cellK cs_1 hb
        replace cs_2 := cellK cs_2 hb
        clear hb
        try go_wp2_with fail
        refine hK.out _ _ ⟨cp_0, cp_1, cp_2, cp_3, cs_0, cs_1, cs_2⟩ (fun hH => ?_)
        clear hK K
        try simp only [Act.put, List.setIfInBounds_toArray, List.set_cons_zero, List.set_cons_succ]
        clear hH
        refine U_one (i := 5) (by kernel_rfl) rfl (fun K hK => ?_)
        go_simp
        (with_reducible refine (top_num_e _ HK7.out (by omega) (by omega)).mono ?_)
        rintro e w30 ⟨_, rfl, h12, hb⟩
        obtain ⟨sh12, ah12, nh12, ch12, Ah12, Nh12, Ch12, rfl⟩ := h12.shape
        replace hs := bStep hs hb
        replace Bls := Bls.mono hb
        replace Blp := Blp.mono hb
        replace h4 := h4.mono hb
        replace h10 := h10.mono hb
        replace h11 := h11.mono hb
        replace Opl := Opl.mono (C3.kept PC.kept) hb
        replace Opt := Opt.mono PC.kept hb
        replace cp_0 := cellK cp_0 hb
        replace cp_1 := cellK cp_1 hb
        replace cp_2 := cellK cp_2 hb
        replace cp_3 := cellK cp_3 hb
        replace cs_0 := cellK cs_0 hb
        replace cs_1 := cellK cs_1 hb
        replace cs_2 := cellK cs_2 hb
        clear hb
        try go_wp2_with fail
        refine hK.out _ _ ⟨cp_0, cp_1, cp_2, cp_3, cs_0, cs_1, cs_2⟩ (fun hH => ?_)
        clear hK K
        try simp only [Act.put, List.setIfInBounds_toArray, List.set_cons_zero, List.set_cons_succ]
        refine U_take (i := 7) (v := ?_) rfl (by kernel_rfl) (by kernel_rfl) (by kernel_rfl) (by kernel_rfl) (fun _ _ _ h => h) (Or.inl ⟨by rfl, ?_⟩) hH ?_
        rotate_left
        · intro w hSw
          try dsimp only at hSw
          go_simp
          try with_reducible rfl
        try simp only [Act.put, List.setIfInBounds_toArray, List.set_cons_zero, List.set_cons_succ]
        clear hH
        refine U_one (i := 8) (by kernel_rfl) rfl (fun K hK => ?_)
        go_simp
        generalize hWn : (w30.alloc (.cells #[.bool sh11, .slice ah11 nh11 ch11, .slice Ah11 Nh11 Ch11, .bool sh12, .slice ah12 nh12 ch12, .slice Ah12 Nh12 Ch12, .bool sh4, .slice ah4 nh4 ch4, .slice Ah4 Nh4 Ch4] 41)) = w31
        have hb : Below w30.heap.size w30 w31 := by rw [← hWn]; exact (Below.refl _ _).alloc (Nat.le_refl _) _
        have Blls0 : Bx w31 (w30.heap.size) 41 #[.bool sh11, .slice ah11 nh11 ch11, .slice Ah11 Nh11 Ch11, .bool sh12, .slice ah12 nh12 ch12, .slice Ah12 Nh12 Ch12, .bool sh4, .slice ah4 nh4 ch4, .slice Ah4 Nh4 Ch4] := by rw [← hWn]; exact Bx.new _ _ _
        have ns_ls0 : w2.heap.size ≠ w30.heap.size := by have := Bls.lt; omega
        have np_ls0 : wr.heap.size ≠ w30.heap.size := by have := Blp.lt; omega
        have sz_ls0 : w3.heap.size ≤ w30.heap.size := hs.size
        replace hs := bStep hs hb
        replace Bls := Bls.mono hb
        replace Blp := Blp.mono hb
        replace h4 := h4.mono hb
        replace h10 := h10.mono hb
        replace h11 := h11.mono hb
        replace h12 := h12.mono hb
        replace Opl := Opl.mono (C3.kept PC.kept) hb
        replace Opt := Opt.mono PC.kept hb
        replace cp_0 := cellK cp_0 hb
        replace cp_1 := cellK cp_1 hb
        replace cp_2 := cellK cp_2 hb
        replace cp_3 := cellK cp_3 hb
        replace cs_0 := cellK cs_0 hb
        replace cs_1 := cellK cs_1 hb
        replace cs_2 := cellK cs_2 hb
        clear hb hWn
        refine hK.out _ _ ⟨cp_0, cp_1, cp_2, cp_3, cs_0, cs_1, cs_2⟩ (fun hH => ?_)
        clear hK K
        try simp only [Act.put, List.setIfInBounds_toArray, List.set_cons_zero, List.set_cons_succ]
        clear hH
        refine U_one (i := 9) (by kernel_rfl) rfl (fun K hK => ?_)
        obtain ⟨css, ho1, ho2, ho3, hown0⟩ := Opl
        simp only [List.getElem_toArray, List.getElem_cons_succ, List.getElem_cons_zero]
        rw [if_pos (by rfl)]
        refine wp_append_lies _ _ _ _ (by rfl) w3.heap.size 41 i0 _ 9 168 Try.underlying25 hi hz0 hz1 hz2 (by rfl) (by omega) _ _ css.flatten (by rfl) hown0 ⟨w30.heap.size, 0, none⟩ 1 1 [.bool sh11, .slice ah11 nh11 ch11, .slice Ah11 Nh11 Ch11, .bool sh12, .slice ah12 nh12 ch12, .slice Ah12 Nh12 Ch12, .bool sh4, .slice ah4 nh4 ch4, .slice Ah4 Nh4 Ch4] (by rfl) (by rfl) Blls0.news ?_ (by omega) ?_ ?_ ?_ _ rfl ?_
        · intro u hu; simp only [List.mem_cons, List.mem_nil_iff, or_false] at hu; rcases hu with rfl | rfl | rfl | rfl | rfl | rfl | rfl | rfl | rfl <;> rfl
        · unfold maxLen; (try simp only [List.length_append, List.length_cons, List.length_nil]); omega
        · (try simp only [List.length_append, List.length_cons, List.length_nil]); omega
        · exact hs.size
        intro gpl cappl w32 hown1 hgrow hat hlt
        have hk := KeepD.owns hown0 hgrow (by decide)
        have ho := owns_onlyT hown0 hgrow
        replace hs := hs.grown hgrow hs.size (fun k hk => (hown0.lt k hk).1)
        replace Opl := OwnR.push (C3.kept PC.kept) ho1 ho2 ho3 (x := (((zAt I j : Int) : Rat), tkQ L j, sp)) rfl ⟨[_, _, _], [_, _, _], [_, _, _], rfl, ⟨_, _, _, rfl, h11⟩, ⟨_, _, _, rfl, h12⟩, ⟨_, _, _, rfl, h4⟩⟩ hown1 hk
        replace Bls := Bls.only ho (by decide)
        replace Blp := Blp.only ho (by decide)
        replace h4 := h4.keep hk
        replace h10 := h10.keep hk
        replace h11 := h11.keep hk
        replace h12 := h12.keep hk
        replace Opt := Opt.onlyT PC.kept ho (by decide) (by decide)
        replace cp_0 := Blp.at 0 rfl
        replace cp_1 := Blp.at 1 rfl
        replace cp_2 := Blp.at 2 rfl
        replace cp_3 := Blp.at 3 rfl
        replace cs_0 := Bls.at 0 rfl
        replace cs_1 := Bls.at 1 rfl
        replace cs_2 := Bls.at 2 rfl
        clear hk ho ho1 ho2 ho3 hown0 hown1 hgrow Blls0
        refine hK.out _ _ ⟨cp_0, cp_1, cp_2, cp_3, cs_0, cs_1, cs_2⟩ (fun hH => ?_)
        clear hK K
        try simp only [Act.put, List.setIfInBounds_toArray, List.set_cons_zero, List.set_cons_succ]
        clear hH
        refine U_last (by kernel_rfl) rfl (by kernel_rfl) (fun K hK => ?_)
        go_simp
        refine hK.out _ _ ?_
        clear hK K
        intro wl hW
        rw [hW]
        clear hW wl
        try simp only [Act.put, List.setIfInBounds_toArray, List.set_cons_zero, List.set_cons_succ]
        clear cp_0 cp_1 cp_2 cp_3 cs_0 cs_1 cs_2
        go_wp2
        go_roundw
        case rel => exact ⟨j + 1, by omega, by go_num, hs, Bls, h4, by rw [lyL_succ]; exact Opl, by rw [TH_succ]; exact Opt⟩
        all_goals first | (simp [intOf]; done) | (simp [intOf]; omega)
      · have q8d : ((j : Int) < (I.length : Int)) = False := eq_false (by omega)
        go_wp2_with fail
        clear le7 Ee70 Ee71 Ee72 Ee73
        refine Calls.abs ?_
        intro w24 hW
        have hG : Gr [] wr w24 := by rw [hW]; exact (Gr.refl _ _).alloc
        have hbw : Below w3.heap.size wr w24 := hG.below0 hs.size
        have hk : KeepD wr w24 := hG.keep True.intro
        have sz_w24 : w3.heap.size ≤ wr.heap.size := hs.size
        have ns_w24 : w2.heap.size < wr.heap.size := Bls.lt
        have Blp : Bx w24 (wr.heap.size) 68 #[.int .i64 0, .int .i64 ie7b, .int .i64 ie7c, .int .i64 ie7d] := by rw [hW]; exact (Bx.new0 _ _ _)
        replace hs := hs.trans hbw
        replace Bls := hG.bx Bls notMem0
        replace h4 := h4.keep hk
        replace Opl := Opl.mono (C3.kept PC.kept) (hG.below0 (Nat.le_refl _))
        replace Opt := Opt.mono PC.kept (hG.below0 (Nat.le_refl _))
        clear hW hG hk hbw
        have hz_w24 : wr.heap.size < w24.heap.size := Blp.lt
        with_reducible refine (top_num_e _ HK7.out (by omega) (by omega)).mono ?_
        rintro e w25 ⟨_, rfl, h9, hb⟩
        obtain ⟨sh9, ah9, nh9, ch9, Ah9, Nh9, Ch9, rfl⟩ := h9.shape
        replace hs := bStep hs hb
        replace Bls := Bls.mono hb
        replace Blp := Blp.mono hb
        replace h4 := h4.mono hb
        replace Opl := Opl.mono (C3.kept PC.kept) hb
        replace Opt := Opt.mono PC.kept hb
        clear hb
        go_wp2_with (at_builtin; refine wpList.stop ?_)
        refine ⟨?_⟩
        refine wpList.abs ?_
        intro w26 hW
        have hG : Gr [] w25 w26 := by rw [hW]; exact (Gr.refl _ _).alloc
        have hbw : Below w3.heap.size w25 w26 := hG.below0 hs.size
        have hk : KeepD w25 w26 := hG.keep True.intro
        have sz_w26 : w3.heap.size ≤ w25.heap.size := hs.size
        have ns_w26 : w2.heap.size < w25.heap.size := Bls.lt
        have np_w26 : wr.heap.size < w25.heap.size := Blp.lt
        have Blls : Bx w26 (w25.heap.size) 36 #[.bool sh9, .slice ah9 nh9 ch9, .slice Ah9 Nh9 Ch9] := by rw [hW]; exact (Bx.new0 _ _ _)
        replace hs := hs.trans hbw
        replace Bls := hG.bx Bls notMem0
        replace Blp := hG.bx Blp notMem0
        replace h4 := h4.keep hk
        replace h9 := h9.keep hk
        replace Opl := Opl.mono (C3.kept PC.kept) (hG.below0 (Nat.le_refl _))
        replace Opt := Opt.mono PC.kept (hG.below0 (Nat.le_refl _))
        clear hW hG hk hbw
        have hz_w26 : w25.heap.size < w26.heap.size := Blls.lt
        obtain ⟨css, ho1, ho2, ho3, hown0⟩ := Opt
        refine wpList_append_lies _ rfl _ _ _ rfl w3.heap.size 36 j0 _ 3 56 Try.underlying50 hj hy0 hy1 hy2 rfl (by omega) _ _ css.flatten rfl hown0 ⟨w25.heap.size, 0, none⟩ 1 1 [.bool sh9, .slice ah9 nh9 ch9, .slice Ah9 Nh9 Ch9] rfl rfl Blls.news ?_ (by omega) ?_ ?_ ?_ _ rfl ?_
        · intro u hu; simp only [List.mem_cons, List.mem_nil_iff, or_false] at hu; rcases hu with rfl | rfl | rfl <;> rfl
        · unfold maxLen; (try simp only [List.length_append, List.length_cons, List.length_nil]); omega
        · (try simp only [List.length_append, List.length_cons, List.length_nil]); omega
        · exact hs.size
        intro gpt cappt w27 hown1 hgrow hat hlt_
        have hk_ := KeepD.owns hown0 hgrow (by decide)
        have ho := owns_onlyT hown0 hgrow
        replace hs := hs.grown hgrow hs.size (fun k hk => (hown0.lt k hk).1)
        replace Opt := OwnR.push' PC.kept ho1 ho2 ho3 (x := tkQ L j) rfl ⟨_, _, _, rfl, h9⟩ (by simp) hown1 hk_
        replace Bls := Bls.grown hgrow (fun e => by have := (hown0.lt _ e.symm).1; omega)
        replace Blp := Blp.only ho (by decide)
        replace h4 := h4.keep hk_
        replace h9 := h9.keep hk_
        replace Opl := Opl.onlyT (C3.kept PC.kept) ho (by decide) (by decide)
        clear hk_ ho ho1 ho2 ho3 hown0 hown1 hgrow hat hlt_ Blls
        go_upto_region 14 with fail
        refine U_region (S := fun w' => w'.cell? ⟨wr.heap.size, 0, none⟩ = some (.int .i64 0) ∧ w'.cell? ⟨wr.heap.size, 1, none⟩ = some (.int .i64 ie7b) ∧ w'.cell? ⟨wr.heap.size, 2, none⟩ = some (.int .i64 ie7c) ∧ w'.cell? ⟨wr.heap.size, 3, none⟩ = some (.int .i64 ie7d) ∧ w'.cell? ⟨w2.heap.size, 0, none⟩ = some (.bool sh4) ∧ w'.cell? ⟨w2.heap.size, 1, none⟩ = some (.slice ah4 nh4 ch4) ∧ w'.cell? ⟨w2.heap.size, 2, none⟩ = some (.slice Ah4 Nh4 Ch4)) (by kernel_rfl) 10 ?_
        refine AnyU.abs ?_
        intro w28 hW
        have hb : Below w27.heap.size w27 w28 := by rw [hW]; exact bDrew _
        replace hs := bStep hs hb
        replace Bls := Bls.mono hb
        replace Blp := Blp.mono hb
        replace h4 := h4.mono hb
        replace h9 := h9.mono hb
        replace Opl := Opl.mono (C3.kept PC.kept) hb
        replace Opt := Opt.mono PC.kept hb
        clear hb hW
        have cp_0 : w28.cell? ⟨wr.heap.size, 0, none⟩ = some (.int .i64 0) := Blp.at 0 rfl
        have cp_1 : w28.cell? ⟨wr.heap.size, 1, none⟩ = some (.int .i64 ie7b) := Blp.at 1 rfl
        have cp_2 : w28.cell? ⟨wr.heap.size, 2, none⟩ = some (.int .i64 ie7c) := Blp.at 2 rfl
        have cp_3 : w28.cell? ⟨wr.heap.size, 3, none⟩ = some (.int .i64 ie7d) := Blp.at 3 rfl
        have cs_0 : w28.cell? ⟨w2.heap.size, 0, none⟩ = some (.bool sh4) := Bls.at 0 rfl
        have cs_1 : w28.cell? ⟨w2.heap.size, 1, none⟩ = some (.slice ah4 nh4 ch4) := Bls.at 1 rfl
        have cs_2 : w28.cell? ⟨w2.heap.size, 2, none⟩ = some (.slice Ah4 Nh4 Ch4) := Bls.at 2 rfl
        have hH := (show w28.cell? ⟨wr.heap.size, 0, none⟩ = some (.int .i64 0) ∧ w28.cell? ⟨wr.heap.size, 1, none⟩ = some (.int .i64 ie7b) ∧ w28.cell? ⟨wr.heap.size, 2, none⟩ = some (.int .i64 ie7c) ∧ w28.cell? ⟨wr.heap.size, 3, none⟩ = some (.int .i64 ie7d) ∧ w28.cell? ⟨w2.heap.size, 0, none⟩ = some (.bool sh4) ∧ w28.cell? ⟨w2.heap.size, 1, none⟩ = some (.slice ah4 nh4 ch4) ∧ w28.cell? ⟨w2.heap.size, 2, none⟩ = some (.slice Ah4 Nh4 Ch4) from ⟨cp_0, cp_1, cp_2, cp_3, cs_0, cs_1, cs_2⟩)
        refine U_take (i := 0) (v := ?_) rfl (by kernel_rfl) (by kernel_rfl) (by kernel_rfl) (by kernel_rfl) (fun _ _ _ h => h) (Or.inl ⟨by rfl, ?_⟩) hH ?_
        rotate_left
        · intro w hSw
          try dsimp only at hSw
          go_simp
          try with_reducible rfl
        try simp only [Act.put, List.setIfInBounds_toArray, List.set_cons_zero, List.set_cons_succ]
        refine U_take (i := 1) (v := ?_) rfl (by kernel_rfl) (by kernel_rfl) (by kernel_rfl) (by kernel_rfl) (fun _ _ _ h => h) (Or.inl ⟨by rfl, ?_⟩) hH ?_
        rotate_left
        · intro w hSw
          try dsimp only at hSw
          go_simp
          try with_reducible rfl
        try simp only [Act.put, List.setIfInBounds_toArray, List.set_cons_zero, List.set_cons_succ]
        refine U_take (i := 3) (v := ?_) rfl (by kernel_rfl) (by kernel_rfl) (by kernel_rfl) (by kernel_rfl) (fun _ _ _ h => h) (Or.inl ⟨by rfl, ?_⟩) hH ?_
        rotate_left
        · intro w hSw
          try dsimp only at hSw
          go_simp
          try with_reducible rfl
        try simp only [Act.put, List.setIfInBounds_toArray, List.set_cons_zero, List.set_cons_succ]
        refine U_take (i := 4) (v := ?_) rfl (by kernel_rfl) (by kernel_rfl) (by kernel_rfl) (by kernel_rfl) (fun _ _ _ h => h) (Or.inl ⟨by rfl, ?_⟩) hH ?_
        rotate_left
        · intro w hSw
          try dsimp only at hSw
          go_simp
          try with_reducible rfl
        try simp only [Act.put, List.setIfInBounds_toArray, List.set_cons_zero, List.set_cons_succ]
        refine U_take (i := 6) (v := ?_) rfl (by kernel_rfl) (by kernel_rfl) (by kernel_rfl) (by kernel_rfl) (fun _ _ _ h => h) (Or.inl ⟨by rfl, ?_⟩) hH ?_
        rotate_left
        · intro w hSw
          try dsimp only at hSw
          go_simp
          try with_reducible rfl
        try simp only [Act.put, List.setIfInBounds_toArray, List.set_cons_zero, List.set_cons_succ]
        clear hH
        refine U_one (i := 2) (by kernel_rfl) rfl (fun K hK => ?_)
        go_simp
        (with_reducible refine (top_num_e _ (show (((1 : Int)) : Rat) = ((zAt I j : Int) : Rat) by rw [zAt_out (show ¬ j < I.length by omega)]) (by omega) (by omega)).mono ?_)
        rintro e w29 ⟨_, rfl, h10, hb⟩
        obtain ⟨sh10, ah10, nh10, ch10, Ah10, Nh10, Ch10, rfl⟩ := h10.shape
        replace hs := bStep hs hb
        replace Bls := Bls.mono hb
        replace Blp := Blp.mono hb
        replace h4 := h4.mono hb
        replace h9 := h9.mono hb
        replace Opl := Opl.mono (C3.kept PC.kept) hb
        replace Opt := Opt.mono PC.kept hb
        replace cp_0 := cellK cp_0 hb
        replace cp_1 := cellK cp_1 hb
        replace cp_2 := cellK cp_2 hb
        replace cp_3 := cellK cp_3 hb
        replace cs_0 := cellK cs_0 hb
        replace cs_1 := cellK cs_1 hb
        replace cs_2 := cellK cs_2 hb
        clear hb
        try go_wp2_with fail
        refine hK.out _ _ ⟨cp_0, cp_1, cp_2, cp_3, cs_0, cs_1, cs_2⟩ (fun hH => ?_)
        clear hK K
        try simp only [Act.put, List.setIfInBounds_toArray, List.set_cons_zero, List.set_cons_succ]
        clear hH
        refine U_one (i := 5) (by kernel_rfl) rfl (fun K hK => ?_)
        go_simp
        (with_reducible refine (top_num_e _ HK7.out (by omega) (by omega)).mono ?_)
        rintro e w30 ⟨_, rfl, h11, hb⟩
        obtain ⟨sh11, ah11, nh11, ch11, Ah11, Nh11, Ch11, rfl⟩ := h11.shape
        replace hs := bStep hs hb
        replace Bls := Bls.mono hb
        replace Blp := Blp.mono hb
        replace h4 := h4.mono hb
        replace h9 := h9.mono hb
        replace h10 := h10.mono hb
        replace Opl := Opl.mono (C3.kept PC.kept) hb
        replace Opt := Opt.mono PC.kept hb
        replace cp_0 := cellK cp_0 hb
        replace cp_1 := cellK cp_1 hb
        replace cp_2 := cellK cp_2 hb
        replace cp_3 := cellK cp_3 hb
        replace cs_0 := cellK cs_0 hb
        replace cs_1 := cellK cs_1 hb
        replace cs_2 := cellK cs_2 hb
        clear hb
        try go_wp2_with fail
        refine hK.out _ _ ⟨cp_0, cp_1, cp_2, cp_3, cs_0, cs_1, cs_2⟩ (fun hH => ?_)
        clear hK K
        try simp only [Act.put, List.setIfInBounds_toArray, List.set_cons_zero, List.set_cons_succ]
        refine U_take (i := 7) (v := ?_) rfl (by kernel_rfl) (by kernel_rfl) (by kernel_rfl) (by kernel_rfl) (fun _ _ _ h => h) (Or.inl ⟨by rfl, ?_⟩) hH ?_
        rotate_left
        · intro w hSw
          try dsimp only at hSw
          go_simp
          try with_reducible rfl
        try simp only [Act.put, List.setIfInBounds_toArray, List.set_cons_zero, List.set_cons_succ]
        clear hH
        refine U_one (i := 8) (by kernel_rfl) rfl (fun K hK => ?_)
        go_simp
        generalize hWn : (w30.alloc (.cells #[.bool sh10, .slice ah10 nh10 ch10, .slice Ah10 Nh10 Ch10, .bool sh11, .slice ah11 nh11 ch11, .slice Ah11 Nh11 Ch11, .bool sh4, .slice ah4 nh4 ch4, .slice Ah4 Nh4 Ch4] 41)) = w31
        have hb : Below w30.heap.size w30 w31 := by rw [← hWn]; exact (Below.refl _ _).alloc (Nat.le_refl _) _
        have Blls0 : Bx w31 (w30.heap.size) 41 #[.bool sh10, .slice ah10 nh10 ch10, .slice Ah10 Nh10 Ch10, .bool sh11, .slice ah11 nh11 ch11, .slice Ah11 Nh11 Ch11, .bool sh4, .slice ah4 nh4 ch4, .slice Ah4 Nh4 Ch4] := by rw [← hWn]; exact Bx.new _ _ _
        have ns_ls0 : w2.heap.size ≠ w30.heap.size := by have := Bls.lt; omega
        have np_ls0 : wr.heap.size ≠ w30.heap.size := by have := Blp.lt; omega
        have sz_ls0 : w3.heap.size ≤ w30.heap.size := hs.size
        replace hs := bStep hs hb
        replace Bls := Bls.mono hb
        replace Blp := Blp.mono hb
        replace h4 := h4.mono hb
        replace h9 := h9.mono hb
        replace h10 := h10.mono hb
        replace h11 := h11.mono hb
        replace Opl := Opl.mono (C3.kept PC.kept) hb
        replace Opt := Opt.mono PC.kept hb
        replace cp_0 := cellK cp_0 hb
        replace cp_1 := cellK cp_1 hb
        replace cp_2 := cellK cp_2 hb
        replace cp_3 := cellK cp_3 hb
        replace cs_0 := cellK cs_0 hb
        replace cs_1 := cellK cs_1 hb
        replace cs_2 := cellK cs_2 hb
        clear hb hWn
        refine hK.out _ _ ⟨cp_0, cp_1, cp_2, cp_3, cs_0, cs_1, cs_2⟩ (fun hH => ?_)
        clear hK K
        try simp only [Act.put, List.setIfInBounds_toArray, List.set_cons_zero, List.set_cons_succ]
        clear hH
        refine U_one (i := 9) (by kernel_rfl) rfl (fun K hK => ?_)
        obtain ⟨css, ho1, ho2, ho3, hown0⟩ := Opl
        simp only [List.getElem_toArray, List.getElem_cons_succ, List.getElem_cons_zero]
        rw [if_pos (by rfl)]
        refine wp_append_lies _ _ _ _ (by rfl) w3.heap.size 41 i0 _ 9 168 Try.underlying25 hi hz0 hz1 hz2 (by rfl) (by omega) _ _ css.flatten (by rfl) hown0 ⟨w30.heap.size, 0, none⟩ 1 1 [.bool sh10, .slice ah10 nh10 ch10, .slice Ah10 Nh10 Ch10, .bool sh11, .slice ah11 nh11 ch11, .slice Ah11 Nh11 Ch11, .bool sh4, .slice ah4 nh4 ch4, .slice Ah4 Nh4 Ch4] (by rfl) (by rfl) Blls0.news ?_ (by omega) ?_ ?_ ?_ _ rfl ?_
        · intro u hu; simp only [List.mem_cons, List.mem_nil_iff, or_false] at hu; rcases hu with rfl | rfl | rfl | rfl | rfl | rfl | rfl | rfl | rfl <;> rfl
        · unfold maxLen; (try simp only [List.length_append, List.length_cons, List.length_nil]); omega
        · (try simp only [List.length_append, List.length_cons, List.length_nil]); omega
        · exact hs.size
        intro gpl cappl w32 hown1 hgrow hat hlt
        have hk := KeepD.owns hown0 hgrow (by decide)
        have ho := owns_onlyT hown0 hgrow
        replace hs := hs.grown hgrow hs.size (fun k hk => (hown0.lt k hk).1)
        replace Opl := OwnR.push (C3.kept PC.kept) ho1 ho2 ho3 (x := (((zAt I j : Int) : Rat), tkQ L j, sp)) rfl ⟨[_, _, _], [_, _, _], [_, _, _], rfl, ⟨_, _, _, rfl, h10⟩, ⟨_, _, _, rfl, h11⟩, ⟨_, _, _, rfl, h4⟩⟩ hown1 hk
        replace Bls := Bls.only ho (by decide)
        replace Blp := Blp.only ho (by decide)
        replace h4 := h4.keep hk
        replace h9 := h9.keep hk
        replace h10 := h10.keep hk
        replace h11 := h11.keep hk
        replace Opt := Opt.onlyT PC.kept ho (by decide) (by decide)
        replace cp_0 := Blp.at 0 rfl
        replace cp_1 := Blp.at 1 rfl
        replace cp_2 := Blp.at 2 rfl
        replace cp_3 := Blp.at 3 rfl
        replace cs_0 := Bls.at 0 rfl
        replace cs_1 := Bls.at 1 rfl
        replace cs_2 := Bls.at 2 rfl
        clear hk ho ho1 ho2 ho3 hown0 hown1 hgrow Blls0
        refine hK.out _ _ ⟨cp_0, cp_1, cp_2, cp_3, cs_0, cs_1, cs_2⟩ (fun hH => ?_)
        clear hK K
        try simp only [Act.put, List.setIfInBounds_toArray, List.set_cons_zero, List.set_cons_succ]
        clear hH
        refine U_last (by kernel_rfl) rfl (by kernel_rfl) (fun K hK => ?_)
        go_simp
        refine hK.out _ _ ?_
        clear hK K
        intro wl hW
        rw [hW]
        clear hW wl
        try simp only [Act.put, List.setIfInBounds_toArray, List.set_cons_zero, List.set_cons_succ]
        clear cp_0 cp_1 cp_2 cp_3 cs_0 cs_1 cs_2
        go_wp2
        go_roundw
        case rel => exact ⟨j + 1, by omega, by go_num, hs, Bls, h4, by rw [lyL_succ]; exact Opl, by rw [TH_succ]; exact Opt⟩
        all_goals first | (simp [intOf]; done) | (simp [intOf]; omega)
    · have q6d : ((j : Int) < (L.length : Int)) = False := eq_false (by omega)
      obtain rfl : j = L.length := by omega
      have hC := Opl.rows
      have hD := Opt.rows
      clear Opl Opt lny lnt
      obtain ⟨bhC, ohC, khC, rfl, hC1, hC2, -⟩ := hC.open_ (by rw [HLN.out]; omega)
      obtain ⟨bhD, ohD, khD, rfl, hD1, hD2, -⟩ := hD.open_ (by rw [HTN.out]; omega)
      have lt1 : (TH L L.length).length ≤ L.length := Nat.le_of_eq HTN.out
      have lt2 : L.length ≤ (TH L L.length).length := Nat.le_of_eq HTN.out.symm
      have ly1 : (lyL L I sp L.length).length ≤ L.length := Nat.le_of_eq HLN.out
      have ly2 : L.length ≤ (lyL L I sp L.length).length := Nat.le_of_eq HLN.out.symm
      have ply3 := rowsJ PlyC.kept _ _ _ Fply3.out hs
      replace hs := bStep HB0_5.out hs
      go_wp2_with fail
      with_reducible refine (sc_Echoes_ok _ (lyL L I sp L.length) 1 _ hC (by rw [HLN.out]; omega) (by rw [HLN.out]; omega) HPY.out (by omega) HZY.out).mono ?_
      rintro e w24 ⟨_, _, rfl, X7, rfl, hb⟩
      rw [HX.out] at X7
      obtain ⟨bX7, oX7, kX7, rfl, X71, X72, -⟩ := X7.open_ (by omega)
      replace hs := bStep hs hb
      replace Bls := Bls.mono hb
      replace h4 := h4.mono hb
      replace hC := rowsJ (C3.kept PC.kept) _ _ _ hC hb
      replace hD := rowsJ PC.kept _ _ _ hD hb
      replace ply3 := rowsJ PlyC.kept _ _ _ ply3 hb
      clear hb
      go_wp2_with fail
      with_reducible refine (top_Thick L _ ply3 (by omega) (by omega) HOK.out HTT.out).mono ?_
      rintro e w25 ⟨rfl, hb⟩
      replace hs := bStep hs hb
      replace Bls := Bls.mono hb
      replace h4 := h4.mono hb
      replace hC := rowsJ (C3.kept PC.kept) _ _ _ hC hb
      replace hD := rowsJ PC.kept _ _ _ hD hb
      replace ply3 := rowsJ PlyC.kept _ _ _ ply3 hb
      replace X7 := rowsJ (C2.kept PC.kept) _ _ _ X7 hb
      clear hb
      have q8 : (X.length : Int) = (L.length : Int) - 1 := (by omega)
      have q8b : ((X.length : Int) == (L.length : Int) - 1) = true := beq_iff_eq.2 (by omega)
      have q8n : ((X.length : Int) != (L.length : Int) - 1) = false := bne_eq_false_iff_eq.2 (by omega)
      have q8H := Lib.hid q8
      clear q8
      go_wp2_with fail
      with_reducible refine (top_num_e _ (show ((0 : Int) : Rat) = topQ (TH L L.length) 0 from rfl) (by decide) (by decide)).mono ?_
      rintro e w26 ⟨_, rfl, h9, hb⟩
      obtain ⟨sh9, ah9, nh9, ch9, Ah9, Nh9, Ch9, rfl⟩ := h9.shape
      replace hs := bStep hs hb
      replace Bls := Bls.mono hb
      replace h4 := h4.mono hb
      replace hC := rowsJ (C3.kept PC.kept) _ _ _ hC hb
      replace hD := rowsJ PC.kept _ _ _ hD hb
      replace ply3 := rowsJ PlyC.kept _ _ _ ply3 hb
      replace X7 := rowsJ (C2.kept PC.kept) _ _ _ X7 hb
      clear hb
      go_wp2
      refine Code.abs ?_
      intro w27 hW
      have hG : Gr [] w26 w27 := by rw [hW]; exact (Gr.refl _ _).alloc
      have hbw : Below w.heap.size w26 w27 := hG.below0 hs.size
      have hk : KeepD w26 w27 := hG.keep True.intro
      have sz_w27 : w.heap.size ≤ w26.heap.size := hs.size
      have ns_w27 : w2.heap.size < w26.heap.size := Bls.lt
      have nhC_w27 : bhC < w26.heap.size := hC.lt (by omega)
      have nhD_w27 : bhD < w26.heap.size := hD.lt (by omega)
      have Blsum : Bx w27 (w26.heap.size) 36 #[.bool sh9, .slice ah9 nh9 ch9, .slice Ah9 Nh9 Ch9] := by rw [hW]; exact (Bx.new0 _ _ _)
      replace hs := hs.trans hbw
      replace hC := rowsJ (C3.kept PC.kept) _ _ _ hC (hG.below0 (Nat.le_refl _))
      replace hD := rowsJ PC.kept _ _ _ hD (hG.below0 (Nat.le_refl _))
      replace ply3 := rowsJ PlyC.kept _ _ _ ply3 (hG.below0 (Nat.le_refl _))
      replace X7 := rowsJ (C2.kept PC.kept) _ _ _ X7 (hG.below0 (Nat.le_refl _))
      replace Bls := hG.bx Bls notMem0
      replace h4 := h4.keep hk
      replace h9 := h9.keep hk
      clear hW hG hk hbw
      have hz_w27 : w26.heap.size < w27.heap.size := Blsum.lt
      go_loopw [102] (fun s102 wq => ∃ i : Nat, i ≤ X.length ∧ s102 = .int .i64 i ∧ Below w.heap.size w wq ∧ Bx wq (w2.heap.size) 36 #[.bool sh4, .slice ah4 nh4 ch4, .slice Ah4 Nh4 Ch4] ∧ PV wq (.agg #[.bool sh4, .slice ah4 nh4 ch4, .slice Ah4 Nh4 Ch4]) (sp) ∧ Rows 9 41 (C3 PC) wq (.slice (some ⟨bhC, ohC, none⟩) (lyL L I sp L.length).length khC) ((lyL L I sp L.length)) ∧ Rows 3 36 PC wq (.slice (some ⟨bhD, ohD, none⟩) (TH L L.length).length khD) ((TH L L.length)) ∧ Rows 4 68 PlyC wq (.slice (some ⟨bply3, oply3, none⟩) L.length kply3) L ∧ Rows 6 44 (C2 PC) wq (.slice (some ⟨bX7, oX7, none⟩) X.length kX7) X ∧ BoxP wq (w26.heap.size) (topQ (TH L L.length) i)) (fun s102 _ => X.length - (intOf s102).toNat)
      case atStart => exact ⟨0, Nat.zero_le _, rfl, hs, Bls, h4, hC, hD, ply3, X7, ⟨_, _, _, _, _, _, _, Blsum, h9⟩⟩
      case round =>
        clear Bls Blsum h4 h9 hC hD ply3 X7 hs
        obtain ⟨i, k_le, rfl, hs, Bls, h4, hC, hD, ply3, X7, ⟨sh10, ah10, nh10, ch10, Ah10, Nh10, Ch10, Blsum, h10⟩⟩ := hrel
        by_cases q11 : i < X.length
        · have q11d : ((i : Int) < (X.length : Int)) = True := eq_true (by omega)
          have BI12a : i < X.length := by omega
          have BI12b : ((i : Int) : Int) < (X.length : Int) := by omega
          obtain ⟨ge13a, ae13a, ne13a, ce13a, Ae13a, Ne13a, De13a, ge13b, ae13b, ne13b, ce13b, Ae13b, Ne13b, De13b, Ee130, Ee131, Ee132, Ee133, Ee134, Ee135, he13a, he13b, le13⟩ := rowSP_at X7 (show i < X.length by omega)
          go_upto_region 24 with fail
          clear le13 Ee130 Ee131 Ee132 Ee133 Ee134 Ee135
          refine Code.abs ?_
          intro w48 hW
          have hG : Gr [] wr w48 := by rw [hW]; exact (Gr.refl _ _).alloc
          have hbw : Below w.heap.size wr w48 := hG.below0 hs.size
          have hk : KeepD wr w48 := hG.keep True.intro
          have sz_w48 : w.heap.size ≤ wr.heap.size := hs.size
          have ns_w48 : w2.heap.size < wr.heap.size := Bls.lt
          have nsum_w48 : w26.heap.size < wr.heap.size := Blsum.lt
          have nhC_w48 : bhC < wr.heap.size := hC.lt (by omega)
          have nhD_w48 : bhD < wr.heap.size := hD.lt (by omega)
          have Blx : Bx w48 (wr.heap.size) 44 #[.bool ge13a, .slice ae13a ne13a ce13a, .slice Ae13a Ne13a De13a, .bool ge13b, .slice ae13b ne13b ce13b, .slice Ae13b Ne13b De13b] := by rw [hW]; exact (Bx.new0 _ _ _)
          replace hs := hs.trans hbw
          replace hC := rowsJ (C3.kept PC.kept) _ _ _ hC (hG.below0 (Nat.le_refl _))
          replace hD := rowsJ PC.kept _ _ _ hD (hG.below0 (Nat.le_refl _))
          replace ply3 := rowsJ PlyC.kept _ _ _ ply3 (hG.below0 (Nat.le_refl _))
          replace X7 := rowsJ (C2.kept PC.kept) _ _ _ X7 (hG.below0 (Nat.le_refl _))
          replace Bls := hG.bx Bls notMem0
          replace Blsum := hG.bx Blsum notMem0
          replace h4 := h4.keep hk
          replace h10 := h10.keep hk
          replace he13a := he13a.keep hk
          replace he13b := he13b.keep hk
          clear hW hG hk hbw
          have hz_w48 : wr.heap.size < w48.heap.size := Blx.lt
          have BI14a : i < (TH L L.length).length := by omega
          have BI14b : ((i : Int) : Int) < ((TH L L.length).length : Int) := by omega
          obtain ⟨ge15a, ae15a, ne15a, ce15a, Ae15a, Ne15a, De15a, Ee150, Ee151, Ee152, he15a, le15⟩ := rowP_at hD (show i < (TH L L.length).length by omega)
          refine U_region (S := fun w' => w'.cell? ⟨w26.heap.size, 0, none⟩ = some (.bool sh10) ∧ w'.cell? ⟨w26.heap.size, 1, none⟩ = some (.slice ah10 nh10 ch10) ∧ w'.cell? ⟨w26.heap.size, 2, none⟩ = some (.slice Ah10 Nh10 Ch10) ∧ w'.cell? ⟨bhD, ohD + i * 3, none⟩ = some (.bool ge15a) ∧ w'.cell? ⟨bhD, ohD + i * 3 + 1, none⟩ = some (.slice ae15a ne15a ce15a) ∧ w'.cell? ⟨bhD, ohD + i * 3 + 2, none⟩ = some (.slice Ae15a Ne15a De15a)) (by kernel_rfl) 6 ?_
          refine AnyU.abs ?_
          intro w49 hW
          have hb : Below w48.heap.size w48 w49 := by rw [hW]; exact bDrew _
          replace hs := bStep hs hb
          replace Bls := Bls.mono hb
          replace Blsum := Blsum.mono hb
          replace Blx := Blx.mono hb
          replace h4 := h4.mono hb
          replace h10 := h10.mono hb
          replace he13a := he13a.mono hb
          replace he13b := he13b.mono hb
          replace he15a := he15a.mono hb
          replace hC := rowsJ (C3.kept PC.kept) _ _ _ hC hb
          replace hD := rowsJ PC.kept _ _ _ hD hb
          replace ply3 := rowsJ PlyC.kept _ _ _ ply3 hb
          replace X7 := rowsJ (C2.kept PC.kept) _ _ _ X7 hb
          replace Ee150 := cellK Ee150 hb
          replace Ee151 := cellK Ee151 hb
          replace Ee152 := cellK Ee152 hb
          clear hb hW
          have csum_0 : w49.cell? ⟨w26.heap.size, 0, none⟩ = some (.bool sh10) := Blsum.at 0 rfl
          have csum_1 : w49.cell? ⟨w26.heap.size, 1, none⟩ = some (.slice ah10 nh10 ch10) := Blsum.at 1 rfl
          have csum_2 : w49.cell? ⟨w26.heap.size, 2, none⟩ = some (.slice Ah10 Nh10 Ch10) := Blsum.at 2 rfl
          have hH := (show w49.cell? ⟨w26.heap.size, 0, none⟩ = some (.bool sh10) ∧ w49.cell? ⟨w26.heap.size, 1, none⟩ = some (.slice ah10 nh10 ch10) ∧ w49.cell? ⟨w26.heap.size, 2, none⟩ = some (.slice Ah10 Nh10 Ch10) ∧ w49.cell? ⟨bhD, ohD + i * 3, none⟩ = some (.bool ge15a) ∧ w49.cell? ⟨bhD, ohD + i * 3 + 1, none⟩ = some (.slice ae15a ne15a ce15a) ∧ w49.cell? ⟨bhD, ohD + i * 3 + 2, none⟩ = some (.slice Ae15a Ne15a De15a) from ⟨csum_0, csum_1, csum_2, Ee150, Ee151, Ee152⟩)
          refine U_take (i := 0) (v := ?_) rfl (by kernel_rfl) (by kernel_rfl) (by kernel_rfl) (by kernel_rfl) (fun _ _ _ h => h) (Or.inl ⟨by rfl, ?_⟩) hH ?_
          rotate_left
          · intro w hSw
            try dsimp only at hSw
            go_simp
            try with_reducible rfl
          try simp only [Act.put, List.setIfInBounds_toArray, List.set_cons_zero, List.set_cons_succ]
          refine U_take (i := 1) (v := ?_) rfl (by kernel_rfl) (by kernel_rfl) (by kernel_rfl) (by kernel_rfl) (fun _ _ _ h => h) (Or.inl ⟨by rfl, ?_⟩) hH ?_
          rotate_left
          · intro w hSw
            try dsimp only at hSw
            go_simp
            try with_reducible rfl
          try simp only [Act.put, List.setIfInBounds_toArray, List.set_cons_zero, List.set_cons_succ]
          refine U_take (i := 2) (v := ?_) rfl (by kernel_rfl) (by kernel_rfl) (by kernel_rfl) (by kernel_rfl) (fun _ _ _ h => h) (Or.inl ⟨by rfl, ?_⟩) hH ?_
          rotate_left
          · intro w hSw
            try dsimp only at hSw
            go_simp
            try with_reducible rfl
          try simp only [Act.put, List.setIfInBounds_toArray, List.set_cons_zero, List.set_cons_succ]
          refine U_take (i := 3) (v := ?_) rfl (by kernel_rfl) (by kernel_rfl) (by kernel_rfl) (by kernel_rfl) (fun _ _ _ h => h) (Or.inl ⟨by rfl, ?_⟩) hH ?_
          rotate_left
          · intro w hSw
            try dsimp only at hSw
            go_simp
            try with_reducible rfl
          try simp only [Act.put, List.setIfInBounds_toArray, List.set_cons_zero, List.set_cons_succ]
          refine U_take (i := 4) (v := ?_) rfl (by kernel_rfl) (by kernel_rfl) (by kernel_rfl) (by kernel_rfl) (fun _ _ _ h => h) (Or.inl ⟨by rfl, ?_⟩) hH ?_
          rotate_left
          · intro w hSw
            try dsimp only at hSw
            go_simp
            try with_reducible rfl
          try simp only [Act.put, List.setIfInBounds_toArray, List.set_cons_zero, List.set_cons_succ]
          clear hH
          refine U_one (i := 5) (by kernel_rfl) rfl (fun K hK => ?_)
          go_simp
          (with_reducible refine (pAdd h10 he15a (SzQ.fit (HTS.out i (by omega))) (SzQ.fit (HTZ.out i (by rw [HTN.out]; omega)))).mono ?_)
          rintro e w50 ⟨_, rfl, h16, hb⟩
          obtain ⟨sh16, ah16, nh16, ch16, Ah16, Nh16, Ch16, rfl⟩ := h16.shape
          replace hs := bStep hs hb
          replace Bls := Bls.mono hb
          replace Blsum := Blsum.mono hb
          replace Blx := Blx.mono hb
          replace h4 := h4.mono hb
          replace h10 := h10.mono hb
          replace he13a := he13a.mono hb
          replace he13b := he13b.mono hb
          replace he15a := he15a.mono hb
          replace hC := rowsJ (C3.kept PC.kept) _ _ _ hC hb
          replace hD := rowsJ PC.kept _ _ _ hD hb
          replace ply3 := rowsJ PlyC.kept _ _ _ ply3 hb
          replace X7 := rowsJ (C2.kept PC.kept) _ _ _ X7 hb
          replace csum_0 := cellK csum_0 hb
          replace csum_1 := cellK csum_1 hb
          replace csum_2 := cellK csum_2 hb
          replace Ee150 := cellK Ee150 hb
          replace Ee151 := cellK Ee151 hb
          replace Ee152 := cellK Ee152 hb
          clear hb
          try go_wp2_with fail
          refine hK.out _ _ ⟨csum_0, csum_1, csum_2, Ee150, Ee151, Ee152⟩ (fun hH => ?_)
          clear hK K
          try simp only [Act.put, List.setIfInBounds_toArray, List.set_cons_zero, List.set_cons_succ]
          clear hH
          have csum_0 : w50.cell? ⟨w26.heap.size, 0, none⟩ = some (.bool sh10) := Blsum.at 0 rfl
          have csum_1 : w50.cell? ⟨w26.heap.size, 1, none⟩ = some (.slice ah10 nh10 ch10) := Blsum.at 1 rfl
          have csum_2 : w50.cell? ⟨w26.heap.size, 2, none⟩ = some (.slice Ah10 Nh10 Ch10) := Blsum.at 2 rfl
          have fsum := Blsum.free
          have Lsum : w26.heap.size < w50.heap.size := Blsum.lt
          refine U_last (by kernel_rfl) rfl (by kernel_rfl) (fun K hK => ?_)
          go_simp
          refine hK.out _ _ ?_
          clear hK K
          intro w51 hW
          have hG : Gr [w26.heap.size] w50 w51 := by rw [hW]; exact (Gr.refl _ _).set.set.set
          have hsz := hs.size
          have lsum := Blsum.lt
          have hbw : Below w.heap.size w50 w51 := hG.below1 hs.size (by first | omega | assumption)
          have hk : KeepD w50 w51 := hG.keep ⟨⟨_, Blsum.ty, by decide⟩, True.intro⟩
          have Bl1sum : Bx w51 (w26.heap.size) 36 #[.bool sh16, .slice ah16 nh16 ch16, .slice Ah16 Nh16 Ch16] := by rw [hW]; exact Blsum.set3
          replace hs := hs.trans hbw
          replace hC := hC.onlyT (C3.kept PC.kept) (hG.onlyT (by intro g hg; simp only [List.mem_cons, List.mem_nil_iff, or_false] at hg; rcases hg with rfl <;> first | exact Blsum.ty)) (by decide) (by decide)
          replace hD := hD.gr PC.kept hG (notMem1 (by omega)) hk
          replace ply3 := ply3.onlyT PlyC.kept (hG.onlyT (by intro g hg; simp only [List.mem_cons, List.mem_nil_iff, or_false] at hg; rcases hg with rfl <;> first | exact Blsum.ty)) (by decide) (by decide)
          replace X7 := X7.onlyT (C2.kept PC.kept) (hG.onlyT (by intro g hg; simp only [List.mem_cons, List.mem_nil_iff, or_false] at hg; rcases hg with rfl <;> first | exact Blsum.ty)) (by decide) (by decide)
          replace Bls := hG.bx Bls (notMem1 (by omega))
          replace Blx := hG.bx Blx (notMem1 (by omega))
          replace Blsum := Bl1sum
          clear Bl1sum
          replace h4 := h4.keep hk
          replace h10 := h10.keep hk
          replace he13a := he13a.keep hk
          replace he13b := he13b.keep hk
          replace he15a := he15a.keep hk
          replace h16 := h16.keep hk
          clear hW hG hk hbw hsz lsum
          try simp only [Act.put, List.setIfInBounds_toArray, List.set_cons_zero, List.set_cons_succ]
          clear csum_0 csum_1 csum_2 Ee150 Ee151 Ee152
          go_upto_region 25 with fail
          go_cut [21, 22] (fun kv0 kx0 wz => ∃ gd sh19a ah19a nh19a ch19a Ah19a Nh19a Ch19a sh19b ah19b nh19b ch19b Ah19b Nh19b Ch19b, kv0 = .pointer (some ⟨gd, 0, none⟩) ∧ kx0 = .int .i64 0 ∧ w.heap.size ≤ gd ∧ gd ≠ w2.heap.size ∧ gd ≠ w26.heap.size ∧ gd ≠ wr.heap.size ∧ bhC ≠ gd ∧ bhD ≠ gd ∧ Bx wz gd 72 #[.bool sh19a, .slice ah19a nh19a ch19a, .slice Ah19a Nh19a Ch19a, .bool sh19b, .slice ah19b nh19b ch19b, .slice Ah19b Nh19b Ch19b] ∧ Below w.heap.size w wz ∧ Bx wz (w2.heap.size) 36 #[.bool sh4, .slice ah4 nh4 ch4, .slice Ah4 Nh4 Ch4] ∧ Bx wz (w26.heap.size) 36 #[.bool sh16, .slice ah16 nh16 ch16, .slice Ah16 Nh16 Ch16] ∧ Bx wz (wr.heap.size) 44 #[.bool ge13a, .slice ae13a ne13a ce13a, .slice Ae13a Ne13a De13a, .bool ge13b, .slice ae13b ne13b ce13b, .slice Ae13b Ne13b De13b] ∧ PV wz (.agg #[.bool sh4, .slice ah4 nh4 ch4, .slice Ah4 Nh4 Ch4]) (sp) ∧ PV wz (.agg #[.bool sh10, .slice ah10 nh10 ch10, .slice Ah10 Nh10 Ch10]) (topQ (TH L L.length) i) ∧ PV wz (.agg #[.bool ge13a, .slice ae13a ne13a ce13a, .slice Ae13a Ne13a De13a]) (taQ X i) ∧ PV wz (.agg #[.bool ge13b, .slice ae13b ne13b ce13b, .slice Ae13b Ne13b De13b]) (vaQ X i) ∧ PV wz (.agg #[.bool ge15a, .slice ae15a ne15a ce15a, .slice Ae15a Ne15a De15a]) (nthQ (TH L L.length) i) ∧ PV wz (.agg #[.bool sh16, .slice ah16 nh16 ch16, .slice Ah16 Nh16 Ch16]) ((topQ (TH L L.length) i) + (nthQ (TH L L.length) i)) ∧ PV wz (.agg #[.bool sh19a, .slice ah19a nh19a ch19a, .slice Ah19a Nh19a Ch19a]) (topQ (TH L L.length) (i + 1)) ∧ PV wz (.agg #[.bool sh19b, .slice ah19b nh19b ch19b, .slice Ah19b Nh19b Ch19b]) (topQ (TH L L.length) (i + 1)) ∧ Rows 9 41 (C3 PC) wz (.slice (some ⟨bhC, ohC, none⟩) (lyL L I sp L.length).length khC) ((lyL L I sp L.length)) ∧ Rows 3 36 PC wz (.slice (some ⟨bhD, ohD, none⟩) (TH L L.length).length khD) ((TH L L.length)) ∧ Rows 4 68 PlyC wz (.slice (some ⟨bply3, oply3, none⟩) L.length kply3) L ∧ Rows 6 44 (C2 PC) wz (.slice (some ⟨bX7, oX7, none⟩) X.length kX7) X)
          case first =>
            refine U_region (S := fun w' => w'.cell? ⟨wr.heap.size, 0, none⟩ = some (.bool ge13a) ∧ w'.cell? ⟨wr.heap.size, 1, none⟩ = some (.slice ae13a ne13a ce13a) ∧ w'.cell? ⟨wr.heap.size, 2, none⟩ = some (.slice Ae13a Ne13a De13a) ∧ w'.cell? ⟨wr.heap.size, 3, none⟩ = some (.bool ge13b) ∧ w'.cell? ⟨wr.heap.size, 4, none⟩ = some (.slice ae13b ne13b ce13b) ∧ w'.cell? ⟨wr.heap.size, 5, none⟩ = some (.slice Ae13b Ne13b De13b) ∧ w'.cell? ⟨w2.heap.size, 0, none⟩ = some (.bool sh4) ∧ w'.cell? ⟨w2.heap.size, 1, none⟩ = some (.slice ah4 nh4 ch4) ∧ w'.cell? ⟨w2.heap.size, 2, none⟩ = some (.slice Ah4 Nh4 Ch4)) (by kernel_rfl) 11 ?_
            refine AnyU.abs ?_
            intro w52 hW
            have hb : Below w51.heap.size w51 w52 := by rw [hW]; exact bDrew _
            replace hs := bStep hs hb
            replace Bls := Bls.mono hb
            replace Blsum := Blsum.mono hb
            replace Blx := Blx.mono hb
            replace h4 := h4.mono hb
            replace h10 := h10.mono hb
            replace he13a := he13a.mono hb
            replace he13b := he13b.mono hb
            replace he15a := he15a.mono hb
            replace h16 := h16.mono hb
            replace hC := rowsJ (C3.kept PC.kept) _ _ _ hC hb
            replace hD := rowsJ PC.kept _ _ _ hD hb
            replace ply3 := rowsJ PlyC.kept _ _ _ ply3 hb
            replace X7 := rowsJ (C2.kept PC.kept) _ _ _ X7 hb
            clear hb hW
            have cx_0 : w52.cell? ⟨wr.heap.size, 0, none⟩ = some (.bool ge13a) := Blx.at 0 rfl
            have cx_1 : w52.cell? ⟨wr.heap.size, 1, none⟩ = some (.slice ae13a ne13a ce13a) := Blx.at 1 rfl
            have cx_2 : w52.cell? ⟨wr.heap.size, 2, none⟩ = some (.slice Ae13a Ne13a De13a) := Blx.at 2 rfl
            have cx_3 : w52.cell? ⟨wr.heap.size, 3, none⟩ = some (.bool ge13b) := Blx.at 3 rfl
            have cx_4 : w52.cell? ⟨wr.heap.size, 4, none⟩ = some (.slice ae13b ne13b ce13b) := Blx.at 4 rfl
            have cx_5 : w52.cell? ⟨wr.heap.size, 5, none⟩ = some (.slice Ae13b Ne13b De13b) := Blx.at 5 rfl
            have cs_0 : w52.cell? ⟨w2.heap.size, 0, none⟩ = some (.bool sh4) := Bls.at 0 rfl
            have cs_1 : w52.cell? ⟨w2.heap.size, 1, none⟩ = some (.slice ah4 nh4 ch4) := Bls.at 1 rfl
            have cs_2 : w52.cell? ⟨w2.heap.size, 2, none⟩ = some (.slice Ah4 Nh4 Ch4) := Bls.at 2 rfl
            have hH := (show w52.cell? ⟨wr.heap.size, 0, none⟩ = some (.bool ge13a) ∧ w52.cell? ⟨wr.heap.size, 1, none⟩ = some (.slice ae13a ne13a ce13a) ∧ w52.cell? ⟨wr.heap.size, 2, none⟩ = some (.slice Ae13a Ne13a De13a) ∧ w52.cell? ⟨wr.heap.size, 3, none⟩ = some (.bool ge13b) ∧ w52.cell? ⟨wr.heap.size, 4, none⟩ = some (.slice ae13b ne13b ce13b) ∧ w52.cell? ⟨wr.heap.size, 5, none⟩ = some (.slice Ae13b Ne13b De13b) ∧ w52.cell? ⟨w2.heap.size, 0, none⟩ = some (.bool sh4) ∧ w52.cell? ⟨w2.heap.size, 1, none⟩ = some (.slice ah4 nh4 ch4) ∧ w52.cell? ⟨w2.heap.size, 2, none⟩ = some (.slice Ah4 Nh4 Ch4) from ⟨cx_0, cx_1, cx_2, cx_3, cx_4, cx_5, cs_0, cs_1, cs_2⟩)
            refine U_take (i := 0) (v := ?_) rfl (by kernel_rfl) (by kernel_rfl) (by kernel_rfl) (by kernel_rfl) (fun _ _ _ h => h) (Or.inl ⟨by rfl, ?_⟩) hH ?_
            rotate_left
            · intro w hSw
              try dsimp only at hSw
              go_simp
              try with_reducible rfl
            try simp only [Act.put, List.setIfInBounds_toArray, List.set_cons_zero, List.set_cons_succ]
            refine U_take (i := 1) (v := ?_) rfl (by kernel_rfl) (by kernel_rfl) (by kernel_rfl) (by kernel_rfl) (fun _ _ _ h => h) (Or.inl ⟨by rfl, ?_⟩) hH ?_
            rotate_left
            · intro w hSw
              try dsimp only at hSw
              go_simp
              try with_reducible rfl
            try simp only [Act.put, List.setIfInBounds_toArray, List.set_cons_zero, List.set_cons_succ]
            refine U_take (i := 3) (v := ?_) rfl (by kernel_rfl) (by kernel_rfl) (by kernel_rfl) (by kernel_rfl) (fun _ _ _ h => h) (Or.inl ⟨by rfl, ?_⟩) hH ?_
            rotate_left
            · intro w hSw
              try dsimp only at hSw
              go_simp
              try with_reducible rfl
            try simp only [Act.put, List.setIfInBounds_toArray, List.set_cons_zero, List.set_cons_succ]
            refine U_two (i := 2) (j := 9) (by kernel_rfl) rfl rfl (fun K hK => ?_) (fun K hK => ?_)
            · clear hH
              go_simp
              (with_reducible refine (p_Only _ _ _ he13a).mono ?_)
              rintro e w53 ⟨_, rfl, h17, hb⟩
              obtain ⟨sh17a, ah17a, nh17a, ch17a, Ah17a, Nh17a, Ch17a, sh17b, ah17b, nh17b, ch17b, Ah17b, Nh17b, Ch17b, rfl, h17a, h17b⟩ := h17.shape
              replace hs := bStep hs hb
              replace Bls := Bls.mono hb
              replace Blsum := Blsum.mono hb
              replace Blx := Blx.mono hb
              replace h4 := h4.mono hb
              replace h10 := h10.mono hb
              replace he13a := he13a.mono hb
              replace he13b := he13b.mono hb
              replace he15a := he15a.mono hb
              replace h16 := h16.mono hb
              replace hC := rowsJ (C3.kept PC.kept) _ _ _ hC hb
              replace hD := rowsJ PC.kept _ _ _ hD hb
              replace ply3 := rowsJ PlyC.kept _ _ _ ply3 hb
              replace X7 := rowsJ (C2.kept PC.kept) _ _ _ X7 hb
              replace cx_0 := cellK cx_0 hb
              replace cx_1 := cellK cx_1 hb
              replace cx_2 := cellK cx_2 hb
              replace cx_3 := cellK cx_3 hb
              replace cx_4 := cellK cx_4 hb
              replace cx_5 := cellK cx_5 hb
              replace cs_0 := cellK cs_0 hb
              replace cs_1 := cellK cs_1 hb
              replace cs_2 := cellK cs_2 hb
              clear hb
              try go_wp2_with fail
              refine hK.out _ _ ⟨cx_0, cx_1, cx_2, cx_3, cx_4, cx_5, cs_0, cs_1, cs_2⟩ (fun hH => ?_)
              clear hK K
              try simp only [Act.put, List.setIfInBounds_toArray, List.set_cons_zero, List.set_cons_succ]
              refine U_two (i := 4) (j := 9) (by kernel_rfl) rfl rfl (fun K hK => ?_) (fun K hK => ?_)
              · clear hH
                go_simp
                (with_reducible refine (p_Only _ _ _ h4).mono ?_)
                rintro e w54 ⟨_, rfl, h18, hb⟩
                obtain ⟨sh18a, ah18a, nh18a, ch18a, Ah18a, Nh18a, Ch18a, sh18b, ah18b, nh18b, ch18b, Ah18b, Nh18b, Ch18b, rfl, h18a, h18b⟩ := h18.shape
                replace hs := bStep hs hb
                replace Bls := Bls.mono hb
                replace Blsum := Blsum.mono hb
                replace Blx := Blx.mono hb
                replace h4 := h4.mono hb
                replace h10 := h10.mono hb
                replace he13a := he13a.mono hb
                replace he13b := he13b.mono hb
                replace he15a := he15a.mono hb
                replace h16 := h16.mono hb
                replace h17a := h17a.mono hb
                replace h17b := h17b.mono hb
                replace hC := rowsJ (C3.kept PC.kept) _ _ _ hC hb
                replace hD := rowsJ PC.kept _ _ _ hD hb
                replace ply3 := rowsJ PlyC.kept _ _ _ ply3 hb
                replace X7 := rowsJ (C2.kept PC.kept) _ _ _ X7 hb
                replace cx_0 := cellK cx_0 hb
                replace cx_1 := cellK cx_1 hb
                replace cx_2 := cellK cx_2 hb
                replace cx_3 := cellK cx_3 hb
                replace cx_4 := cellK cx_4 hb
                replace cx_5 := cellK cx_5 hb
                replace cs_0 := cellK cs_0 hb
                replace cs_1 := cellK cs_1 hb
                replace cs_2 := cellK cs_2 hb
                clear hb
                try go_wp2_with fail
                refine hK.out _ _ ⟨cx_0, cx_1, cx_2, cx_3, cx_4, cx_5, cs_0, cs_1, cs_2⟩ (fun hH => ?_)
                clear hK K
                try simp only [Act.put, List.setIfInBounds_toArray, List.set_cons_zero, List.set_cons_succ]
                refine U_two (i := 5) (j := 9) (by kernel_rfl) rfl rfl (fun K hK => ?_) (fun K hK => ?_)
                · clear hH
                  go_simp
                  (with_reducible refine (sc_Depth_dep (PV2.mk h17a h17b) (PV2.mk h18a h18b) (SzQ.mono (HXS.out i (by omega)).1 (by omega)) (SzQ.mono (HXS.out i (by omega)).1 (by omega)) (SzQ.mono ss (by omega)) (SzQ.mono ss (by omega)) (dep_at HOK.out HS0.out (show i + 1 ≤ L.length by omega) (HXT.out i (by omega)))).mono ?_)
                  rintro e w55 ⟨_, _, rfl, h19, rfl, hb⟩
                  obtain ⟨sh19a, ah19a, nh19a, ch19a, Ah19a, Nh19a, Ch19a, sh19b, ah19b, nh19b, ch19b, Ah19b, Nh19b, Ch19b, rfl, h19a, h19b⟩ := h19.shape
                  replace hs := bStep hs hb
                  replace Bls := Bls.mono hb
                  replace Blsum := Blsum.mono hb
                  replace Blx := Blx.mono hb
                  replace h4 := h4.mono hb
                  replace h10 := h10.mono hb
                  replace he13a := he13a.mono hb
                  replace he13b := he13b.mono hb
                  replace he15a := he15a.mono hb
                  replace h16 := h16.mono hb
                  replace h17a := h17a.mono hb
                  replace h17b := h17b.mono hb
                  replace h18a := h18a.mono hb
                  replace h18b := h18b.mono hb
                  replace hC := rowsJ (C3.kept PC.kept) _ _ _ hC hb
                  replace hD := rowsJ PC.kept _ _ _ hD hb
                  replace ply3 := rowsJ PlyC.kept _ _ _ ply3 hb
                  replace X7 := rowsJ (C2.kept PC.kept) _ _ _ X7 hb
                  replace cx_0 := cellK cx_0 hb
                  replace cx_1 := cellK cx_1 hb
                  replace cx_2 := cellK cx_2 hb
                  replace cx_3 := cellK cx_3 hb
                  replace cx_4 := cellK cx_4 hb
                  replace cx_5 := cellK cx_5 hb
                  replace cs_0 := cellK cs_0 hb
                  replace cs_1 := cellK cs_1 hb
                  replace cs_2 := cellK cs_2 hb
                  clear hb
                  try go_wp2_with fail
                  refine hK.out _ _ ⟨cx_0, cx_1, cx_2, cx_3, cx_4, cx_5, cs_0, cs_1, cs_2⟩ (fun hH => ?_)
                  clear hK K
                  try simp only [Act.put, List.setIfInBounds_toArray, List.set_cons_zero, List.set_cons_succ]
                  refine U_take (i := 6) (v := ?_) rfl (by kernel_rfl) (by kernel_rfl) (by kernel_rfl) (by kernel_rfl) (fun _ _ _ h => h) (Or.inl ⟨by rfl, ?_⟩) hH ?_
                  rotate_left
                  · intro w hSw
                    try dsimp only at hSw
                    go_simp
                    try with_reducible rfl
                  try simp only [Act.put, List.setIfInBounds_toArray, List.set_cons_zero, List.set_cons_succ]
                  refine U_take (i := 7) (v := ?_) rfl (by kernel_rfl) (by kernel_rfl) (by kernel_rfl) (by kernel_rfl) (fun _ _ _ h => h) (Or.inl ⟨by rfl, ?_⟩) hH ?_
                  rotate_left
                  · intro w hSw
                    try dsimp only at hSw
                    go_simp
                    try with_reducible rfl
                  try simp only [Act.put, List.setIfInBounds_toArray, List.set_cons_zero, List.set_cons_succ]
                  refine U_take (i := 8) (v := ?_) rfl (by kernel_rfl) (by kernel_rfl) (by kernel_rfl) (by kernel_rfl) (fun _ _ _ h => h) (Or.inl ⟨by rfl, ?_⟩) hH ?_
                  rotate_left
                  · intro w hSw
                    try dsimp only at hSw
                    go_simp
                    try with_reducible rfl
                  try simp only [Act.put, List.setIfInBounds_toArray, List.set_cons_zero, List.set_cons_succ]
                  clear hH
                  refine U_one (i := 9) (by kernel_rfl) rfl (fun K hK => ?_)
                  go_simp
                  generalize hWn : (w55.alloc (.cells #[.bool false, .slice none 0 0, .slice none 0 0, .bool false, .slice none 0 0, .slice none 0 0] 72)) = w56
                  have hb : Below w55.heap.size w55 w56 := by rw [← hWn]; exact (Below.refl _ _).alloc (Nat.le_refl _) _
                  have Bld : Bx w56 (w55.heap.size) 72 #[.bool false, .slice none 0 0, .slice none 0 0, .bool false, .slice none 0 0, .slice none 0 0] := by rw [← hWn]; exact Bx.new _ _ _
                  have ns_d : w2.heap.size ≠ w55.heap.size := by have := Bls.lt; omega
                  have nsum_d : w26.heap.size ≠ w55.heap.size := by have := Blsum.lt; omega
                  have nx_d : wr.heap.size ≠ w55.heap.size := by have := Blx.lt; omega
                  have nhC_d : bhC < w55.heap.size := hC.lt (by omega)
                  have nhD_d : bhD < w55.heap.size := hD.lt (by omega)
                  have sz_d : w.heap.size ≤ w55.heap.size := hs.size
                  replace hs := bStep hs hb
                  replace Bls := Bls.mono hb
                  replace Blsum := Blsum.mono hb
                  replace Blx := Blx.mono hb
                  replace h4 := h4.mono hb
                  replace h10 := h10.mono hb
                  replace he13a := he13a.mono hb
                  replace he13b := he13b.mono hb
                  replace he15a := he15a.mono hb
                  replace h16 := h16.mono hb
                  replace h17a := h17a.mono hb
                  replace h17b := h17b.mono hb
                  replace h18a := h18a.mono hb
                  replace h18b := h18b.mono hb
                  replace h19a := h19a.mono hb
                  replace h19b := h19b.mono hb
                  replace hC := rowsJ (C3.kept PC.kept) _ _ _ hC hb
                  replace hD := rowsJ PC.kept _ _ _ hD hb
                  replace ply3 := rowsJ PlyC.kept _ _ _ ply3 hb
                  replace X7 := rowsJ (C2.kept PC.kept) _ _ _ X7 hb
                  replace cx_0 := cellK cx_0 hb
                  replace cx_1 := cellK cx_1 hb
                  replace cx_2 := cellK cx_2 hb
                  replace cx_3 := cellK cx_3 hb
                  replace cx_4 := cellK cx_4 hb
                  replace cx_5 := cellK cx_5 hb
                  replace cs_0 := cellK cs_0 hb
                  replace cs_1 := cellK cs_1 hb
                  replace cs_2 := cellK cs_2 hb
                  clear hb hWn
                  refine hK.out _ _ ⟨cx_0, cx_1, cx_2, cx_3, cx_4, cx_5, cs_0, cs_1, cs_2⟩ (fun hH => ?_)
                  clear hK K
                  try simp only [Act.put, List.setIfInBounds_toArray, List.set_cons_zero, List.set_cons_succ]
                  clear hH
                  have cd_0 : w56.cell? ⟨w55.heap.size, 0, none⟩ = some (.bool false) := Bld.at 0 rfl
                  have cd_1 : w56.cell? ⟨w55.heap.size, 1, none⟩ = some (.slice none 0 0) := Bld.at 1 rfl
                  have cd_2 : w56.cell? ⟨w55.heap.size, 2, none⟩ = some (.slice none 0 0) := Bld.at 2 rfl
                  have cd_3 : w56.cell? ⟨w55.heap.size, 3, none⟩ = some (.bool false) := Bld.at 3 rfl
                  have cd_4 : w56.cell? ⟨w55.heap.size, 4, none⟩ = some (.slice none 0 0) := Bld.at 4 rfl
                  have cd_5 : w56.cell? ⟨w55.heap.size, 5, none⟩ = some (.slice none 0 0) := Bld.at 5 rfl
                  have fd := Bld.free
                  have Ld : w55.heap.size < w56.heap.size := Bld.lt
                  refine U_one (i := 10) (by kernel_rfl) rfl (fun K hK => ?_)
                  go_simp
                  generalize hW_ : ((((((w56.setCell ⟨w55.heap.size, 0, none⟩ (.bool sh19a)).setCell ⟨w55.heap.size, 1, none⟩ (.slice ah19a nh19a ch19a)).setCell ⟨w55.heap.size, 2, none⟩ (.slice Ah19a Nh19a Ch19a)).setCell ⟨w55.heap.size, 3, none⟩ (.bool sh19b)).setCell ⟨w55.heap.size, 4, none⟩ (.slice ah19b nh19b ch19b)).setCell ⟨w55.heap.size, 5, none⟩ (.slice Ah19b Nh19b Ch19b)) = w57
                  have hW := hW_.symm
                  clear hW_
                  have hG : Gr [w55.heap.size] w56 w57 := by rw [hW]; exact (Gr.refl _ _).set.set.set.set.set.set
                  have hsz := hs.size
                  have ld := Bld.lt
                  have hbw : Below w.heap.size w56 w57 := hG.below1 hs.size (by first | omega | assumption)
                  have hk : KeepD w56 w57 := hG.keep ⟨⟨_, Bld.ty, by decide⟩, True.intro⟩
                  have Bl1d : Bx w57 (w55.heap.size) 72 #[.bool sh19a, .slice ah19a nh19a ch19a, .slice Ah19a Nh19a Ch19a, .bool sh19b, .slice ah19b nh19b ch19b, .slice Ah19b Nh19b Ch19b] := by rw [hW]; exact Bld.set6
                  replace hs := hs.trans hbw
                  replace hC := hC.onlyT (C3.kept PC.kept) (hG.onlyT (by intro g hg; simp only [List.mem_cons, List.mem_nil_iff, or_false] at hg; rcases hg with rfl <;> first | exact Bld.ty)) (by decide) (by decide)
                  replace hD := hD.onlyT PC.kept (hG.onlyT (by intro g hg; simp only [List.mem_cons, List.mem_nil_iff, or_false] at hg; rcases hg with rfl <;> first | exact Bld.ty)) (by decide) (by decide)
                  replace ply3 := ply3.onlyT PlyC.kept (hG.onlyT (by intro g hg; simp only [List.mem_cons, List.mem_nil_iff, or_false] at hg; rcases hg with rfl <;> first | exact Bld.ty)) (by decide) (by decide)
                  replace X7 := X7.onlyT (C2.kept PC.kept) (hG.onlyT (by intro g hg; simp only [List.mem_cons, List.mem_nil_iff, or_false] at hg; rcases hg with rfl <;> first | exact Bld.ty)) (by decide) (by decide)
                  replace Bls := hG.bx Bls (notMem1 (by omega))
                  replace Blsum := hG.bx Blsum (notMem1 (by omega))
                  replace Blx := hG.bx Blx (notMem1 (by omega))
                  replace Bld := Bl1d
                  clear Bl1d
                  replace h4 := h4.keep hk
                  replace h10 := h10.keep hk
                  replace he13a := he13a.keep hk
                  replace he13b := he13b.keep hk
                  replace he15a := he15a.keep hk
                  replace h16 := h16.keep hk
                  replace h17a := h17a.keep hk
                  replace h17b := h17b.keep hk
                  replace h18a := h18a.keep hk
                  replace h18b := h18b.keep hk
                  replace h19a := h19a.keep hk
                  replace h19b := h19b.keep hk
                  replace cx_0 := hG.cell cx_0 (notMem1 (by dsimp only; omega))
                  replace cx_1 := hG.cell cx_1 (notMem1 (by dsimp only; omega))
                  replace cx_2 := hG.cell cx_2 (notMem1 (by dsimp only; omega))
                  replace cx_3 := hG.cell cx_3 (notMem1 (by dsimp only; omega))
                  replace cx_4 := hG.cell cx_4 (notMem1 (by dsimp only; omega))
                  replace cx_5 := hG.cell cx_5 (notMem1 (by dsimp only; omega))
                  replace cs_0 := hG.cell cs_0 (notMem1 (by dsimp only; omega))
                  replace cs_1 := hG.cell cs_1 (notMem1 (by dsimp only; omega))
                  replace cs_2 := hG.cell cs_2 (notMem1 (by dsimp only; omega))
                  clear hW hG hk hbw hsz ld
                  refine hK.out _ _ ⟨cx_0, cx_1, cx_2, cx_3, cx_4, cx_5, cs_0, cs_1, cs_2⟩ (fun hH => ?_)
                  clear hK K
                  try simp only [Act.put, List.setIfInBounds_toArray, List.set_cons_zero, List.set_cons_succ]
                  clear hH
                  refine U_last (by kernel_rfl) rfl (by kernel_rfl) (fun K hK => ?_)
                  go_simp
                  refine hK.out _ _ ?_
                  clear hK K
                  intro wl hW
                  rw [hW]
                  clear hW wl
                  try simp only [Act.put, List.setIfInBounds_toArray, List.set_cons_zero, List.set_cons_succ]
                  clear cx_0 cx_1 cx_2 cx_3 cx_4 cx_5 cs_0 cs_1 cs_2
                  go_wp2_with fail
                  go_meet
                  exact ⟨w55.heap.size, _, _, _, _, _, _, _, _, _, _, _, _, _, _, rfl, rfl, (by first | exact sz_d | omega), (by omega), (by omega), (by omega), (by omega), (by omega), Bld, hs, Bls, Blsum, Blx, h4, h10, he13a, he13b, he15a, h16, h19a, h19b, hC, hD, ply3, X7⟩
                · clear hH
                  go_simp
                  generalize hWn : (w54.alloc (.cells #[.bool false, .slice none 0 0, .slice none 0 0, .bool false, .slice none 0 0, .slice none 0 0] 72)) = w55
                  have hb : Below w54.heap.size w54 w55 := by rw [← hWn]; exact (Below.refl _ _).alloc (Nat.le_refl _) _
                  have Bld : Bx w55 (w54.heap.size) 72 #[.bool false, .slice none 0 0, .slice none 0 0, .bool false, .slice none 0 0, .slice none 0 0] := by rw [← hWn]; exact Bx.new _ _ _
                  have ns_d : w2.heap.size ≠ w54.heap.size := by have := Bls.lt; omega
                  have nsum_d : w26.heap.size ≠ w54.heap.size := by have := Blsum.lt; omega
                  have nx_d : wr.heap.size ≠ w54.heap.size := by have := Blx.lt; omega
                  have nhC_d : bhC < w54.heap.size := hC.lt (by omega)
                  have nhD_d : bhD < w54.heap.size := hD.lt (by omega)
                  have sz_d : w.heap.size ≤ w54.heap.size := hs.size
                  replace hs := bStep hs hb
                  replace Bls := Bls.mono hb
                  replace Blsum := Blsum.mono hb
                  replace Blx := Blx.mono hb
                  replace h4 := h4.mono hb
                  replace h10 := h10.mono hb
                  replace he13a := he13a.mono hb
                  replace he13b := he13b.mono hb
                  replace he15a := he15a.mono hb
                  replace h16 := h16.mono hb
                  replace h17a := h17a.mono hb
                  replace h17b := h17b.mono hb
                  replace h18a := h18a.mono hb
                  replace h18b := h18b.mono hb
                  replace hC := rowsJ (C3.kept PC.kept) _ _ _ hC hb
                  replace hD := rowsJ PC.kept _ _ _ hD hb
                  replace ply3 := rowsJ PlyC.kept _ _ _ ply3 hb
                  replace X7 := rowsJ (C2.kept PC.kept) _ _ _ X7 hb
                  replace cx_0 := cellK cx_0 hb
                  replace cx_1 := cellK cx_1 hb
                  replace cx_2 := cellK cx_2 hb
                  replace cx_3 := cellK cx_3 hb
                  replace cx_4 := cellK cx_4 hb
                  replace cx_5 := cellK cx_5 hb
                  replace cs_0 := cellK cs_0 hb
                  replace cs_1 := cellK cs_1 hb
                  replace cs_2 := cellK cs_2 hb
                  clear hb hWn
                  refine hK.out _ _ ⟨cx_0, cx_1, cx_2, cx_3, cx_4, cx_5, cs_0, cs_1, cs_2⟩ (fun hH => ?_)
                  clear hK K
                  try simp only [Act.put, List.setIfInBounds_toArray, List.set_cons_zero, List.set_cons_succ]
                  clear hH
                  refine U_one (i := 5) (by kernel_rfl) rfl (fun K hK => ?_)
                  go_simp
                  (with_reducible refine (sc_Depth_dep (PV2.mk h17a h17b) (PV2.mk h18a h18b) (SzQ.mono (HXS.out i (by omega)).1 (by omega)) (SzQ.mono (HXS.out i (by omega)).1 (by omega)) (SzQ.mono ss (by omega)) (SzQ.mono ss (by omega)) (dep_at HOK.out HS0.out (show i + 1 ≤ L.length by omega) (HXT.out i (by omega)))).mono ?_)
                  rintro e w56 ⟨_, _, rfl, h19, rfl, hb⟩
                  obtain ⟨sh19a, ah19a, nh19a, ch19a, Ah19a, Nh19a, Ch19a, sh19b, ah19b, nh19b, ch19b, Ah19b, Nh19b, Ch19b, rfl, h19a, h19b⟩ := h19.shape
                  replace hs := bStep hs hb
                  replace Bls := Bls.mono hb
                  replace Blsum := Blsum.mono hb
                  replace Blx := Blx.mono hb
                  replace Bld := Bld.mono hb
                  replace h4 := h4.mono hb
                  replace h10 := h10.mono hb
                  replace he13a := he13a.mono hb
                  replace he13b := he13b.mono hb
                  replace he15a := he15a.mono hb
                  replace h16 := h16.mono hb
                  replace h17a := h17a.mono hb
                  replace h17b := h17b.mono hb
                  replace h18a := h18a.mono hb
                  replace h18b := h18b.mono hb
                  replace hC := rowsJ (C3.kept PC.kept) _ _ _ hC hb
                  replace hD := rowsJ PC.kept _ _ _ hD hb
                  replace ply3 := rowsJ PlyC.kept _ _ _ ply3 hb
                  replace X7 := rowsJ (C2.kept PC.kept) _ _ _ X7 hb
                  replace cx_0 := cellK cx_0 hb
                  replace cx_1 := cellK cx_1 hb
                  replace cx_2 := cellK cx_2 hb
                  replace cx_3 := cellK cx_3 hb
                  replace cx_4 := cellK cx_4 hb
                  replace cx_5 := cellK cx_5 hb
                  replace cs_0 := cellK cs_0 hb
                  replace cs_1 := cellK cs_1 hb
                  replace cs_2 := cellK cs_2 hb
                  clear hb
                  try go_wp2_with fail
                  refine hK.out _ _ ⟨cx_0, cx_1, cx_2, cx_3, cx_4, cx_5, cs_0, cs_1, cs_2⟩ (fun hH => ?_)
                  clear hK K
                  try simp only [Act.put, List.setIfInBounds_toArray, List.set_cons_zero, List.set_cons_succ]
                  refine U_take (i := 6) (v := ?_) rfl (by kernel_rfl) (by kernel_rfl) (by kernel_rfl) (by kernel_rfl) (fun _ _ _ h => h) (Or.inl ⟨by rfl, ?_⟩) hH ?_
                  rotate_left
                  · intro w hSw
                    try dsimp only at hSw
                    go_simp
                    try with_reducible rfl
                  try simp only [Act.put, List.setIfInBounds_toArray, List.set_cons_zero, List.set_cons_succ]
                  refine U_take (i := 7) (v := ?_) rfl (by kernel_rfl) (by kernel_rfl) (by kernel_rfl) (by kernel_rfl) (fun _ _ _ h => h) (Or.inl ⟨by rfl, ?_⟩) hH ?_
                  rotate_left
                  · intro w hSw
                    try dsimp only at hSw
                    go_simp
                    try with_reducible rfl
                  try simp only [Act.put, List.setIfInBounds_toArray, List.set_cons_zero, List.set_cons_succ]
                  refine U_take (i := 8) (v := ?_) rfl (by kernel_rfl) (by kernel_rfl) (by kernel_rfl) (by kernel_rfl) (fun _ _ _ h => h) (Or.inl ⟨by rfl, ?_⟩) hH ?_
                  rotate_left
                  · intro w hSw
                    try dsimp only at hSw
                    go_simp
                    try with_reducible rfl
                  try simp only [Act.put, List.setIfInBounds_toArray, List.set_cons_zero, List.set_cons_succ]
                  clear hH
                  have cd_0 : w56.cell? ⟨w54.heap.size, 0, none⟩ = some (.bool false) := Bld.at 0 rfl
                  have cd_1 : w56.cell? ⟨w54.heap.size, 1, none⟩ = some (.slice none 0 0) := Bld.at 1 rfl
                  have cd_2 : w56.cell? ⟨w54.heap.size, 2, none⟩ = some (.slice none 0 0) := Bld.at 2 rfl
                  have cd_3 : w56.cell? ⟨w54.heap.size, 3, none⟩ = some (.bool false) := Bld.at 3 rfl
                  have cd_4 : w56.cell? ⟨w54.heap.size, 4, none⟩ = some (.slice none 0 0) := Bld.at 4 rfl
                  have cd_5 : w56.cell? ⟨w54.heap.size, 5, none⟩ = some (.slice none 0 0) := Bld.at 5 rfl
                  have fd := Bld.free
                  have Ld : w54.heap.size < w56.heap.size := Bld.lt
                  refine U_one (i := 10) (by kernel_rfl) rfl (fun K hK => ?_)
                  go_simp
                  generalize hW_ : ((((((w56.setCell ⟨w54.heap.size, 0, none⟩ (.bool sh19a)).setCell ⟨w54.heap.size, 1, none⟩ (.slice ah19a nh19a ch19a)).setCell ⟨w54.heap.size, 2, none⟩ (.slice Ah19a Nh19a Ch19a)).setCell ⟨w54.heap.size, 3, none⟩ (.bool sh19b)).setCell ⟨w54.heap.size, 4, none⟩ (.slice ah19b nh19b ch19b)).setCell ⟨w54.heap.size, 5, none⟩ (.slice Ah19b Nh19b Ch19b)) = w57
                  have hW := hW_.symm
                  clear hW_
                  have hG : Gr [w54.heap.size] w56 w57 := by rw [hW]; exact (Gr.refl _ _).set.set.set.set.set.set
                  have hsz := hs.size
                  have ld := Bld.lt
                  have hbw : Below w.heap.size w56 w57 := hG.below1 hs.size (by first | omega | assumption)
                  have hk : KeepD w56 w57 := hG.keep ⟨⟨_, Bld.ty, by decide⟩, True.intro⟩
                  have Bl1d : Bx w57 (w54.heap.size) 72 #[.bool sh19a, .slice ah19a nh19a ch19a, .slice Ah19a Nh19a Ch19a, .bool sh19b, .slice ah19b nh19b ch19b, .slice Ah19b Nh19b Ch19b] := by rw [hW]; exact Bld.set6
                  replace hs := hs.trans hbw
                  replace hC := hC.onlyT (C3.kept PC.kept) (hG.onlyT (by intro g hg; simp only [List.mem_cons, List.mem_nil_iff, or_false] at hg; rcases hg with rfl <;> first | exact Bld.ty)) (by decide) (by decide)
                  replace hD := hD.onlyT PC.kept (hG.onlyT (by intro g hg; simp only [List.mem_cons, List.mem_nil_iff, or_false] at hg; rcases hg with rfl <;> first | exact Bld.ty)) (by decide) (by decide)
                  replace ply3 := ply3.onlyT PlyC.kept (hG.onlyT (by intro g hg; simp only [List.mem_cons, List.mem_nil_iff, or_false] at hg; rcases hg with rfl <;> first | exact Bld.ty)) (by decide) (by decide)
                  replace X7 := X7.onlyT (C2.kept PC.kept) (hG.onlyT (by intro g hg; simp only [List.mem_cons, List.mem_nil_iff, or_false] at hg; rcases hg with rfl <;> first | exact Bld.ty)) (by decide) (by decide)
                  replace Bls := hG.bx Bls (notMem1 (by omega))
                  replace Blsum := hG.bx Blsum (notMem1 (by omega))
                  replace Blx := hG.bx Blx (notMem1 (by omega))
                  replace Bld := Bl1d
                  clear Bl1d
                  replace h4 := h4.keep hk
                  replace h10 := h10.keep hk
                  replace he13a := he13a.keep hk
                  replace he13b := he13b.keep hk
                  replace he15a := he15a.keep hk
                  replace h16 := h16.keep hk
                  replace h17a := h17a.keep hk
                  replace h17b := h17b.keep hk
                  replace h18a := h18a.keep hk
                  replace h18b := h18b.keep hk
                  replace h19a := h19a.keep hk
                  replace h19b := h19b.keep hk
                  replace cx_0 := hG.cell cx_0 (notMem1 (by dsimp only; omega))
                  replace cx_1 := hG.cell cx_1 (notMem1 (by dsimp only; omega))
                  replace cx_2 := hG.cell cx_2 (notMem1 (by dsimp only; omega))
                  replace cx_3 := hG.cell cx_3 (notMem1 (by dsimp only; omega))
                  replace cx_4 := hG.cell cx_4 (notMem1 (by dsimp only; omega))
                  replace cx_5 := hG.cell cx_5 (notMem1 (by dsimp only; omega))
                  replace cs_0 := hG.cell cs_0 (notMem1 (by dsimp only; omega))
                  replace cs_1 := hG.cell cs_1 (notMem1 (by dsimp only; omega))
                  replace cs_2 := hG.cell cs_2 (notMem1 (by dsimp only; omega))
                  clear hW hG hk hbw hsz ld
                  refine hK.out _ _ ⟨cx_0, cx_1, cx_2, cx_3, cx_4, cx_5, cs_0, cs_1, cs_2⟩ (fun hH => ?_)
                  clear hK K
                  try simp only [Act.put, List.setIfInBounds_toArray, List.set_cons_zero, List.set_cons_succ]
                  clear hH
                  refine U_last (by kernel_rfl) rfl (by kernel_rfl) (fun K hK => ?_)
                  go_simp
                  refine hK.out _ _ ?_
                  clear hK K
                  intro wl hW
                  rw [hW]
                  clear hW wl
                  try simp only [Act.put, List.setIfInBounds_toArray, List.set_cons_zero, List.set_cons_succ]
                  clear cx_0 cx_1 cx_2 cx_3 cx_4 cx_5 cs_0 cs_1 cs_2
                  go_wp2_with fail
                  go_meet
                  exact ⟨w54.heap.size, _, _, _, _, _, _, _, _, _, _, _, _, _, _, rfl, rfl, (by first | exact sz_d | omega), (by omega), (by omega), (by omega), (by omega), (by omega), Bld, hs, Bls, Blsum, Blx, h4, h10, he13a, he13b, he15a, h16, h19a, h19b, hC, hD, ply3, X7⟩
              · clear hH
                go_simp
                generalize hWn : (w53.alloc (.cells #[.bool false, .slice none 0 0, .slice none 0 0, .bool false, .slice none 0 0, .slice none 0 0] 72)) = w54
                have hb : Below w53.heap.size w53 w54 := by rw [← hWn]; exact (Below.refl _ _).alloc (Nat.le_refl _) _
                have Bld : Bx w54 (w53.heap.size) 72 #[.bool false, .slice none 0 0, .slice none 0 0, .bool false, .slice none 0 0, .slice none 0 0] := by rw [← hWn]; exact Bx.new _ _ _
                have ns_d : w2.heap.size ≠ w53.heap.size := by have := Bls.lt; omega
                have nsum_d : w26.heap.size ≠ w53.heap.size := by have := Blsum.lt; omega
                have nx_d : wr.heap.size ≠ w53.heap.size := by have := Blx.lt; omega
                have nhC_d : bhC < w53.heap.size := hC.lt (by omega)
                have nhD_d : bhD < w53.heap.size := hD.lt (by omega)
                have sz_d : w.heap.size ≤ w53.heap.size := hs.size
                replace hs := bStep hs hb
                replace Bls := Bls.mono hb
                replace Blsum := Blsum.mono hb
                replace Blx := Blx.mono hb
                replace h4 := h4.mono hb
                replace h10 := h10.mono hb
                replace he13a := he13a.mono hb
                replace he13b := he13b.mono hb
                replace he15a := he15a.mono hb
                replace h16 := h16.mono hb
                replace h17a := h17a.mono hb
                replace h17b := h17b.mono hb
                replace hC := rowsJ (C3.kept PC.kept) _ _ _ hC hb
                replace hD := rowsJ PC.kept _ _ _ hD hb
                replace ply3 := rowsJ PlyC.kept _ _ _ ply3 hb
                replace X7 := rowsJ (C2.kept PC.kept) _ _ _ X7 hb
                replace cx_0 := cellK cx_0 hb
                replace cx_1 := cellK cx_1 hb
                replace cx_2 := cellK cx_2 hb
                replace cx_3 := cellK cx_3 hb
                replace cx_4 := cellK cx_4 hb
                replace cx_5 := cellK cx_5 hb
                replace cs_0 := cellK cs_0 hb
                replace cs_1 := cellK cs_1 hb
                replace cs_2 := cellK cs_2 hb
                clear hb hWn
                refine hK.out _ _ ⟨cx_0, cx_1, cx_2, cx_3, cx_4, cx_5, cs_0, cs_1, cs_2⟩ (fun hH => ?_)
                clear hK K
                try simp only [Act.put, List.setIfInBounds_toArray, List.set_cons_zero, List.set_cons_succ]
                clear hH
                refine U_one (i := 4) (by kernel_rfl) rfl (fun K hK => ?_)
                go_simp
                (with_reducible refine (p_Only _ _ _ h4).mono ?_)
                rintro e w55 ⟨_, rfl, h18, hb⟩
                obtain ⟨sh18a, ah18a, nh18a, ch18a, Ah18a, Nh18a, Ch18a, sh18b, ah18b, nh18b, ch18b, Ah18b, Nh18b, Ch18b, rfl, h18a, h18b⟩ := h18.shape
                replace hs := bStep hs hb
                replace Bls := Bls.mono hb
                replace Blsum := Blsum.mono hb
                replace Blx := Blx.mono hb
                replace Bld := Bld.mono hb
                replace h4 := h4.mono hb
                replace h10 := h10.mono hb
                replace he13a := he13a.mono hb
                replace he13b := he13b.mono hb
                replace he15a := he15a.mono hb
                replace h16 := h16.mono hb
                replace h17a := h17a.mono hb
                replace h17b := h17b.mono hb
                replace hC := rowsJ (C3.kept PC.kept) _ _ _ hC hb
                replace hD := rowsJ PC.kept _ _ _ hD hb
                replace ply3 := rowsJ PlyC.kept _ _ _ ply3 hb
                replace X7 := rowsJ (C2.kept PC.kept) _ _ _ X7 hb
                replace cx_0 := cellK cx_0 hb
                replace cx_1 := cellK cx_1 hb
                replace cx_2 := cellK cx_2 hb
                replace cx_3 := cellK cx_3 hb
                replace cx_4 := cellK cx_4 hb
                replace cx_5 := cellK cx_5 hb
                replace cs_0 := cellK cs_0 hb
                replace cs_1 := cellK cs_1 hb
                replace cs_2 := cellK cs_2 hb
                clear hb
                try go_wp2_with fail
                refine hK.out _ _ ⟨cx_0, cx_1, cx_2, cx_3, cx_4, cx_5, cs_0, cs_1, cs_2⟩ (fun hH => ?_)
                clear hK K
                try simp only [Act.put, List.setIfInBounds_toArray, List.set_cons_zero, List.set_cons_succ]
                clear hH
                refine U_one (i := 5) (by kernel_rfl) rfl (fun K hK => ?_)
                go_simp
                (with_reducible refine (sc_Depth_dep (PV2.mk h17a h17b) (PV2.mk h18a h18b) (SzQ.mono (HXS.out i (by omega)).1 (by omega)) (SzQ.mono (HXS.out i (by omega)).1 (by omega)) (SzQ.mono ss (by omega)) (SzQ.mono ss (by omega)) (dep_at HOK.out HS0.out (show i + 1 ≤ L.length by omega) (HXT.out i (by omega)))).mono ?_)
                rintro e w56 ⟨_, _, rfl, h19, rfl, hb⟩
                obtain ⟨sh19a, ah19a, nh19a, ch19a, Ah19a, Nh19a, Ch19a, sh19b, ah19b, nh19b, ch19b, Ah19b, Nh19b, Ch19b, rfl, h19a, h19b⟩ := h19.shape
                replace hs := bStep hs hb
                replace Bls := Bls.mono hb
                replace Blsum := Blsum.mono hb
                replace Blx := Blx.mono hb
                replace Bld := Bld.mono hb
                replace h4 := h4.mono hb
                replace h10 := h10.mono hb
                replace he13a := he13a.mono hb
                replace he13b := he13b.mono hb
                replace he15a := he15a.mono hb
                replace h16 := h16.mono hb
                replace h17a := h17a.mono hb
                replace h17b := h17b.mono hb
                replace h18a := h18a.mono hb
                replace h18b := h18b.mono hb
                replace hC := rowsJ (C3.kept PC.kept) _ _ _ hC hb
                replace hD := rowsJ PC.kept _ _ _ hD hb
                replace ply3 := rowsJ PlyC.kept _ _ _ ply3 hb
                replace X7 := rowsJ (C2.kept PC.kept) _ _ _ X7 hb
                replace cx_0 := cellK cx_0 hb
                replace cx_1 := cellK cx_1 hb
                replace cx_2 := cellK cx_2 hb
                replace cx_3 := cellK cx_3 hb
                replace cx_4 := cellK cx_4 hb
                replace cx_5 := cellK cx_5 hb
                replace cs_0 := cellK cs_0 hb
                replace cs_1 := cellK cs_1 hb
                replace cs_2 := cellK cs_2 hb
                clear hb
                try go_wp2_with fail
                refine hK.out _ _ ⟨cx_0, cx_1, cx_2, cx_3, cx_4, cx_5, cs_0, cs_1, cs_2⟩ (fun hH => ?_)
                clear hK K
                try simp only [Act.put, List.setIfInBounds_toArray, List.set_cons_zero, List.set_cons_succ]
                refine U_take (i := 6) (v := ?_) rfl (by kernel_rfl) (by kernel_rfl) (by kernel_rfl) (by kernel_rfl) (fun _ _ _ h => h) (Or.inl ⟨by rfl, ?_⟩) hH ?_
                rotate_left
                · intro w hSw
                  try dsimp only at hSw
                  go_simp
                  try with_reducible rfl
                try simp only [Act.put, List.setIfInBounds_toArray, List.set_cons_zero, List.set_cons_succ]
                refine U_take (i := 7) (v := ?_) rfl (by kernel_rfl) (by kernel_rfl) (by kernel_rfl) (by kernel_rfl) (fun _ _ _ h => h) (Or.inl ⟨by rfl, ?_⟩) hH ?_
                rotate_left
                · intro w hSw
                  try dsimp only at hSw
                  go_simp
                  try with_reducible rfl
                try simp only [Act.put, List.setIfInBounds_toArray, List.set_cons_zero, List.set_cons_succ]
                refine U_take (i := 8) (v := ?_) rfl (by kernel_rfl) (by kernel_rfl) (by kernel_rfl) (by kernel_rfl) (fun _ _ _ h => h) (Or.inl ⟨by rfl, ?_⟩) hH ?_
                rotate_left
                · intro w hSw
                  try dsimp only at hSw
                  go_simp
                  try with_reducible rfl
                try simp only [Act.put, List.setIfInBounds_toArray, List.set_cons_zero, List.set_cons_succ]
                clear hH
                have cd_0 : w56.cell? ⟨w53.heap.size, 0, none⟩ = some (.bool false) := Bld.at 0 rfl
                have cd_1 : w56.cell? ⟨w53.heap.size, 1, none⟩ = some (.slice none 0 0) := Bld.at 1 rfl
                have cd_2 : w56.cell? ⟨w53.heap.size, 2, none⟩ = some (.slice none 0 0) := Bld.at 2 rfl
                have cd_3 : w56.cell? ⟨w53.heap.size, 3, none⟩ = some (.bool false) := Bld.at 3 rfl
                have cd_4 : w56.cell? ⟨w53.heap.size, 4, none⟩ = some (.slice none 0 0) := Bld.at 4 rfl
                have cd_5 : w56.cell? ⟨w53.heap.size, 5, none⟩ = some (.slice none 0 0) := Bld.at 5 rfl
                have fd := Bld.free
                have Ld : w53.heap.size < w56.heap.size := Bld.lt
                refine U_one (i := 10) (by kernel_rfl) rfl (fun K hK => ?_)
                go_simp
                generalize hW_ : ((((((w56.setCell ⟨w53.heap.size, 0, none⟩ (.bool sh19a)).setCell ⟨w53.heap.size, 1, none⟩ (.slice ah19a nh19a ch19a)).setCell ⟨w53.heap.size, 2, none⟩ (.slice Ah19a Nh19a Ch19a)).setCell ⟨w53.heap.size, 3, none⟩ (.bool sh19b)).setCell ⟨w53.heap.size, 4, none⟩ (.slice ah19b nh19b ch19b)).setCell ⟨w53.heap.size, 5, none⟩ (.slice Ah19b Nh19b Ch19b)) = w57
                have hW := hW_.symm
                clear hW_
                have hG : Gr [w53.heap.size] w56 w57 := by rw [hW]; exact (Gr.refl _ _).set.set.set.set.set.set
                have hsz := hs.size
                have ld := Bld.lt
                have hbw : Below w.heap.size w56 w57 := hG.below1 hs.size (by first | omega | assumption)
                have hk : KeepD w56 w57 := hG.keep ⟨⟨_, Bld.ty, by decide⟩, True.intro⟩
                have Bl1d : Bx w57 (w53.heap.size) 72 #[.bool sh19a, .slice ah19a nh19a ch19a, .slice Ah19a Nh19a Ch19a, .bool sh19b, .slice ah19b nh19b ch19b, .slice Ah19b Nh19b Ch19b] := by rw [hW]; exact Bld.set6
                replace hs := hs.trans hbw
                replace hC := hC.onlyT (C3.kept PC.kept) (hG.onlyT (by intro g hg; simp only [List.mem_cons, List.mem_nil_iff, or_false] at hg; rcases hg with rfl <;> first | exact Bld.ty)) (by decide) (by decide)
                replace hD := hD.onlyT PC.kept (hG.onlyT (by intro g hg; simp only [List.mem_cons, List.mem_nil_iff, or_false] at hg; rcases hg with rfl <;> first | exact Bld.ty)) (by decide) (by decide)
                replace ply3 := ply3.onlyT PlyC.kept (hG.onlyT (by intro g hg; simp only [List.mem_cons, List.mem_nil_iff, or_false] at hg; rcases hg with rfl <;> first | exact Bld.ty)) (by decide) (by decide)
                replace X7 := X7.onlyT (C2.kept PC.kept) (hG.onlyT (by intro g hg; simp only [List.mem_cons, List.mem_nil_iff, or_false] at hg; rcases hg with rfl <;> first | exact Bld.ty)) (by decide) (by decide)
                replace Bls := hG.bx Bls (notMem1 (by omega))
                replace Blsum := hG.bx Blsum (notMem1 (by omega))
                replace Blx := hG.bx Blx (notMem1 (by omega))
                replace Bld := Bl1d
                clear Bl1d
                replace h4 := h4.keep hk
                replace h10 := h10.keep hk
                replace he13a := he13a.keep hk
                replace he13b := he13b.keep hk
                replace he15a := he15a.keep hk
                replace h16 := h16.keep hk
                replace h17a := h17a.keep hk
                replace h17b := h17b.keep hk
                replace h18a := h18a.keep hk
                replace h18b := h18b.keep hk
                replace h19a := h19a.keep hk
                replace h19b := h19b.keep hk
                replace cx_0 := hG.cell cx_0 (notMem1 (by dsimp only; omega))
                replace cx_1 := hG.cell cx_1 (notMem1 (by dsimp only; omega))
                replace cx_2 := hG.cell cx_2 (notMem1 (by dsimp only; omega))
                replace cx_3 := hG.cell cx_3 (notMem1 (by dsimp only; omega))
                replace cx_4 := hG.cell cx_4 (notMem1 (by dsimp only; omega))
                replace cx_5 := hG.cell cx_5 (notMem1 (by dsimp only; omega))
                replace cs_0 := hG.cell cs_0 (notMem1 (by dsimp only; omega))
                replace cs_1 := hG.cell cs_1 (notMem1 (by dsimp only; omega))
                replace cs_2 := hG.cell cs_2 (notMem1 (by dsimp only; omega))
                clear hW hG hk hbw hsz ld
                refine hK.out _ _ ⟨cx_0, cx_1, cx_2, cx_3, cx_4, cx_5, cs_0, cs_1, cs_2⟩ (fun hH => ?_)
                clear hK K
                try simp only [Act.put, List.setIfInBounds_toArray, List.set_cons_zero, List.set_cons_succ]
                clear hH
                refine U_last (by kernel_rfl) rfl (by kernel_rfl) (fun K hK => ?_)
                go_simp
                refine hK.out _ _ ?_
                clear hK K
                intro wl hW
                rw [hW]
                clear hW wl
                try simp only [Act.put, List.setIfInBounds_toArray, List.set_cons_zero, List.set_cons_succ]
                clear cx_0 cx_1 cx_2 cx_3 cx_4 cx_5 cs_0 cs_1 cs_2
                go_wp2_with fail
                go_meet
                exact ⟨w53.heap.size, _, _, _, _, _, _, _, _, _, _, _, _, _, _, rfl, rfl, (by first | exact sz_d | omega), (by omega), (by omega), (by omega), (by omega), (by omega), Bld, hs, Bls, Blsum, Blx, h4, h10, he13a, he13b, he15a, h16, h19a, h19b, hC, hD, ply3, X7⟩
            · clear hH
              go_simp
              generalize hWn : (w52.alloc (.cells #[.bool false, .slice none 0 0, .slice none 0 0, .bool false, .slice none 0 0, .slice none 0 0] 72)) = w53
              have hb : Below w52.heap.size w52 w53 := by rw [← hWn]; exact (Below.refl _ _).alloc (Nat.le_refl _) _
              have Bld : Bx w53 (w52.heap.size) 72 #[.bool false, .slice none 0 0, .slice none 0 0, .bool false, .slice none 0 0, .slice none 0 0] := by rw [← hWn]; exact Bx.new _ _ _
              have ns_d : w2.heap.size ≠ w52.heap.size := by have := Bls.lt; omega
              have nsum_d : w26.heap.size ≠ w52.heap.size := by have := Blsum.lt; omega
              have nx_d : wr.heap.size ≠ w52.heap.size := by have := Blx.lt; omega
              have nhC_d : bhC < w52.heap.size := hC.lt (by omega)
              have nhD_d : bhD < w52.heap.size := hD.lt (by omega)
              have sz_d : w.heap.size ≤ w52.heap.size := hs.size
              replace hs := bStep hs hb
              replace Bls := Bls.mono hb
              replace Blsum := Blsum.mono hb
              replace Blx := Blx.mono hb
              replace h4 := h4.mono hb
              replace h10 := h10.mono hb
              replace he13a := he13a.mono hb
              replace he13b := he13b.mono hb
              replace he15a := he15a.mono hb
              replace h16 := h16.mono hb
              replace hC := rowsJ (C3.kept PC.kept) _ _ _ hC hb
              replace hD := rowsJ PC.kept _ _ _ hD hb
              replace ply3 := rowsJ PlyC.kept _ _ _ ply3 hb
              replace X7 := rowsJ (C2.kept PC.kept) _ _ _ X7 hb
              replace cx_0 := cellK cx_0 hb
              replace cx_1 := cellK cx_1 hb
              replace cx_2 := cellK cx_2 hb
              replace cx_3 := cellK cx_3 hb
              replace cx_4 := cellK cx_4 hb
              replace cx_5 := cellK cx_5 hb
              replace cs_0 := cellK cs_0 hb
              replace cs_1 := cellK cs_1 hb
              replace cs_2 := cellK cs_2 hb
              clear hb hWn
              refine hK.out _ _ ⟨cx_0, cx_1, cx_2, cx_3, cx_4, cx_5, cs_0, cs_1, cs_2⟩ (fun hH => ?_)
              clear hK K
              try simp only [Act.put, List.setIfInBounds_toArray, List.set_cons_zero, List.set_cons_succ]
              clear hH
              refine U_one (i := 2) (by kernel_rfl) rfl (fun K hK => ?_)
              go_simp
              (with_reducible refine (p_Only _ _ _ he13a).mono ?_)
              rintro e w54 ⟨_, rfl, h17, hb⟩
              obtain ⟨sh17a, ah17a, nh17a, ch17a, Ah17a, Nh17a, Ch17a, sh17b, ah17b, nh17b, ch17b, Ah17b, Nh17b, Ch17b, rfl, h17a, h17b⟩ := h17.shape
              replace hs := bStep hs hb
              replace Bls := Bls.mono hb
              replace Blsum := Blsum.mono hb
              replace Blx := Blx.mono hb
              replace Bld := Bld.mono hb
              replace h4 := h4.mono hb
              replace h10 := h10.mono hb
              replace he13a := he13a.mono hb
              replace he13b := he13b.mono hb
              replace he15a := he15a.mono hb
              replace h16 := h16.mono hb
              replace hC := rowsJ (C3.kept PC.kept) _ _ _ hC hb
              replace hD := rowsJ PC.kept _ _ _ hD hb
              replace ply3 := rowsJ PlyC.kept _ _ _ ply3 hb
              replace X7 := rowsJ (C2.kept PC.kept) _ _ _ X7 hb
              replace cx_0 := cellK cx_0 hb
              replace cx_1 := cellK cx_1 hb
              replace cx_2 := cellK cx_2 hb
              replace cx_3 := cellK cx_3 hb
              replace cx_4 := cellK cx_4 hb
              replace cx_5 := cellK cx_5 hb
              replace cs_0 := cellK cs_0 hb
              replace cs_1 := cellK cs_1 hb
              replace cs_2 := cellK cs_2 hb
              clear hb
              try go_wp2_with fail
              refine hK.out _ _ ⟨cx_0, cx_1, cx_2, cx_3, cx_4, cx_5, cs_0, cs_1, cs_2⟩ (fun hH => ?_)
              clear hK K
              try simp only [Act.put, List.setIfInBounds_toArray, List.set_cons_zero, List.set_cons_succ]
              clear hH
              refine U_one (i := 4) (by kernel_rfl) rfl (fun K hK => ?_)
              go_simp
              (with_reducible refine (p_Only _ _ _ h4).mono ?_)
              rintro e w55 ⟨_, rfl, h18, hb⟩
              obtain ⟨sh18a, ah18a, nh18a, ch18a, Ah18a, Nh18a, Ch18a, sh18b, ah18b, nh18b, ch18b, Ah18b, Nh18b, Ch18b, rfl, h18a, h18b⟩ := h18.shape
              replace hs := bStep hs hb
              replace Bls := Bls.mono hb
              replace Blsum := Blsum.mono hb
              replace Blx := Blx.mono hb
              replace Bld := Bld.mono hb
              replace h4 := h4.mono hb
              replace h10 := h10.mono hb
              replace he13a := he13a.mono hb
              replace he13b := he13b.mono hb
              replace he15a := he15a.mono hb
              replace h16 := h16.mono hb
              replace h17a := h17a.mono hb
              replace h17b := h17b.mono hb
              replace hC := rowsJ (C3.kept PC.kept) _ _ _ hC hb
              replace hD := rowsJ PC.kept _ _ _ hD hb
              replace ply3 := rowsJ PlyC.kept _ _ _ ply3 hb
              replace X7 := rowsJ (C2.kept PC.kept) _ _ _ X7 hb
              replace cx_0 := cellK cx_0 hb
              replace cx_1 := cellK cx_1 hb
              replace cx_2 := cellK cx_2 hb
              replace cx_3 := cellK cx_3 hb
              replace cx_4 := cellK cx_4 hb
              replace cx_5 := cellK cx_5 hb
              replace cs_0 := cellK cs_0 hb
              replace cs_1 := cellK cs_1 hb
              replace cs_2 := cellK cs_2 hb
              clear hb
              try go_wp2_with fail
              refine hK.out _ _ ⟨cx_0, cx_1, cx_2, cx_3, cx_4, cx_5, cs_0, cs_1, cs_2⟩ (fun hH => ?_)
              clear hK K
              try simp only [Act.put, List.setIfInBounds_toArray, List.set_cons_zero, List.set_cons_succ]
              clear hH
              refine U_one (i := 5) (by kernel_rfl) rfl (fun K hK => ?_)
              go_simp
              (with_reducible refine (sc_Depth_dep (PV2.mk h17a h17b) (PV2.mk h18a h18b) (SzQ.mono (HXS.out i (by omega)).1 (by omega)) (SzQ.mono (HXS.out i (by omega)).1 (by omega)) (SzQ.mono ss (by omega)) (SzQ.mono ss (by omega)) (dep_at HOK.out HS0.out (show i + 1 ≤ L.length by omega) (HXT.out i (by omega)))).mono ?_)
              rintro e w56 ⟨_, _, rfl, h19, rfl, hb⟩
              obtain ⟨sh19a, ah19a, nh19a, ch19a, Ah19a, Nh19a, Ch19a, sh19b, ah19b, nh19b, ch19b, Ah19b, Nh19b, Ch19b, rfl, h19a, h19b⟩ := h19.shape
              replace hs := bStep hs hb
              replace Bls := Bls.mono hb
              replace Blsum := Blsum.mono hb
              replace Blx := Blx.mono hb
              replace Bld := Bld.mono hb
              replace h4 := h4.mono hb
              replace h10 := h10.mono hb
              replace he13a := he13a.mono hb
              replace he13b := he13b.mono hb
              replace he15a := he15a.mono hb
              replace h16 := h16.mono hb
              replace h17a := h17a.mono hb
              replace h17b := h17b.mono hb
              replace h18a := h18a.mono hb
              replace h18b := h18b.mono hb
              replace hC := rowsJ (C3.kept PC.kept) _ _ _ hC hb
              replace hD := rowsJ PC.kept _ _ _ hD hb
              replace ply3 := rowsJ PlyC.kept _ _ _ ply3 hb
              replace X7 := rowsJ (C2.kept PC.kept) _ _ _ X7 hb
              replace cx_0 := cellK cx_0 hb
              replace cx_1 := cellK cx_1 hb
              replace cx_2 := cellK cx_2 hb
              replace cx_3 := cellK cx_3 hb
              replace cx_4 := cellK cx_4 hb
              replace cx_5 := cellK cx_5 hb
              replace cs_0 := cellK cs_0 hb
              replace cs_1 := cellK cs_1 hb
              replace cs_2 := cellK cs_2 hb
              clear hb
              try go_wp2_with fail
              refine hK.out _ _ ⟨cx_0, cx_1, cx_2, cx_3, cx_4, cx_5, cs_0, cs_1, cs_2⟩ (fun hH => ?_)
              clear hK K
              try simp only [Act.put, List.setIfInBounds_toArray, List.set_cons_zero, List.set_cons_succ]
              refine U_take (i := 6) (v := ?_) rfl (by kernel_rfl) (by kernel_rfl) (by kernel_rfl) (by kernel_rfl) (fun _ _ _ h => h) (Or.inl ⟨by rfl, ?_⟩) hH ?_
              rotate_left
              · intro w hSw
                try dsimp only at hSw
                go_simp
                try with_reducible rfl
              try simp only [Act.put, List.setIfInBounds_toArray, List.set_cons_zero, List.set_cons_succ]
              refine U_take (i := 7) (v := ?_) rfl (by kernel_rfl) (by kernel_rfl) (by kernel_rfl) (by kernel_rfl) (fun _ _ _ h => h) (Or.inl ⟨by rfl, ?_⟩) hH ?_
              rotate_left
              · intro w hSw
                try dsimp only at hSw
                go_simp
                try with_reducible rfl
              try simp only [Act.put, List.setIfInBounds_toArray, List.set_cons_zero, List.set_cons_succ]
              refine U_take (i := 8) (v := ?_) rfl (by kernel_rfl) (by kernel_rfl) (by kernel_rfl) (by kernel_rfl) (fun _ _ _ h => h) (Or.inl ⟨by rfl, ?_⟩) hH ?_
              rotate_left
              · intro w hSw
                try dsimp only at hSw
                go_simp
                try with_reducible rfl
              try simp only [Act.put, List.setIfInBounds_toArray, List.set_cons_zero, List.set_cons_succ]
              clear hH
              have cd_0 : w56.cell? ⟨w52.heap.size, 0, none⟩ = some (.bool false) := Bld.at 0 rfl
              have cd_1 : w56.cell? ⟨w52.heap.size, 1, none⟩ = some (.slice none 0 0) := Bld.at 1 rfl
              have cd_2 : w56.cell? ⟨w52.heap.size, 2, none⟩ = some (.slice none 0 0) := Bld.at 2 rfl
              have cd_3 : w56.cell? ⟨w52.heap.size, 3, none⟩ = some (.bool false) := Bld.at 3 rfl
              have cd_4 : w56.cell? ⟨w52.heap.size, 4, none⟩ = some (.slice none 0 0) := Bld.at 4 rfl
              have cd_5 : w56.cell? ⟨w52.heap.size, 5, none⟩ = some (.slice none 0 0) := Bld.at 5 rfl
              have fd := Bld.free
              have Ld : w52.heap.size < w56.heap.size := Bld.lt
              refine U_one (i := 10) (by kernel_rfl) rfl (fun K hK => ?_)
              go_simp
              generalize hW_ : ((((((w56.setCell ⟨w52.heap.size, 0, none⟩ (.bool sh19a)).setCell ⟨w52.heap.size, 1, none⟩ (.slice ah19a nh19a ch19a)).setCell ⟨w52.heap.size, 2, none⟩ (.slice Ah19a Nh19a Ch19a)).setCell ⟨w52.heap.size, 3, none⟩ (.bool sh19b)).setCell ⟨w52.heap.size, 4, none⟩ (.slice ah19b nh19b ch19b)).setCell ⟨w52.heap.size, 5, none⟩ (.slice Ah19b Nh19b Ch19b)) = w57
              have hW := hW_.symm
              clear hW_
              have hG : Gr [w52.heap.size] w56 w57 := by rw [hW]; exact (Gr.refl _ _).set.set.set.set.set.set
              have hsz := hs.size
              have ld := Bld.lt
              have hbw : Below w.heap.size w56 w57 := hG.below1 hs.size (by first | omega | assumption)
              have hk : KeepD w56 w57 := hG.keep ⟨⟨_, Bld.ty, by decide⟩, True.intro⟩
              have Bl1d : Bx w57 (w52.heap.size) 72 #[.bool sh19a, .slice ah19a nh19a ch19a, .slice Ah19a Nh19a Ch19a, .bool sh19b, .slice ah19b nh19b ch19b, .slice Ah19b Nh19b Ch19b] := by rw [hW]; exact Bld.set6
              replace hs := hs.trans hbw
              replace hC := hC.onlyT (C3.kept PC.kept) (hG.onlyT (by intro g hg; simp only [List.mem_cons, List.mem_nil_iff, or_false] at hg; rcases hg with rfl <;> first | exact Bld.ty)) (by decide) (by decide)
              replace hD := hD.onlyT PC.kept (hG.onlyT (by intro g hg; simp only [List.mem_cons, List.mem_nil_iff, or_false] at hg; rcases hg with rfl <;> first | exact Bld.ty)) (by decide) (by decide)
              replace ply3 := ply3.onlyT PlyC.kept (hG.onlyT (by intro g hg; simp only [List.mem_cons, List.mem_nil_iff, or_false] at hg; rcases hg with rfl <;> first | exact Bld.ty)) (by decide) (by decide)
              replace X7 := X7.onlyT (C2.kept PC.kept) (hG.onlyT (by intro g hg; simp only [List.mem_cons, List.mem_nil_iff, or_false] at hg; rcases hg with rfl <;> first | exact Bld.ty)) (by decide) (by decide)
              replace Bls := hG.bx Bls (notMem1 (by omega))
              replace Blsum := hG.bx Blsum (notMem1 (by omega))
              replace Blx := hG.bx Blx (notMem1 (by omega))
              replace Bld := Bl1d
              clear Bl1d
              replace h4 := h4.keep hk
              replace h10 := h10.keep hk
              replace he13a := he13a.keep hk
              replace he13b := he13b.keep hk
              replace he15a := he15a.keep hk
              replace h16 := h16.keep hk
              replace h17a := h17a.keep hk
              replace h17b := h17b.keep hk
              replace h18a := h18a.keep hk
              replace h18b := h18b.keep hk
              replace h19a := h19a.keep hk
              replace h19b := h19b.keep hk
              replace cx_0 := hG.cell cx_0 (notMem1 (by dsimp only; omega))
              replace cx_1 := hG.cell cx_1 (notMem1 (by dsimp only; omega))
              replace cx_2 := hG.cell cx_2 (notMem1 (by dsimp only; omega))
              replace cx_3 := hG.cell cx_3 (notMem1 (by dsimp only; omega))
              replace cx_4 := hG.cell cx_4 (notMem1 (by dsimp only; omega))
              replace cx_5 := hG.cell cx_5 (notMem1 (by dsimp only; omega))
              replace cs_0 := hG.cell cs_0 (notMem1 (by dsimp only; omega))
              replace cs_1 := hG.cell cs_1 (notMem1 (by dsimp only; omega))
              replace cs_2 := hG.cell cs_2 (notMem1 (by dsimp only; omega))
              clear hW hG hk hbw hsz ld
              refine hK.out _ _ ⟨cx_0, cx_1, cx_2, cx_3, cx_4, cx_5, cs_0, cs_1, cs_2⟩ (fun hH => ?_)
              clear hK K
              try simp only [Act.put, List.setIfInBounds_toArray, List.set_cons_zero, List.set_cons_succ]
              clear hH
              refine U_last (by kernel_rfl) rfl (by kernel_rfl) (fun K hK => ?_)
              go_simp
              refine hK.out _ _ ?_
              clear hK K
              intro wl hW
              rw [hW]
              clear hW wl
              try simp only [Act.put, List.setIfInBounds_toArray, List.set_cons_zero, List.set_cons_succ]
              clear cx_0 cx_1 cx_2 cx_3 cx_4 cx_5 cs_0 cs_1 cs_2
              go_wp2_with fail
              go_meet
              exact ⟨w52.heap.size, _, _, _, _, _, _, _, _, _, _, _, _, _, _, rfl, rfl, (by first | exact sz_d | omega), (by omega), (by omega), (by omega), (by omega), (by omega), Bld, hs, Bls, Blsum, Blx, h4, h10, he13a, he13b, he15a, h16, h19a, h19b, hC, hD, ply3, X7⟩
          case rest =>
            clear hs Bls Blsum Blx h4 h10 he13a he13b he15a h16 hC hD ply3 X7
            obtain ⟨gd, sh19a, ah19a, nh19a, ch19a, Ah19a, Nh19a, Ch19a, sh19b, ah19b, nh19b, ch19b, Ah19b, Nh19b, Ch19b, rfl, rfl, hg_d, ng_d_s, ng_d_sum, ng_d_x, ngr_d_hC, ngr_d_hD, Bld, hs, Bls, Blsum, Blx, h4, h10, he13a, he13b, he15a, h16, h19a, h19b, hC, hD, ply3, X7⟩ := hcut
            go_upto_region 26 with fail
            obtain ⟨b21, Hb21⟩ : ∃ b : Bool, b = decide (topQ (TH L L.length) (i + 1) = (topQ (TH L L.length) i) + (nthQ (TH L L.length) i)) := ⟨_, rfl⟩
            replace Hb21 := Lib.hid Hb21
            have q22 : topQ (TH L L.length) (i + 1) = (topQ (TH L L.length) i) + (nthQ (TH L L.length) i) := rfl
            obtain rfl : b21 = true := by rw [Hb21.out]; exact decide_eq_true q22
            have q22H := Lib.hid q22
            clear q22
            obtain ⟨b24, Hb24⟩ : ∃ b : Bool, b = decide (topQ (TH L L.length) (i + 1) = (topQ (TH L L.length) i) + (nthQ (TH L L.length) i)) := ⟨_, rfl⟩
            replace Hb24 := Lib.hid Hb24
            refine U_region (S := fun w' => w'.cell? ⟨gd, 0, none⟩ = some (.bool sh19a) ∧ w'.cell? ⟨gd, 1, none⟩ = some (.slice ah19a nh19a ch19a) ∧ w'.cell? ⟨gd, 2, none⟩ = some (.slice Ah19a Nh19a Ch19a) ∧ w'.cell? ⟨gd, 3, none⟩ = some (.bool sh19b) ∧ w'.cell? ⟨gd, 4, none⟩ = some (.slice ah19b nh19b ch19b) ∧ w'.cell? ⟨gd, 5, none⟩ = some (.slice Ah19b Nh19b Ch19b) ∧ w'.cell? ⟨w26.heap.size, 0, none⟩ = some (.bool sh16) ∧ w'.cell? ⟨w26.heap.size, 1, none⟩ = some (.slice ah16 nh16 ch16) ∧ w'.cell? ⟨w26.heap.size, 2, none⟩ = some (.slice Ah16 Nh16 Ch16)) (by kernel_rfl) 16 ?_
            refine AnyU.abs ?_
            intro w52 hW
            have hb : Below wc.heap.size wc w52 := by rw [hW]; exact bDrew _
            replace hs := bStep hs hb
            replace Bls := Bls.mono hb
            replace Blsum := Blsum.mono hb
            replace Blx := Blx.mono hb
            replace Bld := Bld.mono hb
            replace h4 := h4.mono hb
            replace h10 := h10.mono hb
            replace he13a := he13a.mono hb
            replace he13b := he13b.mono hb
            replace he15a := he15a.mono hb
            replace h16 := h16.mono hb
            replace h19a := h19a.mono hb
            replace h19b := h19b.mono hb
            replace hC := rowsJ (C3.kept PC.kept) _ _ _ hC hb
            replace hD := rowsJ PC.kept _ _ _ hD hb
            replace ply3 := rowsJ PlyC.kept _ _ _ ply3 hb
            replace X7 := rowsJ (C2.kept PC.kept) _ _ _ X7 hb
            clear hb hW
            have cd_0 : w52.cell? ⟨gd, 0, none⟩ = some (.bool sh19a) := Bld.at 0 rfl
            have cd_1 : w52.cell? ⟨gd, 1, none⟩ = some (.slice ah19a nh19a ch19a) := Bld.at 1 rfl
            have cd_2 : w52.cell? ⟨gd, 2, none⟩ = some (.slice Ah19a Nh19a Ch19a) := Bld.at 2 rfl
            have cd_3 : w52.cell? ⟨gd, 3, none⟩ = some (.bool sh19b) := Bld.at 3 rfl
            have cd_4 : w52.cell? ⟨gd, 4, none⟩ = some (.slice ah19b nh19b ch19b) := Bld.at 4 rfl
            have cd_5 : w52.cell? ⟨gd, 5, none⟩ = some (.slice Ah19b Nh19b Ch19b) := Bld.at 5 rfl
            have csum_0 : w52.cell? ⟨w26.heap.size, 0, none⟩ = some (.bool sh16) := Blsum.at 0 rfl
            have csum_1 : w52.cell? ⟨w26.heap.size, 1, none⟩ = some (.slice ah16 nh16 ch16) := Blsum.at 1 rfl
            have csum_2 : w52.cell? ⟨w26.heap.size, 2, none⟩ = some (.slice Ah16 Nh16 Ch16) := Blsum.at 2 rfl
            have hH := (show w52.cell? ⟨gd, 0, none⟩ = some (.bool sh19a) ∧ w52.cell? ⟨gd, 1, none⟩ = some (.slice ah19a nh19a ch19a) ∧ w52.cell? ⟨gd, 2, none⟩ = some (.slice Ah19a Nh19a Ch19a) ∧ w52.cell? ⟨gd, 3, none⟩ = some (.bool sh19b) ∧ w52.cell? ⟨gd, 4, none⟩ = some (.slice ah19b nh19b ch19b) ∧ w52.cell? ⟨gd, 5, none⟩ = some (.slice Ah19b Nh19b Ch19b) ∧ w52.cell? ⟨w26.heap.size, 0, none⟩ = some (.bool sh16) ∧ w52.cell? ⟨w26.heap.size, 1, none⟩ = some (.slice ah16 nh16 ch16) ∧ w52.cell? ⟨w26.heap.size, 2, none⟩ = some (.slice Ah16 Nh16 Ch16) from ⟨cd_0, cd_1, cd_2, cd_3, cd_4, cd_5, csum_0, csum_1, csum_2⟩)
            refine U_takeN (i := 0) (d := 122) (v := ?_) rfl rfl rfl (by kernel_rfl) (by kernel_rfl) (by kernel_rfl) (fun _ _ _ h => h) (Or.inl ⟨by rfl, ?_⟩) hH ?_
            rotate_left
            · intro w hSw
              try dsimp only at hSw
              go_simp
              try with_reducible rfl
            simp only [LY]
            refine U_takeN (i := 1) (d := 123) (v := ?_) rfl rfl rfl (by kernel_rfl) (by kernel_rfl) (by kernel_rfl) (fun _ _ _ h => h) (Or.inl ⟨by rfl, ?_⟩) hH ?_
            rotate_left
            · intro w hSw
              try dsimp only at hSw
              go_simp
              try with_reducible rfl
            simp only [LY]
            refine U_takeN (i := 2) (d := 124) (v := ?_) rfl rfl rfl (by kernel_rfl) (by kernel_rfl) (by kernel_rfl) (fun _ _ _ h => h) (Or.inl ⟨by rfl, ?_⟩) hH ?_
            rotate_left
            · intro w hSw
              try dsimp only at hSw
              go_simp
              try with_reducible rfl
            simp only [LY]
            refine U_takeN (i := 3) (d := 125) (v := ?_) rfl rfl rfl (by kernel_rfl) (by kernel_rfl) (by kernel_rfl) (fun _ _ _ h => h) (Or.inl ⟨by rfl, ?_⟩) hH ?_
            rotate_left
            · intro w hSw
              try dsimp only at hSw
              go_simp
              try with_reducible rfl
            simp only [LY]
            refine U_takeN (i := 5) (d := 127) (v := ?_) rfl rfl rfl (by kernel_rfl) (by kernel_rfl) (by kernel_rfl) (fun _ _ _ h => h) (Or.inl ⟨by rfl, ?_⟩) hH ?_
            rotate_left
            · intro w hSw
              try dsimp only at hSw
              go_simp
              try with_reducible rfl
            simp only [LY]
            clear hH
            refine U_one (i := 4) (by kernel_rfl) rfl (fun K hK => ?_)
            go_simp
            (with_reducible refine (p_Lo _ _ _ _ (PV2.mk h19a h19b)).mono ?_)
            rintro e w53 ⟨_, rfl, h20, hb⟩
            obtain ⟨sh20, ah20, nh20, ch20, Ah20, Nh20, Ch20, rfl⟩ := h20.shape
            replace hs := bStep hs hb
            replace Bls := Bls.mono hb
            replace Blsum := Blsum.mono hb
            replace Blx := Blx.mono hb
            replace Bld := Bld.mono hb
            replace h4 := h4.mono hb
            replace h10 := h10.mono hb
            replace he13a := he13a.mono hb
            replace he13b := he13b.mono hb
            replace he15a := he15a.mono hb
            replace h16 := h16.mono hb
            replace h19a := h19a.mono hb
            replace h19b := h19b.mono hb
            replace hC := rowsJ (C3.kept PC.kept) _ _ _ hC hb
            replace hD := rowsJ PC.kept _ _ _ hD hb
            replace ply3 := rowsJ PlyC.kept _ _ _ ply3 hb
            replace X7 := rowsJ (C2.kept PC.kept) _ _ _ X7 hb
            replace cd_0 := cellK cd_0 hb
            replace cd_1 := cellK cd_1 hb
            replace cd_2 := cellK cd_2 hb
            replace cd_3 := cellK cd_3 hb
            replace cd_4 := cellK cd_4 hb
            replace cd_5 := cellK cd_5 hb
            replace csum_0 := cellK csum_0 hb
            replace csum_1 := cellK csum_1 hb
            replace csum_2 := cellK csum_2 hb
            clear hb
            try go_wp2_with fail
            refine hK.out _ _ ⟨cd_0, cd_1, cd_2, cd_3, cd_4, cd_5, csum_0, csum_1, csum_2⟩ (fun hH => ?_)
            clear hK K
            try simp only [LY]
            clear hH
            refine U_one (i := 6) (by kernel_rfl) rfl (fun K hK => ?_)
            go_simp
            (with_reducible refine (p_Same_calls _ _ _ _ _ h20 h16).mono ?_)
            rintro e w54 ⟨rfl, hb⟩
            replace hs := bStep hs hb
            replace Bls := Bls.mono hb
            replace Blsum := Blsum.mono hb
            replace Blx := Blx.mono hb
            replace Bld := Bld.mono hb
            replace h4 := h4.mono hb
            replace h10 := h10.mono hb
            replace he13a := he13a.mono hb
            replace he13b := he13b.mono hb
            replace he15a := he15a.mono hb
            replace h16 := h16.mono hb
            replace h19a := h19a.mono hb
            replace h19b := h19b.mono hb
            replace h20 := h20.mono hb
            replace hC := rowsJ (C3.kept PC.kept) _ _ _ hC hb
            replace hD := rowsJ PC.kept _ _ _ hD hb
            replace ply3 := rowsJ PlyC.kept _ _ _ ply3 hb
            replace X7 := rowsJ (C2.kept PC.kept) _ _ _ X7 hb
            replace cd_0 := cellK cd_0 hb
            replace cd_1 := cellK cd_1 hb
            replace cd_2 := cellK cd_2 hb
            replace cd_3 := cellK cd_3 hb
            replace cd_4 := cellK cd_4 hb
            replace cd_5 := cellK cd_5 hb
            replace csum_0 := cellK csum_0 hb
            replace csum_1 := cellK csum_1 hb
            replace csum_2 := cellK csum_2 hb
            clear hb
            rw [← Hb21.out]
            try go_wp2_with fail
            refine hK.out _ _ ⟨cd_0, cd_1, cd_2, cd_3, cd_4, cd_5, csum_0, csum_1, csum_2⟩ (fun hH => ?_)
            clear hK K
            try simp only [LY]
            refine U_takeN (i := 7) (d := 129) (v := ?_) rfl rfl rfl (by kernel_rfl) (by kernel_rfl) (by kernel_rfl) (fun _ _ _ h => h) (Or.inl ⟨by rfl, ?_⟩) hH ?_
            rotate_left
            · intro w hSw
              try dsimp only at hSw
              go_simp
              try with_reducible rfl
            simp only [LY]
            refine U_takeN (i := 8) (d := 130) (v := ?_) rfl rfl rfl (by kernel_rfl) (by kernel_rfl) (by kernel_rfl) (fun _ _ _ h => h) (Or.inl ⟨by rfl, ?_⟩) hH ?_
            rotate_left
            · intro w hSw
              try dsimp only at hSw
              go_simp
              try with_reducible rfl
            simp only [LY]
            refine U_takeN (i := 9) (d := 131) (v := ?_) rfl rfl rfl (by kernel_rfl) (by kernel_rfl) (by kernel_rfl) (fun _ _ _ h => h) (Or.inl ⟨by rfl, ?_⟩) hH ?_
            rotate_left
            · intro w hSw
              try dsimp only at hSw
              go_simp
              try with_reducible rfl
            simp only [LY]
            refine U_takeN (i := 10) (d := 132) (v := ?_) rfl rfl rfl (by kernel_rfl) (by kernel_rfl) (by kernel_rfl) (fun _ _ _ h => h) (Or.inl ⟨by rfl, ?_⟩) hH ?_
            rotate_left
            · intro w hSw
              try dsimp only at hSw
              go_simp
              try with_reducible rfl
            simp only [LY]
            refine U_takeN (i := 12) (d := 134) (v := ?_) rfl rfl rfl (by kernel_rfl) (by kernel_rfl) (by kernel_rfl) (fun _ _ _ h => h) (Or.inl ⟨by rfl, ?_⟩) hH ?_
            rotate_left
            · intro w hSw
              try dsimp only at hSw
              go_simp
              try with_reducible rfl
            simp only [LY]
            clear hH
            refine U_one (i := 11) (by kernel_rfl) rfl (fun K hK => ?_)
            go_simp
            (with_reducible refine (p_Hi _ _ _ _ (PV2.mk h19a h19b)).mono ?_)
            rintro e w55 ⟨_, rfl, h23, hb⟩
            obtain ⟨sh23, ah23, nh23, ch23, Ah23, Nh23, Ch23, rfl⟩ := h23.shape
            replace hs := bStep hs hb
            replace Bls := Bls.mono hb
            replace Blsum := Blsum.mono hb
            replace Blx := Blx.mono hb
            replace Bld := Bld.mono hb
            replace h4 := h4.mono hb
            replace h10 := h10.mono hb
            replace he13a := he13a.mono hb
            replace he13b := he13b.mono hb
            replace he15a := he15a.mono hb
            replace h16 := h16.mono hb
            replace h19a := h19a.mono hb
            replace h19b := h19b.mono hb
            replace h20 := h20.mono hb
            replace hC := rowsJ (C3.kept PC.kept) _ _ _ hC hb
            replace hD := rowsJ PC.kept _ _ _ hD hb
            replace ply3 := rowsJ PlyC.kept _ _ _ ply3 hb
            replace X7 := rowsJ (C2.kept PC.kept) _ _ _ X7 hb
            replace cd_0 := cellK cd_0 hb
            replace cd_1 := cellK cd_1 hb
            replace cd_2 := cellK cd_2 hb
            replace cd_3 := cellK cd_3 hb
            replace cd_4 := cellK cd_4 hb
            replace cd_5 := cellK cd_5 hb
            replace csum_0 := cellK csum_0 hb
            replace csum_1 := cellK csum_1 hb
            replace csum_2 := cellK csum_2 hb
            clear hb
            try go_wp2_with fail
            refine hK.out _ _ ⟨cd_0, cd_1, cd_2, cd_3, cd_4, cd_5, csum_0, csum_1, csum_2⟩ (fun hH => ?_)
            clear hK K
            try simp only [LY]
            clear hH
            refine U_one (i := 13) (by kernel_rfl) rfl (fun K hK => ?_)
            go_simp
            (with_reducible refine (p_Same_calls _ _ _ _ _ h23 h16).mono ?_)
            rintro e w56 ⟨rfl, hb⟩
            replace hs := bStep hs hb
            replace Bls := Bls.mono hb
            replace Blsum := Blsum.mono hb
            replace Blx := Blx.mono hb
            replace Bld := Bld.mono hb
            replace h4 := h4.mono hb
            replace h10 := h10.mono hb
            replace he13a := he13a.mono hb
            replace he13b := he13b.mono hb
            replace he15a := he15a.mono hb
            replace h16 := h16.mono hb
            replace h19a := h19a.mono hb
            replace h19b := h19b.mono hb
            replace h20 := h20.mono hb
            replace h23 := h23.mono hb
            replace hC := rowsJ (C3.kept PC.kept) _ _ _ hC hb
            replace hD := rowsJ PC.kept _ _ _ hD hb
            replace ply3 := rowsJ PlyC.kept _ _ _ ply3 hb
            replace X7 := rowsJ (C2.kept PC.kept) _ _ _ X7 hb
            replace cd_0 := cellK cd_0 hb
            replace cd_1 := cellK cd_1 hb
            replace cd_2 := cellK cd_2 hb
            replace cd_3 := cellK cd_3 hb
            replace cd_4 := cellK cd_4 hb
            replace cd_5 := cellK cd_5 hb
            replace csum_0 := cellK csum_0 hb
            replace csum_1 := cellK csum_1 hb
            replace csum_2 := cellK csum_2 hb
            clear hb
            rw [← Hb24.out]
            try go_wp2_with fail
            refine hK.out _ _ ⟨cd_0, cd_1, cd_2, cd_3, cd_4, cd_5, csum_0, csum_1, csum_2⟩ (fun hH => ?_)
            clear hK K
            try simp only [LY]
            refine U_takeN (i := 14) (d := 136) (v := ?_) rfl rfl rfl (by kernel_rfl) (by kernel_rfl) (by kernel_rfl) (fun _ _ _ h => h) (Or.inl ⟨by rfl, ?_⟩) hH ?_
            rotate_left
            · intro w hSw
              try dsimp only at hSw
              go_simp
              try with_reducible rfl
            simp only [LY]
            refine U_takeN (i := 15) (d := 137) (v := ?_) rfl rfl rfl (by kernel_rfl) (by kernel_rfl) (by kernel_rfl) (fun _ _ _ h => h) (Or.inl ⟨by rfl, ?_⟩) hH ?_
            rotate_left
            · intro w hSw
              try dsimp only at hSw
              go_simp
              try with_reducible rfl
            simp only [LY]
            clear hH
            refine U_endN (by kernel_rfl) ?_
            clear cd_0 cd_1 cd_2 cd_3 cd_4 cd_5 csum_0 csum_1 csum_2
            have q25 : topQ (TH L L.length) (i + 1) = (topQ (TH L L.length) i) + (nthQ (TH L L.length) i) := rfl
            obtain rfl : b24 = true := by rw [Hb24.out]; exact decide_eq_true q25
            have q25H := Lib.hid q25
            clear q25
            have cd_0 : w56.cell? ⟨gd, 0, none⟩ = some (.bool sh19a) := Bld.at 0 rfl
            have cd_1 : w56.cell? ⟨gd, 1, none⟩ = some (.slice ah19a nh19a ch19a) := Bld.at 1 rfl
            have cd_2 : w56.cell? ⟨gd, 2, none⟩ = some (.slice Ah19a Nh19a Ch19a) := Bld.at 2 rfl
            have cd_3 : w56.cell? ⟨gd, 3, none⟩ = some (.bool sh19b) := Bld.at 3 rfl
            have cd_4 : w56.cell? ⟨gd, 4, none⟩ = some (.slice ah19b nh19b ch19b) := Bld.at 4 rfl
            have cd_5 : w56.cell? ⟨gd, 5, none⟩ = some (.slice Ah19b Nh19b Ch19b) := Bld.at 5 rfl
            have Ld : gd < w56.heap.size := Bld.lt
            go_wp2_with fail
            clear cd_0 cd_1 cd_2 cd_3 cd_4 cd_5 Ld
            with_reducible refine (top_Plies _ hD (by omega) (by omega) HOK.out HTZ.out (show i + 1 < L.length by omega) rfl (PV2.mk h19a h19b) (HTS.out (i + 1) (by omega))).mono ?_
            rintro e w57 ⟨rfl, hb⟩
            replace hs := bStep hs hb
            replace Bls := Bls.mono hb
            replace Blsum := Blsum.mono hb
            replace Blx := Blx.mono hb
            replace Bld := Bld.mono hb
            replace h4 := h4.mono hb
            replace h10 := h10.mono hb
            replace he13a := he13a.mono hb
            replace he13b := he13b.mono hb
            replace he15a := he15a.mono hb
            replace h16 := h16.mono hb
            replace h19a := h19a.mono hb
            replace h19b := h19b.mono hb
            replace h20 := h20.mono hb
            replace h23 := h23.mono hb
            replace hC := rowsJ (C3.kept PC.kept) _ _ _ hC hb
            replace hD := rowsJ PC.kept _ _ _ hD hb
            replace ply3 := rowsJ PlyC.kept _ _ _ ply3 hb
            replace X7 := rowsJ (C2.kept PC.kept) _ _ _ X7 hb
            clear hb
            have q26b : ((i : Int) == (i : Int)) = true := beq_self_eq_true _
            have q26n : ((i : Int) != (i : Int)) = false := bne_self_eq_false _
            have q27b : ((i : Int) + 1 == (i : Int) + 1) = true := beq_self_eq_true _
            have q27n : ((i : Int) + 1 != (i : Int) + 1) = false := bne_self_eq_false _
            go_wp2
            go_roundw
            case rel => exact ⟨i + 1, by omega, by go_num, hs, Bls, h4, hC, hD, ply3, X7, ⟨_, _, _, _, _, _, _, Blsum, h16.of_eq rfl⟩⟩
            all_goals first | (simp [intOf]; done) | (simp [intOf]; omega)
        · have q11d : ((i : Int) < (X.length : Int)) = False := eq_false (by omega)
          go_upto_region 32 with fail
          have hk9 : ((TH L L.length).length : Int) - 1 = (X.length : Int) := by omega
          have hk9a := IntWalk.i64_in (X.length : Int) (by omega)
          have hk9b : (0 : Int) ≤ (X.length : Int) := by omega
          have hk9c : ((X.length : Int)).toNat = X.length := by omega
          have BI12a : X.length < (TH L L.length).length := by omega
          have BI12b : ((X.length : Int) : Int) < ((TH L L.length).length : Int) := by omega
          obtain ⟨ge13a, ae13a, ne13a, ce13a, Ae13a, Ne13a, De13a, Ee130, Ee131, Ee132, he13a, le13⟩ := rowP_at hD (show X.length < (TH L L.length).length by omega)
          obtain ⟨b16, Hb16⟩ : ∃ b : Bool, b = decide ((topQ (TH L L.length) i) + (nthQ (TH L L.length) (X.length)) = ((T : Int) : Rat)) := ⟨_, rfl⟩
          replace Hb16 := Lib.hid Hb16
          have q17 : (topQ (TH L L.length) i) + (nthQ (TH L L.length) (X.length)) = ((T : Int) : Rat) := (by rw [show i = X.length by omega, ← HTT.out]; exact top_fin (by omega))
          obtain rfl : b16 = true := by rw [Hb16.out]; exact decide_eq_true q17
          have q17H := Lib.hid q17
          clear q17
          refine U_region (S := fun w' => w'.cell? ⟨w26.heap.size, 0, none⟩ = some (.bool sh10) ∧ w'.cell? ⟨w26.heap.size, 1, none⟩ = some (.slice ah10 nh10 ch10) ∧ w'.cell? ⟨w26.heap.size, 2, none⟩ = some (.slice Ah10 Nh10 Ch10) ∧ w'.cell? ⟨bhD, ohD + (X.length) * 3, none⟩ = some (.bool ge13a) ∧ w'.cell? ⟨bhD, ohD + (X.length) * 3 + 1, none⟩ = some (.slice ae13a ne13a ce13a) ∧ w'.cell? ⟨bhD, ohD + (X.length) * 3 + 2, none⟩ = some (.slice Ae13a Ne13a De13a)) (by kernel_rfl) 15 ?_
          refine AnyU.abs ?_
          intro w48 hW
          have hb : Below wr.heap.size wr w48 := by rw [hW]; exact bDrew _
          replace hs := bStep hs hb
          replace Bls := Bls.mono hb
          replace Blsum := Blsum.mono hb
          replace h4 := h4.mono hb
          replace h10 := h10.mono hb
          replace he13a := he13a.mono hb
          replace hC := rowsJ (C3.kept PC.kept) _ _ _ hC hb
          replace hD := rowsJ PC.kept _ _ _ hD hb
          replace ply3 := rowsJ PlyC.kept _ _ _ ply3 hb
          replace X7 := rowsJ (C2.kept PC.kept) _ _ _ X7 hb
          replace Ee130 := cellK Ee130 hb
          replace Ee131 := cellK Ee131 hb
          replace Ee132 := cellK Ee132 hb
          clear hb hW
          have csum_0 : w48.cell? ⟨w26.heap.size, 0, none⟩ = some (.bool sh10) := Blsum.at 0 rfl
          have csum_1 : w48.cell? ⟨w26.heap.size, 1, none⟩ = some (.slice ah10 nh10 ch10) := Blsum.at 1 rfl
          have csum_2 : w48.cell? ⟨w26.heap.size, 2, none⟩ = some (.slice Ah10 Nh10 Ch10) := Blsum.at 2 rfl
          have hH := (show w48.cell? ⟨w26.heap.size, 0, none⟩ = some (.bool sh10) ∧ w48.cell? ⟨w26.heap.size, 1, none⟩ = some (.slice ah10 nh10 ch10) ∧ w48.cell? ⟨w26.heap.size, 2, none⟩ = some (.slice Ah10 Nh10 Ch10) ∧ w48.cell? ⟨bhD, ohD + (X.length) * 3, none⟩ = some (.bool ge13a) ∧ w48.cell? ⟨bhD, ohD + (X.length) * 3 + 1, none⟩ = some (.slice ae13a ne13a ce13a) ∧ w48.cell? ⟨bhD, ohD + (X.length) * 3 + 2, none⟩ = some (.slice Ae13a Ne13a De13a) from ⟨csum_0, csum_1, csum_2, Ee130, Ee131, Ee132⟩)
          refine U_takeN (i := 0) (d := 159) (v := ?_) rfl rfl rfl (by kernel_rfl) (by kernel_rfl) (by kernel_rfl) (fun _ _ _ h => h) (Or.inl ⟨by rfl, ?_⟩) hH ?_
          rotate_left
          · intro w hSw
            try dsimp only at hSw
            go_simp
            try with_reducible rfl
          simp only [LY]
          refine U_takeN (i := 1) (d := 160) (v := ?_) rfl rfl rfl (by kernel_rfl) (by kernel_rfl) (by kernel_rfl) (fun _ _ _ h => h) (Or.inl ⟨by rfl, ?_⟩) hH ?_
          rotate_left
          · intro w hSw
            try dsimp only at hSw
            go_simp
            try with_reducible rfl
          simp only [LY]
          refine U_takeN (i := 2) (d := 161) (v := ?_) rfl rfl rfl (by kernel_rfl) (by kernel_rfl) (by kernel_rfl) (fun _ _ _ h => h) (Or.inl ⟨by rfl, ?_⟩) hH ?_
          rotate_left
          · intro w hSw
            try dsimp only at hSw
            go_simp
            try with_reducible rfl
          simp only [LY]
          refine U_takeN (i := 3) (d := 162) (v := ?_) rfl rfl rfl (by kernel_rfl) (by kernel_rfl) (by kernel_rfl) (fun _ _ _ h => h) (Or.inl ⟨by rfl, ?_⟩) hH ?_
          rotate_left
          · intro w hSw
            try dsimp only at hSw
            go_simp
            try with_reducible rfl
          simp only [LY]
          refine U_takeN (i := 4) (d := 163) (v := ?_) rfl rfl rfl (by kernel_rfl) (by kernel_rfl) (by kernel_rfl) (fun _ _ _ h => h) (Or.inl ⟨by rfl, ?_⟩) hH ?_
          rotate_left
          · intro w hSw
            try dsimp only at hSw
            go_simp
            try with_reducible rfl
          simp only [LY]
          refine U_takeN (i := 5) (d := 164) (v := ?_) rfl rfl rfl (by kernel_rfl) (by kernel_rfl) (by kernel_rfl) (fun _ _ _ h => h) (Or.inl ⟨by rfl, ?_⟩) hH ?_
          rotate_left
          · intro w hSw
            try dsimp only at hSw
            go_simp
            try with_reducible rfl
          simp only [LY]
          refine U_takeN (i := 6) (d := 165) (v := ?_) rfl rfl rfl (by kernel_rfl) (by kernel_rfl) (by kernel_rfl) (fun _ _ _ h => h) (Or.inl ⟨by rfl, ?_⟩) hH ?_
          rotate_left
          · intro w hSw
            try dsimp only at hSw
            go_simp
            try with_reducible rfl
          simp only [LY]
          refine U_takeN (i := 8) (d := 167) (v := ?_) rfl rfl rfl (by kernel_rfl) (by kernel_rfl) (by kernel_rfl) (fun _ _ _ h => h) (Or.inl ⟨by rfl, ?_⟩) hH ?_
          rotate_left
          · intro w hSw
            try dsimp only at hSw
            go_simp
            try with_reducible rfl
          simp only [LY]
          clear hH
          refine U_one (i := 7) (by kernel_rfl) rfl (fun K hK => ?_)
          go_simp
          (with_reducible refine (pAdd h10 he13a (SzQ.fit (HTS.out i (by omega))) (SzQ.fit (HTZ.out (X.length) (by rw [HTN.out]; omega)))).mono ?_)
          rintro e w49 ⟨_, rfl, h14, hb⟩
          obtain ⟨sh14, ah14, nh14, ch14, Ah14, Nh14, Ch14, rfl⟩ := h14.shape
          replace hs := bStep hs hb
          replace Bls := Bls.mono hb
          replace Blsum := Blsum.mono hb
          replace h4 := h4.mono hb
          replace h10 := h10.mono hb
          replace he13a := he13a.mono hb
          replace hC := rowsJ (C3.kept PC.kept) _ _ _ hC hb
          replace hD := rowsJ PC.kept _ _ _ hD hb
          replace ply3 := rowsJ PlyC.kept _ _ _ ply3 hb
          replace X7 := rowsJ (C2.kept PC.kept) _ _ _ X7 hb
          replace csum_0 := cellK csum_0 hb
          replace csum_1 := cellK csum_1 hb
          replace csum_2 := cellK csum_2 hb
          replace Ee130 := cellK Ee130 hb
          replace Ee131 := cellK Ee131 hb
          replace Ee132 := cellK Ee132 hb
          clear hb
          try go_wp2_with fail
          refine hK.out _ _ ⟨csum_0, csum_1, csum_2, Ee130, Ee131, Ee132⟩ (fun hH => ?_)
          clear hK K
          try simp only [LY]
          clear hH
          refine U_one (i := 9) (by kernel_rfl) rfl (fun K hK => ?_)
          go_simp
          (with_reducible refine (top_num_e _ rfl (by omega) (by omega)).mono ?_)
          rintro e w50 ⟨_, rfl, h15, hb⟩
          obtain ⟨sh15, ah15, nh15, ch15, Ah15, Nh15, Ch15, rfl⟩ := h15.shape
          replace hs := bStep hs hb
          replace Bls := Bls.mono hb
          replace Blsum := Blsum.mono hb
          replace h4 := h4.mono hb
          replace h10 := h10.mono hb
          replace he13a := he13a.mono hb
          replace h14 := h14.mono hb
          replace hC := rowsJ (C3.kept PC.kept) _ _ _ hC hb
          replace hD := rowsJ PC.kept _ _ _ hD hb
          replace ply3 := rowsJ PlyC.kept _ _ _ ply3 hb
          replace X7 := rowsJ (C2.kept PC.kept) _ _ _ X7 hb
          replace csum_0 := cellK csum_0 hb
          replace csum_1 := cellK csum_1 hb
          replace csum_2 := cellK csum_2 hb
          replace Ee130 := cellK Ee130 hb
          replace Ee131 := cellK Ee131 hb
          replace Ee132 := cellK Ee132 hb
          clear hb
          try go_wp2_with fail
          refine hK.out _ _ ⟨csum_0, csum_1, csum_2, Ee130, Ee131, Ee132⟩ (fun hH => ?_)
          clear hK K
          try simp only [LY]
          clear hH
          refine U_one (i := 10) (by kernel_rfl) rfl (fun K hK => ?_)
          go_simp
          (with_reducible refine (p_Same_calls _ _ _ _ _ h14 h15).mono ?_)
          rintro e w51 ⟨rfl, hb⟩
          replace hs := bStep hs hb
          replace Bls := Bls.mono hb
          replace Blsum := Blsum.mono hb
          replace h4 := h4.mono hb
          replace h10 := h10.mono hb
          replace he13a := he13a.mono hb
          replace h14 := h14.mono hb
          replace h15 := h15.mono hb
          replace hC := rowsJ (C3.kept PC.kept) _ _ _ hC hb
          replace hD := rowsJ PC.kept _ _ _ hD hb
          replace ply3 := rowsJ PlyC.kept _ _ _ ply3 hb
          replace X7 := rowsJ (C2.kept PC.kept) _ _ _ X7 hb
          replace csum_0 := cellK csum_0 hb
          replace csum_1 := cellK csum_1 hb
          replace csum_2 := cellK csum_2 hb
          replace Ee130 := cellK Ee130 hb
          replace Ee131 := cellK Ee131 hb
          replace Ee132 := cellK Ee132 hb
          clear hb
          rw [← Hb16.out]
          try go_wp2_with fail
          refine hK.out _ _ ⟨csum_0, csum_1, csum_2, Ee130, Ee131, Ee132⟩ (fun hH => ?_)
          clear hK K
          try simp only [LY]
          refine U_takeN (i := 11) (d := 170) (v := ?_) rfl rfl rfl (by kernel_rfl) (by kernel_rfl) (by kernel_rfl) (fun _ _ _ h => h) (Or.inl ⟨by rfl, ?_⟩) hH ?_
          rotate_left
          · intro w hSw
            try dsimp only at hSw
            go_simp
            try with_reducible rfl
          simp only [LY]
          clear hH
          refine U_one (i := 12) (by kernel_rfl) rfl (fun K hK => ?_)
          go_simp
          (with_reducible refine (top_awake _).mono ?_)
          rintro e w52 ⟨rfl, hb⟩
          replace hs := bStep hs hb
          replace Bls := Bls.mono hb
          replace Blsum := Blsum.mono hb
          replace h4 := h4.mono hb
          replace h10 := h10.mono hb
          replace he13a := he13a.mono hb
          replace h14 := h14.mono hb
          replace h15 := h15.mono hb
          replace hC := rowsJ (C3.kept PC.kept) _ _ _ hC hb
          replace hD := rowsJ PC.kept _ _ _ hD hb
          replace ply3 := rowsJ PlyC.kept _ _ _ ply3 hb
          replace X7 := rowsJ (C2.kept PC.kept) _ _ _ X7 hb
          replace csum_0 := cellK csum_0 hb
          replace csum_1 := cellK csum_1 hb
          replace csum_2 := cellK csum_2 hb
          replace Ee130 := cellK Ee130 hb
          replace Ee131 := cellK Ee131 hb
          replace Ee132 := cellK Ee132 hb
          clear hb
          try go_wp2_with fail
          refine hK.out _ _ ⟨csum_0, csum_1, csum_2, Ee130, Ee131, Ee132⟩ (fun hH => ?_)
          clear hK K
          try simp only [LY]
          refine U_takeN (i := 13) (d := 172) (v := ?_) rfl rfl rfl (by kernel_rfl) (by kernel_rfl) (by kernel_rfl) (fun _ _ _ h => h) (Or.inl ⟨by rfl, ?_⟩) hH ?_
          rotate_left
          · intro w hSw
            try dsimp only at hSw
            go_simp
            try with_reducible rfl
          simp only [LY]
          refine U_takeN (i := 14) (d := 6) (v := ?_) rfl rfl rfl (by kernel_rfl) (by kernel_rfl) (by kernel_rfl) (fun _ _ _ h => h) (Or.inl ⟨by rfl, ?_⟩) hH ?_
          rotate_left
          · intro w hSw
            try dsimp only at hSw
            go_simp
            try with_reducible rfl
          simp only [LY]
          clear hH
          refine U_endN (by kernel_rfl) ?_
          clear csum_0 csum_1 csum_2 Ee130 Ee131 Ee132
          go_wp2
          clear le13
          go_ret
          exact ⟨rfl, hs⟩
end Go.Proofs.Ytlfnapfnpkhggaa
