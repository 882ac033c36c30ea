/-
  law 02: PlaneFree.
-/
import Derived.Test.YtbnomdlojmgigaaGreatPlPF
import Derived.Test.YtbnomdlojmgigaaGreatPkB22F
import Derived.Test.YtbnomdlojmgigaaGreatPkB15F
set_option linter.unusedSimpArgs false
set_option linter.unusedVariables false
set_option maxRecDepth 100000
set_option maxHeartbeats 16000000
namespace Go.Proofs.YtbnomdlojmgigaaGreat
open Go.RowKit Dg
attribute [local go_sem ↓] Go.wp_at_zero Go.wp_at_succ
theorem LYp (l : List Value) (ds : List Deferred) (d : Nat) (v : Value) : Act.put ⟨l.toArray, ds⟩ (some d) v = ⟨(l.set d v).toArray, ds⟩ := LY.1 l ds d v
theorem pt_info : (Tryz.prog.info? 31).map (fun i => (i.zero, i.size, i.bytes)) = some (some (.agg #[.int .i64 0, .int .i64 0]), 2, 16) := by kernel_rfl
theorem pl_Sweep0 (va vo : Value) (path : List Pt) (obs : List Bxx) (u v : Int) (w : World) (hl : Pts w va path) (ho : Bxs w vo obs) {ri rk : Int} (hg : SwO path u v obs ri rk) (he : swE path u v obs = 0) :
  Calls Tryz.prog 8 #[va, .int .i64 u, .int .i64 v, vo] w (RetV w (.tuple #[.int .i64 ri, .int .i64 rk, .int .i64 0])) := by
 have h := pl_Sweep va vo path obs u v w hl ho hg
 rwa [he] at h
def rvK (l : List Pt) (k : Nat) : List Pt := l.reverse.take k
theorem rvK_le (l : List Pt) (k : Nat) : (rvK l k).length ≤ k := by unfold rvK; rw [List.length_take]; omega
theorem rvK_all (l : List Pt) : rvK l l.length = l.reverse := by unfold rvK; rw [← List.length_reverse, List.take_length]
theorem rvK_succ {path : List Pt} {k : Nat} (h : k < path.length) : rvK path (k + 1) = rvK path k ++ [ptZ path (path.length - 1 - k)] := by
 unfold rvK
 rw [List.take_add_one, List.getElem?_reverse h]
 unfold ptZ
 rw [List.getD_eq_getElem?_getD, List.getElem?_eq_getElem (by omega)]
 rfl
theorem l2_whole (n : Int) (w : World) (h : Wn 9223372036854775807 n) :
  Calls Tryz.prog 11 #[.int .i64 n] w (RetP w (n : Rat)) := by
 have hs := Below.refl w.heap.size w
 go_enter Tryz.func11, Tryz.ntmps11
 go_wp2_with fail
 refine Calls.abs ?_
 intro w1 hW
 have hG : Gr [] w w1 := by rw [hW]; exact (Gr.refl _ _).alloc
 have sz_w1 := hs.size
 have Blk : Bx w1 (w.heap.size) 35 #[.bool false, .slice none 0 0, .slice none 0 0] := by rw [hW]; exact (Bx.new0 _ _ _)
 replace hs := hs.trans (hG.below0 hs.size)
 clear hW hG
 have hz_w1 := Blk.lt
 with_reducible refine (p_Int_calls n _ (h.lo64 (by decide)) (h.hi (by decide))).mono ?_
 rintro e w2 ⟨_, rfl, h1, hb⟩
 obtain ⟨sh1, ah1, nh1, ch1, Ah1, Nh1, Ch1, rfl⟩ := h1.shape
 revert Blk; refine mS hs hb ?_; clear hs hb; intro hs Blk
 refine Blk.k3fl fun Bg Bh Bi fk Lk => ?_
 go_wp2
 clear Bg Bh Bi fk Lk
 refine bodyPost.abs ?_
 intro w3 hW
 have hG : Gr [w.heap.size] w2 w3 := by rw [hW]; exact (Gr.refl _ _).set.set.set
 have hsz := hs.size
 have lk := Blk.lt
 have hk := hG.keep ⟨⟨_, Blk.ty, by decide⟩, True.intro⟩
 have Bl1k : Bx w3 (w.heap.size) 35 #[.bool sh1, .slice ah1 nh1 ch1, .slice Ah1 Nh1 Ch1] := by rw [hW]; exact Blk.set3
 replace hs := hs.trans (hG.d1 hs.size)
 replace Blk := Bl1k
 clear Bl1k
 replace h1 := h1.keep hk
 clear hW hG hk hsz lk
 refine Blk.k3 fun Bg Bh Bi => ?_
 exact bodyPost_ret (v := .agg #[.bool sh1, .slice ah1 nh1 ch1, .slice Ah1 Nh1 Ch1]) (by simp [results, Tryz.results11, go_sem, Bg, Bh, Bi]) rfl ⟨_, rfl, h1, hs⟩
theorem l2_PlaneFree (haw : ∀ w : World, Calls Tryz.prog 7 #[] w (RetV w (.bool true))) (va vo : Value) (path : List Pt) (obs : List Bxx) (u v st tn : Int) (w : World) (hl : Pts w va path) (ho : Bxs w vo obs) (u0 : 0 ≤ u) (u1 : u ≤ 65535) (v0 : 0 ≤ v) (v1 : v ≤ 65535) (s0 : 0 ≤ st) (s1 : st ≤ 255) (t0 : 0 ≤ tn) (t1 : tn ≤ 255) :
  Calls Tryz.prog 4 #[va, .int .u16 u, .int .u16 v, vo, .int .u8 st, .int .u8 tn] w (RetV w (.bool true)) := by
 obtain ⟨al, cl, rfl, -, -, -⟩ := hl.slice
 obtain ⟨ol, ok, rfl, -, -, -⟩ := ho.slice
 obtain ⟨i0, hi, hz0, hz1, hz2⟩ := info_parts pt_info
 have hs := Below.refl w.heap.size w
 have HL := Lib.hid hl
 have HO := Lib.hid ho
 have HAW := Lib.hid haw
 clear hl ho haw
 go_enter Tryz.func4, Tryz.ntmps4
 by_cases q1 : 10 < path.length
 ·have q1d : ((10 : Int) < (path.length : Int)) = True := eq_true (by omega)
  go_wp2_with fail
  with_reducible refine (HAW.out _).mono ?_
  rintro e w1 ⟨rfl, hb⟩
  replace hs := bStep hs hb
  clear hb
  go_wp2
  go_ret
  exact ⟨rfl, hs⟩
 have q1d : ((10 : Int) < (path.length : Int)) = False := eq_false (by omega)
 by_cases q2 : 8 < obs.length
 ·have q2d : ((8 : Int) < (obs.length : Int)) = True := eq_true (by omega)
  go_wp2_with fail
  with_reducible refine (HAW.out _).mono ?_
  rintro e w1 ⟨rfl, hb⟩
  replace hs := bStep hs hb
  clear hb
  go_wp2
  go_ret
  exact ⟨rfl, hs⟩
 have q2d : ((8 : Int) < (obs.length : Int)) = False := eq_false (by omega)
 go_wp2_with fail
 obtain ⟨ri, rk, HG⟩ := swo_ex path u v obs
 replace HG := Lib.hid HG
 with_reducible refine (pl_Sweep _ _ path obs u v _ (RowsI.mono IP.kept HL.out hs) (RowsI.mono IE.kept HO.out hs) HG.out).mono ?_
 rintro e w1 ⟨rfl, hb⟩
 replace hs := bStep hs hb
 clear hb
 obtain ⟨se, Hse⟩ : ∃ z : Int, z = swE path u v obs := ⟨_, rfl⟩
 rw [← Hse]
 replace Hse := Lib.hid Hse
 by_cases q3 : se = 0
 ·have q3b : (se == 0) = true := beq_iff_eq.2 (by omega)
  have q3n : (se != 0) = false := bne_eq_false_iff_eq.2 (by omega)
  have q3H := Lib.hid q3
  clear q3
  have hse0 : se = 0 := by first | (have h := q3H.out; omega) | (have h := q3H.out; simpa using h)
  have HE0 := Lib.hid (show swE path u v obs = 0 from Hse.out.symm.trans hse0)
  obtain ⟨⟨hpl2, hpl3⟩, hra_, ⟨hu1, hu2, hv1, hv2⟩, hbx_⟩ := swE_ok HE0.out
  have HRA := Lib.hid hra_
  have HBX := Lib.hid (bxs_ok hbx_).2
  have HBL := (bxs_ok hbx_).1
  clear hra_ hbx_
  have AXu : IntKind.i64.wrap u = u := IntWalk.i64_in _ (by omega)
  have AXv : IntKind.i64.wrap v = v := IntWalk.i64_in _ (by omega)
  have WU := Lib.hid (show Wn 1048576 u from Wn.lit (by omega) (by omega))
  have WV := Lib.hid (show Wn 1048576 v from Wn.lit (by omega) (by omega))
  obtain ⟨hneg, hrl, hrk⟩ := swo_neg HE0.out HG.out
  obtain ⟨hr1, hk1⟩ := swo_int HE0.out HG.out
  obtain ⟨pb, po, pc, hv_, hpc1, hpc2⟩ := rowI_open HL.out (by omega)
  obtain ⟨rfl, rfl⟩ := sliceE hv_
  clear hv_
  go_wp2
  go_loopw [16, 57] (fun s16 s57 wq => ∃ k : Nat, k ≤ path.length ∧ s57 = .int .i64 k ∧ Below w.heap.size w wq ∧ OwnR w.heap.size 31 2 IP wq s16 (rvK path k)) (fun s16 s57 _ => path.length - (intOf s57).toNat)
  case atStart => exact ⟨0, Nat.zero_le _, rfl, hs, OwnR.nil _ _ _ _ _⟩
  case round =>
   clear hs
   obtain ⟨k, k_le, rfl, hs, Otu⟩ := hrel
   obtain ⟨wl0, hwo⟩ : ∃ x, x = wr := ⟨_, rfl⟩
   subst hwo
   have ltk := rvK_le path k
   by_cases q4 : k < path.length
   ·have q4d : ((k : Int) < (path.length : Int)) = True := eq_true (by omega)
    obtain ⟨m, Hm⟩ : ∃ z : Nat, z = path.length - 1 - k := ⟨_, rfl⟩
    have AX6 : IntKind.i64.wrap ((path.length : Int) - 1 - (k : Int)) = (m : Int) := by rw [IntWalk.i64_in _ (by omega)]; omega
    have hm : m < path.length := by omega
    replace Hm := Lib.hid Hm
    have AX5 : IntKind.i64.wrap ((path.length : Int) - 1) = (path.length : Int) - 1 := IntWalk.i64_in _ (by omega)
    obtain ⟨Bn, Bo, le7⟩ := rowIP_at (RowsI.mono IP.kept HL.out hs) (show m < path.length by omega)
    obtain ⟨pe7, Hpe7⟩ : ∃ z : Pt, z = ptZ path m := ⟨_, rfl⟩
    rw [← Hpe7] at Bn Bo
    have Bpe7 : WP 1048576 pe7 := by rw [Hpe7]; exact (rt_wp (HRA.out _ (ptZ_mem (show m < path.length by omega))))
    replace Hpe7 := Lib.hid Hpe7
    go_wp2_with (at_builtin; refine wpList.stop ?_)
    refine ⟨?_⟩
    clear le7 Bn Bo
    refine wpList.abs ?_
    intro w22 hW
    have hG : Gr [] wl0 w22 := by rw [hW]; exact (Gr.refl _ _).alloc
    have sz_w22 := hs.size
    have Bf : Bx w22 (wl0.heap.size) 31 #[.int .i64 pe7.1, .int .i64 pe7.2] := by rw [hW]; exact (Bx.new0 _ _ _)
    replace hs := hs.trans (hG.below0 hs.size)
    replace Otu := Otu.mono IP.kept (hG.below0 (Nat.le_refl _))
    clear hW hG
    have hz_w22 := Bf.lt
    obtain ⟨css, ho1, ho2, ho3, hown0⟩ := Otu
    refine wpList_append_lies _ rfl _ _ _ rfl w.heap.size 31 i0 _ 2 16 Tryz.underlying22 hi hz0 hz1 hz2 rfl (by omega) _ _ css.flatten rfl hown0 ⟨wl0.heap.size, 0, none⟩ 1 1 [.int .i64 pe7.1, .int .i64 pe7.2] rfl rfl Bf.news ?_ (by omega) ?_ ?_ ?_ _ rfl ?_
    ·intro u hu; simp only [List.mem_cons, List.mem_nil_iff, or_false] at hu; rcases hu with rfl | rfl <;> rfl
    ·unfold maxLen; (try simp only [List.length_append, List.length_cons, List.length_nil]); omega
    ·(try simp only [List.length_append, List.length_cons, List.length_nil]); omega
    ·exact hs.size
    intro gtu captu w23 hown1 hgrow hat hlt_
    have hk_ := KeepD.owns hown0 hgrow (by decide)
    have ho := owns_onlyT hown0 hgrow
    replace hs := hs.grown hgrow hs.size (fun k hk => (hown0.lt k hk).1)
    replace Otu := OwnR.push' IP.kept ho1 ho2 ho3 (x := pe7) rfl rfl (by simp) hown1 hk_
    clear hk_ ho ho1 ho2 ho3 hown0 hown1 hgrow hat hlt_ Bf
    have AX8 : IntKind.i64.wrap ((k : Int) + 1) = (k : Int) + 1 := IntWalk.i64_in _ (by omega)
    go_wp2
    go_roundw
    case rel => exact ⟨k + 1, by omega, by go_num, hs, (by rw [rvK_succ (by omega), show ptZ path (path.length - 1 - k) = pe7 from by rw [← Hm.out]; exact Hpe7.out.symm]; exact Otu)⟩
    all_goals first | (simp [intOf]; done) | (simp [intOf]; omega)
   have q4d : ((k : Int) < (path.length : Int)) = False := eq_false (by omega)
   have HTU := Lib.hid (show RowsI 2 IP wl0 u16 path.reverse from by have h := Otu.rows.toI; rwa [show k = path.length from by omega, rvK_all] at h)
   clear Otu
   go_wp2_with fail
   obtain ⟨rj, rm, HG2⟩ := swo_ex path.reverse u v obs
   have hturn := swo_turn HE0.out HG.out HG2
   replace HG2 := Lib.hid HG2
   with_reducible refine (pl_Sweep _ _ path.reverse obs u v _ HTU.out (RowsI.mono IE.kept HO.out hs) HG2.out).mono ?_
   rintro e w22 ⟨rfl, hb⟩
   replace hs := bStep hs hb
   clear hb
   rw [swE_rev, HE0.out]
   by_cases hri : ri < 0
   ·as_aux_lemma =>
     have hriH := Lib.hid hri
     have dri : (ri < 0) = True := eq_true (by omega)
     have drj : (rj < 0) = True := eq_true (by omega)
     have drk : (rk < 0) = True := eq_true (by omega)
     have dle : ((path.length : Int) - 1 ≤ ri) = False := eq_false (by omega)
     have dlo : ((obs.length : Int) ≤ rk) = False := eq_false (by omega)
     have dr0 : (0 ≤ ri) = False := eq_false (by omega)
     obtain ⟨m, Hm⟩ : ∃ z : Nat, z = st.toNat % (path.length - 1) := ⟨_, rfl⟩
     have hm : m < path.length - 1 := by rw [Hm]; exact Nat.mod_lt _ (by omega)
     have AX10 : Int.tmod st ((path.length : Int) - 1) = (m : Int) := by rw [Hm, Int.tmod_eq_emod_of_nonneg (by omega), show st = ((st.toNat : Nat) : Int) from by omega, show (path.length : Int) - 1 = ((path.length - 1 : Nat) : Int) from by omega]; rfl
     clear Hm
     have AX10z : ((path.length : Int) - 1 = 0) = False := eq_false (by omega)
     obtain ⟨c, Hc⟩ : ∃ z : Int, z = tn % 251 := ⟨_, rfl⟩
     have AX11 : Int.tmod tn 251 = c := by rw [Hc]; exact Int.tmod_eq_emod_of_nonneg (by omega)
     have c0 : 0 ≤ c := by omega
     have c1 : c ≤ 250 := by omega
     clear Hc
     have HSF := Lib.hid (szD (n := c) (d := 250) (Wn.lit (by omega) (by omega)) (Wn.lit (by decide) (by decide)) (by decide))
     skip
     have AX5 : IntKind.i64.wrap ((path.length : Int) - 1) = (path.length : Int) - 1 := IntWalk.i64_in _ (by omega)
     have q6 : ¬ ((path.length : Int) - 1 ≤ ri) := (by omega)
     have q6d : ((path.length : Int) - 1 ≤ ri) = False := eq_false (by omega)
     have q7 : ¬ ((obs.length : Int) ≤ rk) := (by omega)
     have q7d : ((obs.length : Int) ≤ rk) = False := eq_false (by omega)
     have q8 : ¬ (0 ≤ ri) := (by omega)
     have q8d : ((0 : Int) ≤ ri) = False := eq_false (by omega)
     have AX9 : IntKind.i64.wrap ((path.length : Int) - 1) = (path.length : Int) - 1 := IntWalk.i64_in _ (by omega)
     go_wp2_with fail
     with_reducible refine (p_New_calls c 250 _ (by omega) (by omega) (by decide) (by decide) (by decide)).mono ?_
     rintro e w23 ⟨_, rfl, h12, hb⟩
     obtain ⟨sh12, ah12, nh12, ch12, Ah12, Nh12, Ch12, rfl⟩ := h12.shape
     replace hs := bStep hs hb
     clear hb
     have hmd : (m < path.length) = True := eq_true (by omega)
     have hmd1 : (m + 1 < path.length) = True := eq_true (by omega)
     go_upto_region 20 with fail
     refine Code.abs ?_
     intro w24 hW
     have hG : Gr [] w23 w24 := by rw [hW]; exact (Gr.refl _ _).alloc
     have hk := hG.keep True.intro
     have sz_w24 := hs.size
     have B0 : Bx w24 (w23.heap.size) 35 #[.bool sh12, .slice ah12 nh12 ch12, .slice Ah12 Nh12 Ch12] := by rw [hW]; exact (Bx.new0 _ _ _)
     replace hs := hs.trans (hG.below0 hs.size)
     replace h12 := h12.keep hk
     clear hW hG hk
     have hz_w24 := B0.lt
     obtain ⟨Bb, Bc, le13⟩ := rowIP_at (RowsI.mono IP.kept HL.out hs) (show m < path.length by omega)
     obtain ⟨pe13, Hpe13⟩ : ∃ z : Pt, z = ptZ path m := ⟨_, rfl⟩
     rw [← Hpe13] at Bb Bc
     have Bpe13 : WP 1048576 pe13 := by rw [Hpe13]; exact (rt_wp (HRA.out _ (ptZ_mem (show m < path.length by omega))))
     replace Hpe13 := Lib.hid Hpe13
     have AX14 : IntKind.i64.wrap ((m : Int) + 1) = (m : Int) + 1 := IntWalk.i64_in _ (by omega)
     have SW15a := IntWalk.i64_in ((m : Int) + 1) (by omega)
     have SW15b : (0 : Int) ≤ (m : Int) + 1 := by omega
     have SW15c : ((m : Int) + 1).toNat = (m + 1) := by omega
     have SW15d : (m : Int) + 1 < (path.length : Int) := by omega
     obtain ⟨Bd, Be, le16⟩ := rowIP_at (RowsI.mono IP.kept HL.out hs) (show (m + 1) < path.length by omega)
     obtain ⟨pe16, Hpe16⟩ : ∃ z : Pt, z = ptZ path (m + 1) := ⟨_, rfl⟩
     rw [← Hpe16] at Bd Be
     have Bpe16 : WP 1048576 pe16 := by rw [Hpe16]; exact (rt_wp (HRA.out _ (ptZ_mem (show (m + 1) < path.length by omega))))
     replace Hpe16 := Lib.hid Hpe16
     go_cut [26, 27] (fun kv0 kv1 wz => ∃ ga gb, kv0 = .pointer (some ⟨ga, 0, none⟩) ∧ kv1 = .pointer (some ⟨gb, 0, none⟩) ∧ w.heap.size ≤ ga ∧ ga ≠ w23.heap.size ∧ w.heap.size ≤ gb ∧ gb ≠ w23.heap.size ∧ ga ≠ gb ∧ Bx wz ga 31 #[.int .i64 pe13.1, .int .i64 pe13.2] ∧ Bx wz gb 31 #[.int .i64 pe16.1, .int .i64 pe16.2] ∧ Below w.heap.size w wz ∧ Bx wz (w23.heap.size) 35 #[.bool sh12, .slice ah12 nh12 ch12, .slice Ah12 Nh12 Ch12] ∧ PV wz (.agg #[.bool sh12, .slice ah12 nh12 ch12, .slice Ah12 Nh12 Ch12]) (((c : Int) : Rat) / ((250 : Int) : Rat)))
     case first =>
      refine U_region (S := fun w' => w'.cell? ⟨pb, po + m * 2, none⟩ = some (.int .i64 pe13.1) ∧ w'.cell? ⟨pb, po + m * 2 + 1, none⟩ = some (.int .i64 pe13.2) ∧ w'.cell? ⟨pb, po + (m + 1) * 2, none⟩ = some (.int .i64 pe16.1) ∧ w'.cell? ⟨pb, po + (m + 1) * 2 + 1, none⟩ = some (.int .i64 pe16.2)) (by kernel_rfl) 12 ?_
      refine AnyU.abs ?_
      intro w25 hW
      have hb : Below w24.heap.size w24 w25 := by rw [hW]; exact bDrew _
      replace hs := bStep hs hb
      revert h12; revert B0; refine mo hb ?_; intro B0 h12
      replace Bb := cellK Bb hb
      replace Bc := cellK Bc hb
      replace Bd := cellK Bd hb
      replace Be := cellK Be hb
      clear hb hW
      obtain ⟨FP, HP⟩ : ∃ FP : World → Prop, ∀ W, FP W ↔ (Below w.heap.size w W ∧ Bx W (w23.heap.size) 35 #[.bool sh12, .slice ah12 nh12 ch12, .slice Ah12 Nh12 Ch12] ∧ PV W (.agg #[.bool sh12, .slice ah12 nh12 ch12, .slice Ah12 Nh12 Ch12]) (((c : Int) : Rat) / ((250 : Int) : Rat)) ∧ W.cell? ⟨pb, po + m * 2, none⟩ = some (.int .i64 pe13.1) ∧ W.cell? ⟨pb, po + m * 2 + 1, none⟩ = some (.int .i64 pe13.2) ∧ W.cell? ⟨pb, po + (m + 1) * 2, none⟩ = some (.int .i64 pe16.1) ∧ W.cell? ⟨pb, po + (m + 1) * 2 + 1, none⟩ = some (.int .i64 pe16.2)) := ⟨_, fun _ => Iff.rfl⟩
      have HM : ∀ W W', FP W → Below W.heap.size W W' → FP W' := by intro W W' h hb; obtain ⟨hs, B0, h12, Bb, Bc, Bd, Be⟩ := (HP _).1 h; exact (HP _).2 ⟨bStep hs hb, B0.mono hb, h12.mono hb, cellK Bb hb, cellK Bc hb, cellK Bd hb, cellK Be hb⟩
      have HC : ∀ W, FP W → W.cell? ⟨pb, po + m * 2, none⟩ = some (.int .i64 pe13.1) ∧ W.cell? ⟨pb, po + m * 2 + 1, none⟩ = some (.int .i64 pe13.2) ∧ W.cell? ⟨pb, po + (m + 1) * 2, none⟩ = some (.int .i64 pe16.1) ∧ W.cell? ⟨pb, po + (m + 1) * 2 + 1, none⟩ = some (.int .i64 pe16.2) := by intro W h; obtain ⟨hs, B0, h12, Bb, Bc, Bd, Be⟩ := (HP _).1 h; exact ⟨Bb, Bc, Bd, Be⟩
      obtain ⟨NE, HN⟩ : ∃ NE : Nat → Prop, ∀ g, NE g ↔ (w23.heap.size ≠ g ∧ pb ≠ g) := ⟨_, fun _ => Iff.rfl⟩
      have HE : ∀ W, FP W → NE W.heap.size := by intro W h; obtain ⟨hs, B0, h12, Bb, Bc, Bd, Be⟩ := (HP _).1 h; exact (HN _).2 (⟨Nat.ne_of_lt B0.lt, Nat.ne_of_lt (block_lt_of_cell Bb)⟩)
      have HG : ∀ W W' g, FP W → Gr [g] W W' → KeepD W W' → w.heap.size ≤ g → NE g → FP W' := by intro W W' g h hG hk hg hn; obtain ⟨hs, B0, h12, Bb, Bc, Bd, Be⟩ := (HP _).1 h; obtain ⟨e_part, x0⟩ := (HN g).1 hn; exact (HP _).2 ⟨hs.trans (hG.below1 hs.size hg), hG.bx B0 (notMem1 e_part), h12.keep hk, hG.cell Bb (notMem1 x0), hG.cell Bc (notMem1 x0), hG.cell Bd (notMem1 x0), hG.cell Be (notMem1 x0)⟩
      have F : FP w25 := (HP _).2 ⟨hs, B0, h12, Bb, Bc, Bd, Be⟩
      clear hs B0 h12 Bb Bc Bd Be
      have hH := HC _ F
      refine U_takeD (i := 0) (d := 155) (v := ?_) rfl rfl (by kernel_rfl) (by kernel_rfl) (by kernel_rfl) (by kernel_rfl) (fun _ _ _ h => h) (Or.inl ⟨by rfl, ?_⟩) hH ?_
      rotate_left
      ·intro w hSw
       try dsimp only at hSw
       go_simp
       try with_reducible rfl
      try simp only [LYp]
      try dsimp only [List.set]
      refine U_takeD (i := 1) (d := 156) (v := ?_) rfl rfl (by kernel_rfl) (by kernel_rfl) (by kernel_rfl) (by kernel_rfl) (fun _ _ _ h => h) (Or.inl ⟨by rfl, ?_⟩) hH ?_
      rotate_left
      ·intro w hSw
       try dsimp only at hSw
       go_simp
       try with_reducible rfl
      try simp only [LYp]
      try dsimp only [List.set]
      refine U_takeD (i := 2) (d := 157) (v := ?_) rfl rfl (by kernel_rfl) (by kernel_rfl) (by kernel_rfl) (by kernel_rfl) (fun _ _ _ h => h) (Or.inl ⟨by rfl, ?_⟩) hH ?_
      rotate_left
      ·intro w hSw
       try dsimp only at hSw
       go_simp
       try with_reducible rfl
      try simp only [LYp]
      try dsimp only [List.set]
      refine U_takeD (i := 3) (d := 158) (v := ?_) rfl rfl (by kernel_rfl) (by kernel_rfl) (by kernel_rfl) (by kernel_rfl) (fun _ _ _ h => h) (Or.inl ⟨by rfl, ?_⟩) hH ?_
      rotate_left
      ·intro w hSw
       try dsimp only at hSw
       go_simp
       try with_reducible rfl
      try simp only [LYp]
      try dsimp only [List.set]
      refine U_takeD (i := 4) (d := 159) (v := ?_) rfl rfl (by kernel_rfl) (by kernel_rfl) (by kernel_rfl) (by kernel_rfl) (fun _ _ _ h => h) (Or.inl ⟨by rfl, ?_⟩) hH ?_
      rotate_left
      ·intro w hSw
       try dsimp only at hSw
       go_simp
       try with_reducible rfl
      try simp only [LYp]
      try dsimp only [List.set]
      refine U_takeD (i := 5) (d := 160) (v := ?_) rfl rfl (by kernel_rfl) (by kernel_rfl) (by kernel_rfl) (by kernel_rfl) (fun _ _ _ h => h) (Or.inl ⟨by rfl, ?_⟩) hH ?_
      rotate_left
      ·intro w hSw
       try dsimp only at hSw
       go_simp
       try with_reducible rfl
      try simp only [LYp]
      try dsimp only [List.set]
      refine U_takeD (i := 6) (d := 161) (v := ?_) rfl rfl (by kernel_rfl) (by kernel_rfl) (by kernel_rfl) (by kernel_rfl) (fun _ _ _ h => h) (Or.inl ⟨by rfl, ?_⟩) hH ?_
      rotate_left
      ·intro w hSw
       try dsimp only at hSw
       go_simp
       try with_reducible rfl
      try simp only [LYp]
      try dsimp only [List.set]
      refine U_takeD (i := 7) (d := 162) (v := ?_) rfl rfl (by kernel_rfl) (by kernel_rfl) (by kernel_rfl) (by kernel_rfl) (fun _ _ _ h => h) (Or.inl ⟨by rfl, ?_⟩) hH ?_
      rotate_left
      ·intro w hSw
       try dsimp only at hSw
       go_simp
       try with_reducible rfl
      try simp only [LYp]
      try dsimp only [List.set]
      refine U_takeD (i := 8) (d := 163) (v := ?_) rfl rfl (by kernel_rfl) (by kernel_rfl) (by kernel_rfl) (by kernel_rfl) (fun _ _ _ h => h) (Or.inl ⟨by rfl, ?_⟩) hH ?_
      rotate_left
      ·intro w hSw
       try dsimp only at hSw
       go_simp
       try with_reducible rfl
      try simp only [LYp]
      try dsimp only [List.set]
      clear hH
      refine U_letters ?_
      intro X a0 HX HA
      have key3 : ∀ (W : World) (g_a : Nat) (g_b : Nat), FP W → (w.heap.size ≤ g_a) → (NE g_a) → (Bx W g_a 31 #[.int .i64 0, .int .i64 0]) → (w.heap.size ≤ g_b) → (NE g_b) → (Bx W g_b 31 #[.int .i64 0, .int .i64 0]) → (g_a ≠ g_b) → X 2 #[true, true, true, true, true, true, true, true, true, true, true, false, false] ((a0.put (some 26) (.pointer (some ⟨g_a, 0, none⟩))).put (some 27) (.pointer (some ⟨g_b, 0, none⟩))) W := by as_aux_lemma =>
       intro W g_a g_b F sz_a ne_a Bla sz_b ne_b Blb m_a_b
       rw [← HX.out, ← HA.out]
       try simp only [LYp]
       try dsimp only [List.set]
       refine Bla.k2fl fun Bp Bq fa La => ?_
       refine U_on 11 fun K hK => ?_
       go_simp
       generalize hW_ : ((W.setCell ⟨g_a, 0, none⟩ (.int .i64 pe13.1)).setCell ⟨g_a, 1, none⟩ (.int .i64 pe13.2)) = w26
       have hW := hW_.symm
       clear hW_
       have hG : Gr [g_a] W w26 := by rw [hW]; exact (Gr.refl _ _).set.set
       have hk := hG.keep ⟨⟨_, Bla.ty, by decide⟩, True.intro⟩
       replace Bla : Bx w26 (g_a) 31 #[.int .i64 pe13.1, .int .i64 pe13.2] := by rw [hW]; exact Bla.set2
       replace F := HG _ _ _ F hG hk sz_a ne_a
       replace Blb := hG.b1 Blb
       clear hW hG hk
       refine hK.out _ _ (HC _ F) (fun hH => ?_)
       clear hK K
       try simp only [LYp]
       try dsimp only [List.set]
       clear hH
       refine Blb.k2fl fun Br Bs fb Lb => ?_
       refine U_last (by kernel_rfl) rfl (by kernel_rfl) (fun K hK => ?_)
       go_simp
       refine hK.out _ _ ?_
       clear hK K
       intro w27 hW
       have hG : Gr [g_b] w26 w27 := by rw [hW]; exact (Gr.refl _ _).set.set
       have hk := hG.keep ⟨⟨_, Blb.ty, by decide⟩, True.intro⟩
       replace Blb : Bx w27 (g_b) 31 #[.int .i64 pe16.1, .int .i64 pe16.2] := by rw [hW]; exact Blb.set2
       replace F := HG _ _ _ F hG hk sz_b ne_b
       replace Bla := hG.b1 Bla
       clear hW hG hk
       obtain ⟨hs, B0, h12, Bb, Bc, Bd, Be⟩ := (HP _).1 F
       try simp only [LYp]
       try dsimp only [List.set]
       obtain ⟨e_part_a, x0_a⟩ := (HN _).1 ne_a
       obtain ⟨e_part_b, x0_b⟩ := (HN _).1 ne_b
       clear HX HA HM HP HC HG HN HE
       go_wp2_with fail
       go_meet
       exact ⟨g_a, g_b, rfl, rfl, (by first | exact sz_a | omega), (by omega), (by first | exact sz_b | omega), (by omega), (by omega), Bla, Blb, hs, B0, h12⟩
      replace key3 := Lib.hid key3
      have key2 : ∀ (W : World) (g_b : Nat), FP W → (w.heap.size ≤ g_b) → (NE g_b) → (Bx W g_b 31 #[.int .i64 0, .int .i64 0]) → X 3 #[true, true, true, true, true, true, true, true, true, false, true, false, false] (a0.put (some 27) (.pointer (some ⟨g_b, 0, none⟩))) W := by as_aux_lemma =>
       intro W g_b F sz_b ne_b Blb
       rw [← HX.out, ← HA.out]
       try simp only [LYp]
       try dsimp only [List.set]
       refine U_on 9 fun K hK => ?_
       go_simp
       refine alloc_letter ((HP _).1 F).1 (fun W1 hb Bla sz_a => ?_)
       have ne_a := HE _ F
       have m_a_b := Nat.ne_of_gt Blb.lt
       replace F := HM _ _ F hb
       replace Blb := Blb.mono hb
       clear hb
       refine hK.out _ _ (HC _ F) (fun hH => ?_)
       clear hK K
       try simp only [LYp]
       try dsimp only [List.set]
       have hkey := key3.out W1 W.heap.size g_b F sz_a ne_a Bla sz_b ne_b Blb m_a_b
       rw [← HX.out, ← HA.out] at hkey
       try simp only [LYp] at hkey
       try dsimp only [List.set] at hkey
       exact U_at (by kernel_rfl) (by kernel_rfl) hkey
      replace key2 := Lib.hid key2
      have key1 : ∀ (W : World) (g_a : Nat), FP W → (w.heap.size ≤ g_a) → (NE g_a) → (Bx W g_a 31 #[.int .i64 0, .int .i64 0]) → X 3 #[true, true, true, true, true, true, true, true, true, true, false, false, false] (a0.put (some 26) (.pointer (some ⟨g_a, 0, none⟩))) W := by as_aux_lemma =>
       intro W g_a F sz_a ne_a Bla
       rw [← HX.out, ← HA.out]
       try simp only [LYp]
       try dsimp only [List.set]
       refine U_on 10 fun K hK => ?_
       go_simp
       refine alloc_letter ((HP _).1 F).1 (fun W1 hb Blb sz_b => ?_)
       have ne_b := HE _ F
       have m_a_b := Nat.ne_of_lt Bla.lt
       replace F := HM _ _ F hb
       replace Bla := Bla.mono hb
       clear hb
       refine hK.out _ _ (HC _ F) (fun hH => ?_)
       clear hK K
       try simp only [LYp]
       try dsimp only [List.set]
       have hkey := key3.out W1 g_a W.heap.size F sz_a ne_a Bla sz_b ne_b Blb m_a_b
       rw [← HX.out, ← HA.out] at hkey
       try simp only [LYp] at hkey
       try dsimp only [List.set] at hkey
       exact U_at (by kernel_rfl) (by kernel_rfl) hkey
      replace key1 := Lib.hid key1
      have key0 : ∀ (W : World), FP W → X 4 #[true, true, true, true, true, true, true, true, true, false, false, false, false] a0 W := by as_aux_lemma =>
       intro W F
       rw [← HX.out, ← HA.out]
       try simp only [LYp]
       try dsimp only [List.set]
       refine U_two (i := 9) (j := 10) (by kernel_rfl) rfl rfl  (fun K hK => ?_) (fun K hK => ?_)
       ·go_simp
        refine alloc_letter ((HP _).1 F).1 (fun W1 hb Bla sz_a => ?_)
        have ne_a := HE _ F
        replace F := HM _ _ F hb
        clear hb
        refine hK.out _ _ (HC _ F) (fun hH => ?_)
        clear hK K
        try simp only [LYp]
        try dsimp only [List.set]
        have hkey := key1.out W1 W.heap.size F sz_a ne_a Bla
        rw [← HX.out, ← HA.out] at hkey
        try simp only [LYp] at hkey
        try dsimp only [List.set] at hkey
        exact U_at (by kernel_rfl) (by kernel_rfl) hkey
       go_simp
       refine alloc_letter ((HP _).1 F).1 (fun W1 hb Blb sz_b => ?_)
       have ne_b := HE _ F
       replace F := HM _ _ F hb
       clear hb
       refine hK.out _ _ (HC _ F) (fun hH => ?_)
       clear hK K
       try simp only [LYp]
       try dsimp only [List.set]
       have hkey := key2.out W1 W.heap.size F sz_b ne_b Blb
       rw [← HX.out, ← HA.out] at hkey
       try simp only [LYp] at hkey
       try dsimp only [List.set] at hkey
       exact U_at (by kernel_rfl) (by kernel_rfl) hkey
      replace key0 := Lib.hid key0
      rw [← HX.out]
      have hkey := key0.out w25 F
      rw [← HX.out] at hkey
      exact U_at (by kernel_rfl) (by kernel_rfl) hkey
     case rest =>
      clear hs Bb Bc Bd Be B0 h12
      obtain ⟨ga, gb, rfl, rfl, hg_a, ng_a_part, hg_b, ng_b_part, ng_a_b, Bla, Blb, hs, B0, h12⟩ := hcut
      go_upto_region 21 with fail
      have AX18 : IntKind.i64.wrap (pe16.1 - pe13.1) = pe16.1 - pe13.1 := Wn.wsub Bpe16.1 Bpe13.1 (by decide)
      go_cut [28] (fun kv0 wz => ∃ gx sh21 ah21 nh21 ch21 Ah21 Nh21 Ch21, kv0 = .pointer (some ⟨gx, 0, none⟩) ∧ w.heap.size ≤ gx ∧ gx ≠ w23.heap.size ∧ gx ≠ ga ∧ gx ≠ gb ∧ Bx wz gx 35 #[.bool sh21, .slice ah21 nh21 ch21, .slice Ah21 Nh21 Ch21] ∧ Below w.heap.size w wz ∧ Bx wz (w23.heap.size) 35 #[.bool sh12, .slice ah12 nh12 ch12, .slice Ah12 Nh12 Ch12] ∧ Bx wz (ga) 31 #[.int .i64 pe13.1, .int .i64 pe13.2] ∧ Bx wz (gb) 31 #[.int .i64 pe16.1, .int .i64 pe16.2] ∧ PV wz (.agg #[.bool sh12, .slice ah12 nh12 ch12, .slice Ah12 Nh12 Ch12]) (((c : Int) : Rat) / ((250 : Int) : Rat)) ∧ PV wz (.agg #[.bool sh21, .slice ah21 nh21 ch21, .slice Ah21 Nh21 Ch21]) ((((pe13.1 : Int) : Rat)) + ((((c : Int) : Rat) / ((250 : Int) : Rat)) * (((pe16.1 - pe13.1 : Int) : Rat)))))
      case first =>
       refine U_region (S := fun w' => w'.cell? ⟨ga, 0, none⟩ = some (.int .i64 pe13.1) ∧ w'.cell? ⟨ga, 1, none⟩ = some (.int .i64 pe13.2) ∧ w'.cell? ⟨w23.heap.size, 0, none⟩ = some (.bool sh12) ∧ w'.cell? ⟨w23.heap.size, 1, none⟩ = some (.slice ah12 nh12 ch12) ∧ w'.cell? ⟨w23.heap.size, 2, none⟩ = some (.slice Ah12 Nh12 Ch12) ∧ w'.cell? ⟨gb, 0, none⟩ = some (.int .i64 pe16.1) ∧ w'.cell? ⟨gb, 1, none⟩ = some (.int .i64 pe16.2)) (by kernel_rfl) 13 ?_
       refine AnyU.abs ?_
       intro w25 hW
       have hb : Below wc.heap.size wc w25 := by rw [hW]; exact bDrew _
       replace hs := bStep hs hb
       revert h12; revert Blb; revert Bla; revert B0; refine mo hb ?_; intro B0 Bla Blb h12
       clear hb hW
       obtain ⟨FP, HP⟩ : ∃ FP : World → Prop, ∀ W, FP W ↔ (Below w.heap.size w W ∧ Bx W (w23.heap.size) 35 #[.bool sh12, .slice ah12 nh12 ch12, .slice Ah12 Nh12 Ch12] ∧ Bx W (ga) 31 #[.int .i64 pe13.1, .int .i64 pe13.2] ∧ Bx W (gb) 31 #[.int .i64 pe16.1, .int .i64 pe16.2] ∧ PV W (.agg #[.bool sh12, .slice ah12 nh12 ch12, .slice Ah12 Nh12 Ch12]) (((c : Int) : Rat) / ((250 : Int) : Rat))) := ⟨_, fun _ => Iff.rfl⟩
       have HM : ∀ W W', FP W → Below W.heap.size W W' → FP W' := by intro W W' h hb; obtain ⟨hs, B0, Bla, Blb, h12⟩ := (HP _).1 h; exact (HP _).2 ⟨bStep hs hb, B0.mono hb, Bla.mono hb, Blb.mono hb, h12.mono hb⟩
       have HC : ∀ W, FP W → W.cell? ⟨ga, 0, none⟩ = some (.int .i64 pe13.1) ∧ W.cell? ⟨ga, 1, none⟩ = some (.int .i64 pe13.2) ∧ W.cell? ⟨w23.heap.size, 0, none⟩ = some (.bool sh12) ∧ W.cell? ⟨w23.heap.size, 1, none⟩ = some (.slice ah12 nh12 ch12) ∧ W.cell? ⟨w23.heap.size, 2, none⟩ = some (.slice Ah12 Nh12 Ch12) ∧ W.cell? ⟨gb, 0, none⟩ = some (.int .i64 pe16.1) ∧ W.cell? ⟨gb, 1, none⟩ = some (.int .i64 pe16.2) := by intro W h; obtain ⟨hs, B0, Bla, Blb, h12⟩ := (HP _).1 h; exact ⟨Bla.at 0 rfl, Bla.at 1 rfl, B0.at 0 rfl, B0.at 1 rfl, B0.at 2 rfl, Blb.at 0 rfl, Blb.at 1 rfl⟩
       obtain ⟨NE, HN⟩ : ∃ NE : Nat → Prop, ∀ g, NE g ↔ (w23.heap.size ≠ g ∧ ga ≠ g ∧ gb ≠ g) := ⟨_, fun _ => Iff.rfl⟩
       have HE : ∀ W, FP W → NE W.heap.size := by intro W h; obtain ⟨hs, B0, Bla, Blb, h12⟩ := (HP _).1 h; exact (HN _).2 (⟨Nat.ne_of_lt B0.lt, Nat.ne_of_lt Bla.lt, Nat.ne_of_lt Blb.lt⟩)
       have HG : ∀ W W' g, FP W → Gr [g] W W' → KeepD W W' → w.heap.size ≤ g → NE g → FP W' := by intro W W' g h hG hk hg hn; obtain ⟨hs, B0, Bla, Blb, h12⟩ := (HP _).1 h; obtain ⟨e_part, e_a, e_b⟩ := (HN g).1 hn; exact (HP _).2 ⟨hs.trans (hG.below1 hs.size hg), hG.bx B0 (notMem1 e_part), hG.bx Bla (notMem1 e_a), hG.bx Blb (notMem1 e_b), h12.keep hk⟩
       have F : FP w25 := (HP _).2 ⟨hs, B0, Bla, Blb, h12⟩
       clear hs B0 Bla Blb h12
       have hH := HC _ F
       refine U_takeD (i := 0) (d := 164) (v := ?_) rfl rfl (by kernel_rfl) (by kernel_rfl) (by kernel_rfl) (by kernel_rfl) (fun _ _ _ h => h) (Or.inl ⟨by rfl, ?_⟩) hH ?_
       rotate_left
       ·intro w hSw
        try dsimp only at hSw
        go_simp
        try with_reducible rfl
       try simp only [LYp]
       try dsimp only [List.set]
       refine U_takeD (i := 1) (d := 165) (v := ?_) rfl rfl (by kernel_rfl) (by kernel_rfl) (by kernel_rfl) (by kernel_rfl) (fun _ _ _ h => h) (Or.inl ⟨by rfl, ?_⟩) hH ?_
       rotate_left
       ·intro w hSw
        try dsimp only at hSw
        go_simp
        try with_reducible rfl
       try simp only [LYp]
       try dsimp only [List.set]
       refine U_takeD (i := 3) (d := 167) (v := ?_) rfl rfl (by kernel_rfl) (by kernel_rfl) (by kernel_rfl) (by kernel_rfl) (fun _ _ _ h => h) (Or.inl ⟨by rfl, ?_⟩) hH ?_
       rotate_left
       ·intro w hSw
        try dsimp only at hSw
        go_simp
        try with_reducible rfl
       try simp only [LYp]
       try dsimp only [List.set]
       refine U_takeD (i := 4) (d := 168) (v := ?_) rfl rfl (by kernel_rfl) (by kernel_rfl) (by kernel_rfl) (by kernel_rfl) (fun _ _ _ h => h) (Or.inl ⟨by rfl, ?_⟩) hH ?_
       rotate_left
       ·intro w hSw
        try dsimp only at hSw
        go_simp
        try with_reducible rfl
       try simp only [LYp]
       try dsimp only [List.set]
       refine U_takeD (i := 5) (d := 169) (v := ?_) rfl rfl (by kernel_rfl) (by kernel_rfl) (by kernel_rfl) (by kernel_rfl) (fun _ _ _ h => h) (Or.inl ⟨by rfl, ?_⟩) hH ?_
       rotate_left
       ·intro w hSw
        try dsimp only at hSw
        go_simp
        try with_reducible rfl
       try simp only [LYp]
       try dsimp only [List.set]
       refine U_takeD (i := 6) (d := 170) (v := ?_) rfl rfl (by kernel_rfl) (by kernel_rfl) (by kernel_rfl) (by kernel_rfl) (fun _ _ _ h => h) (Or.inl ⟨by rfl, ?_⟩) hH ?_
       rotate_left
       ·intro w hSw
        try dsimp only at hSw
        go_simp
        try with_reducible rfl
       try simp only [LYp]
       try dsimp only [List.set]
       refine U_takeD (i := 7) (d := 171) (v := ?_) rfl rfl (by kernel_rfl) (by kernel_rfl) (by kernel_rfl) (by kernel_rfl) (fun _ _ _ h => h) (Or.inl ⟨by rfl, ?_⟩) hH ?_
       rotate_left
       ·intro w hSw
        try dsimp only at hSw
        go_simp
        try with_reducible rfl
       try simp only [LYp]
       try dsimp only [List.set]
       refine U_takeD (i := 8) (d := 172) (v := ?_) rfl rfl (by kernel_rfl) (by kernel_rfl) (by kernel_rfl) (by kernel_rfl) (fun _ _ _ h => h) (Or.inl ⟨by rfl, ?_⟩) hH ?_
       rotate_left
       ·intro w hSw
        try dsimp only at hSw
        go_simp
        try with_reducible rfl
       try simp only [LYp]
       try dsimp only [List.set]
       clear hH
       refine U_letters ?_
       intro X a0 HX HA
       have key9 : ∀ (W : World) (g_x : Nat) (uh17 : Value) (uh19 : Value) (uh20 : Value) (uh21 : Value), FP W → (w.heap.size ≤ g_x) → (NE g_x) → (Bx W g_x 35 #[.bool false, .slice none 0 0, .slice none 0 0]) → (PV W uh21 ((((pe13.1 : Int) : Rat)) + ((((c : Int) : Rat) / ((250 : Int) : Rat)) * (((pe16.1 - pe13.1 : Int) : Rat))))) → X 1 #[true, true, true, true, true, true, true, true, true, true, true, true, true, false] (((((a0.put (some 166) (uh17)).put (some 173) (uh19)).put (some 174) (uh20)).put (some 175) (uh21)).put (some 28) (.pointer (some ⟨g_x, 0, none⟩))) W := by as_aux_lemma =>
        intro W g_x uh17 uh19 uh20 uh21 F sz_x ne_x Blx h21
        rw [← HX.out, ← HA.out]
        try simp only [LYp]
        try dsimp only [List.set]
        obtain ⟨sh21, ah21, nh21, ch21, Ah21, Nh21, Ch21, rfl⟩ := h21.shape
        refine Blx.k3fl fun B1 B2 B3 fx Lx => ?_
        refine U_last (by kernel_rfl) rfl (by kernel_rfl) (fun K hK => ?_)
        go_simp
        refine hK.out _ _ ?_
        clear hK K
        intro w26 hW
        have hG : Gr [g_x] W w26 := by rw [hW]; exact (Gr.refl _ _).set.set.set
        have hk := hG.keep ⟨⟨_, Blx.ty, by decide⟩, True.intro⟩
        replace Blx : Bx w26 (g_x) 35 #[.bool sh21, .slice ah21 nh21 ch21, .slice Ah21 Nh21 Ch21] := by rw [hW]; exact Blx.set3
        replace F := HG _ _ _ F hG hk sz_x ne_x
        replace h21 := h21.keep hk
        clear hW hG hk
        obtain ⟨hs, B0, Bla, Blb, h12⟩ := (HP _).1 F
        try simp only [LYp]
        try dsimp only [List.set]
        obtain ⟨e_part_x, e_a_x, e_b_x⟩ := (HN _).1 ne_x
        clear HX HA HM HP HC HG HN HE
        go_wp2_with fail
        go_meet
        exact ⟨g_x, _, _, _, _, _, _, _, rfl, (by first | exact sz_x | omega), (by omega), (by omega), (by omega), Blx, hs, B0, Bla, Blb, h12, h21⟩
       replace key9 := Lib.hid key9
       have key8 : ∀ (W : World) (g_x : Nat) (uh17 : Value) (uh19 : Value) (uh20 : Value), FP W → (w.heap.size ≤ g_x) → (NE g_x) → (Bx W g_x 35 #[.bool false, .slice none 0 0, .slice none 0 0]) → (PV W uh17 (((pe13.1 : Int) : Rat))) → (PV W uh20 ((((c : Int) : Rat) / ((250 : Int) : Rat)) * (((pe16.1 - pe13.1 : Int) : Rat)))) → X 2 #[true, true, true, true, true, true, true, true, true, true, true, false, true, false] ((((a0.put (some 166) (uh17)).put (some 173) (uh19)).put (some 174) (uh20)).put (some 28) (.pointer (some ⟨g_x, 0, none⟩))) W := by as_aux_lemma =>
        intro W g_x uh17 uh19 uh20 F sz_x ne_x Blx h17 h20
        rw [← HX.out, ← HA.out]
        try simp only [LYp]
        try dsimp only [List.set]
        refine U_on 11 fun K hK => ?_
        obtain ⟨hs, B0, Bla, Blb, h12⟩ := (HP _).1 F
        go_simp
        (with_reducible refine (pAdd h17 h20 (SzQ.fit (szN (Bpe13.1.mono (by decide)))) (SzQ.fit (SzQ.mul HSF.out (szN ((Wn.sub Bpe16.1 Bpe13.1).mono (by decide)))))).mono ?_)
        rintro e W1 ⟨uh21, rfl, h21, hb⟩
        replace F := HM _ _ F hb
        revert h20; revert h17; revert Blx; refine mo hb ?_; intro Blx h17 h20
        clear hb hs B0 Bla Blb h12
        try go_wp2_with fail
        refine hK.out _ _ (HC _ F) (fun hH => ?_)
        clear hK K
        try simp only [LYp]
        try dsimp only [List.set]
        have hkey := key9.out W1 g_x uh17 uh19 uh20 uh21 F sz_x ne_x Blx h21
        rw [← HX.out, ← HA.out] at hkey
        try simp only [LYp] at hkey
        try dsimp only [List.set] at hkey
        exact U_at (by kernel_rfl) (by kernel_rfl) hkey
       replace key8 := Lib.hid key8
       have key7 : ∀ (W : World) (uh17 : Value) (uh19 : Value) (uh20 : Value) (uh21 : Value), FP W → (PV W uh21 ((((pe13.1 : Int) : Rat)) + ((((c : Int) : Rat) / ((250 : Int) : Rat)) * (((pe16.1 - pe13.1 : Int) : Rat))))) → X 2 #[true, true, true, true, true, true, true, true, true, true, true, true, false, false] ((((a0.put (some 166) (uh17)).put (some 173) (uh19)).put (some 174) (uh20)).put (some 175) (uh21)) W := by as_aux_lemma =>
        intro W uh17 uh19 uh20 uh21 F h21
        rw [← HX.out, ← HA.out]
        try simp only [LYp]
        try dsimp only [List.set]
        refine U_on 12 fun K hK => ?_
        go_simp
        refine alloc_letter ((HP _).1 F).1 (fun W1 hb Blx sz_x => ?_)
        have ne_x := HE _ F
        replace F := HM _ _ F hb
        replace h21 := h21.mono hb
        clear hb
        refine hK.out _ _ (HC _ F) (fun hH => ?_)
        clear hK K
        try simp only [LYp]
        try dsimp only [List.set]
        have hkey := key9.out W1 W.heap.size uh17 uh19 uh20 uh21 F sz_x ne_x Blx h21
        rw [← HX.out, ← HA.out] at hkey
        try simp only [LYp] at hkey
        try dsimp only [List.set] at hkey
        exact U_at (by kernel_rfl) (by kernel_rfl) hkey
       replace key7 := Lib.hid key7
       have key6 : ∀ (W : World) (g_x : Nat) (uh17 : Value) (uh19 : Value), FP W → (w.heap.size ≤ g_x) → (NE g_x) → (Bx W g_x 35 #[.bool false, .slice none 0 0, .slice none 0 0]) → (PV W uh17 (((pe13.1 : Int) : Rat))) → (PV W uh19 (((pe16.1 - pe13.1 : Int) : Rat))) → X 3 #[true, true, true, true, true, true, true, true, true, true, false, false, true, false] (((a0.put (some 166) (uh17)).put (some 173) (uh19)).put (some 28) (.pointer (some ⟨g_x, 0, none⟩))) W := by as_aux_lemma =>
        intro W g_x uh17 uh19 F sz_x ne_x Blx h17 h19
        rw [← HX.out, ← HA.out]
        try simp only [LYp]
        try dsimp only [List.set]
        refine U_on 10 fun K hK => ?_
        obtain ⟨hs, B0, Bla, Blb, h12⟩ := (HP _).1 F
        go_simp
        (with_reducible refine (pMul h12 h19 (SzQ.fit HSF.out) (SzQ.fit (szN ((Wn.sub Bpe16.1 Bpe13.1).mono (by decide))))).mono ?_)
        rintro e W1 ⟨uh20, rfl, h20, hb⟩
        replace F := HM _ _ F hb
        revert h19; revert h17; revert Blx; refine mo hb ?_; intro Blx h17 h19
        clear hb hs B0 Bla Blb h12
        try go_wp2_with fail
        refine hK.out _ _ (HC _ F) (fun hH => ?_)
        clear hK K
        try simp only [LYp]
        try dsimp only [List.set]
        have hkey := key8.out W1 g_x uh17 uh19 uh20 F sz_x ne_x Blx h17 h20
        rw [← HX.out, ← HA.out] at hkey
        try simp only [LYp] at hkey
        try dsimp only [List.set] at hkey
        exact U_at (by kernel_rfl) (by kernel_rfl) hkey
       replace key6 := Lib.hid key6
       have key5 : ∀ (W : World) (uh17 : Value) (uh19 : Value) (uh20 : Value), FP W → (PV W uh17 (((pe13.1 : Int) : Rat))) → (PV W uh20 ((((c : Int) : Rat) / ((250 : Int) : Rat)) * (((pe16.1 - pe13.1 : Int) : Rat)))) → X 3 #[true, true, true, true, true, true, true, true, true, true, true, false, false, false] (((a0.put (some 166) (uh17)).put (some 173) (uh19)).put (some 174) (uh20)) W := by as_aux_lemma =>
        intro W uh17 uh19 uh20 F h17 h20
        rw [← HX.out, ← HA.out]
        try simp only [LYp]
        try dsimp only [List.set]
        refine U_two (i := 11) (j := 12) (by kernel_rfl) rfl rfl  (fun K hK => ?_) (fun K hK => ?_)
        ·obtain ⟨hs, B0, Bla, Blb, h12⟩ := (HP _).1 F
         go_simp
         (with_reducible refine (pAdd h17 h20 (SzQ.fit (szN (Bpe13.1.mono (by decide)))) (SzQ.fit (SzQ.mul HSF.out (szN ((Wn.sub Bpe16.1 Bpe13.1).mono (by decide)))))).mono ?_)
         rintro e W1 ⟨uh21, rfl, h21, hb⟩
         replace F := HM _ _ F hb
         revert h20; revert h17; refine mo hb ?_; intro h17 h20
         clear hb hs B0 Bla Blb h12
         try go_wp2_with fail
         refine hK.out _ _ (HC _ F) (fun hH => ?_)
         clear hK K
         try simp only [LYp]
         try dsimp only [List.set]
         have hkey := key7.out W1 uh17 uh19 uh20 uh21 F h21
         rw [← HX.out, ← HA.out] at hkey
         try simp only [LYp] at hkey
         try dsimp only [List.set] at hkey
         exact U_at (by kernel_rfl) (by kernel_rfl) hkey
        go_simp
        refine alloc_letter ((HP _).1 F).1 (fun W1 hb Blx sz_x => ?_)
        have ne_x := HE _ F
        replace F := HM _ _ F hb
        revert h20; revert h17; refine mo hb ?_; intro h17 h20
        clear hb
        refine hK.out _ _ (HC _ F) (fun hH => ?_)
        clear hK K
        try simp only [LYp]
        try dsimp only [List.set]
        have hkey := key8.out W1 W.heap.size uh17 uh19 uh20 F sz_x ne_x Blx h17 h20
        rw [← HX.out, ← HA.out] at hkey
        try simp only [LYp] at hkey
        try dsimp only [List.set] at hkey
        exact U_at (by kernel_rfl) (by kernel_rfl) hkey
       replace key5 := Lib.hid key5
       have key4 : ∀ (W : World) (g_x : Nat) (uh17 : Value), FP W → (w.heap.size ≤ g_x) → (NE g_x) → (Bx W g_x 35 #[.bool false, .slice none 0 0, .slice none 0 0]) → (PV W uh17 (((pe13.1 : Int) : Rat))) → X 4 #[true, true, true, true, true, true, true, true, true, false, false, false, true, false] ((a0.put (some 166) (uh17)).put (some 28) (.pointer (some ⟨g_x, 0, none⟩))) W := by as_aux_lemma =>
        intro W g_x uh17 F sz_x ne_x Blx h17
        rw [← HX.out, ← HA.out]
        try simp only [LYp]
        try dsimp only [List.set]
        refine U_on 9 fun K hK => ?_
        obtain ⟨hs, B0, Bla, Blb, h12⟩ := (HP _).1 F
        go_simp
        (with_reducible refine (l2_whole (pe16.1 - pe13.1) _ ((Wn.sub Bpe16.1 Bpe13.1).mono (by decide))).mono ?_)
        rintro e W1 ⟨uh19, rfl, h19, hb⟩
        replace F := HM _ _ F hb
        revert h17; revert Blx; refine mo hb ?_; intro Blx h17
        clear hb hs B0 Bla Blb h12
        try go_wp2_with fail
        refine hK.out _ _ (HC _ F) (fun hH => ?_)
        clear hK K
        try simp only [LYp]
        try dsimp only [List.set]
        have hkey := key6.out W1 g_x uh17 uh19 F sz_x ne_x Blx h17 h19
        rw [← HX.out, ← HA.out] at hkey
        try simp only [LYp] at hkey
        try dsimp only [List.set] at hkey
        exact U_at (by kernel_rfl) (by kernel_rfl) hkey
       replace key4 := Lib.hid key4
       have key3 : ∀ (W : World) (uh17 : Value) (uh19 : Value), FP W → (PV W uh17 (((pe13.1 : Int) : Rat))) → (PV W uh19 (((pe16.1 - pe13.1 : Int) : Rat))) → X 4 #[true, true, true, true, true, true, true, true, true, true, false, false, false, false] ((a0.put (some 166) (uh17)).put (some 173) (uh19)) W := by as_aux_lemma =>
        intro W uh17 uh19 F h17 h19
        rw [← HX.out, ← HA.out]
        try simp only [LYp]
        try dsimp only [List.set]
        refine U_two (i := 10) (j := 12) (by kernel_rfl) rfl rfl  (fun K hK => ?_) (fun K hK => ?_)
        ·obtain ⟨hs, B0, Bla, Blb, h12⟩ := (HP _).1 F
         go_simp
         (with_reducible refine (pMul h12 h19 (SzQ.fit HSF.out) (SzQ.fit (szN ((Wn.sub Bpe16.1 Bpe13.1).mono (by decide))))).mono ?_)
         rintro e W1 ⟨uh20, rfl, h20, hb⟩
         replace F := HM _ _ F hb
         revert h19; revert h17; refine mo hb ?_; intro h17 h19
         clear hb hs B0 Bla Blb h12
         try go_wp2_with fail
         refine hK.out _ _ (HC _ F) (fun hH => ?_)
         clear hK K
         try simp only [LYp]
         try dsimp only [List.set]
         have hkey := key5.out W1 uh17 uh19 uh20 F h17 h20
         rw [← HX.out, ← HA.out] at hkey
         try simp only [LYp] at hkey
         try dsimp only [List.set] at hkey
         exact U_at (by kernel_rfl) (by kernel_rfl) hkey
        go_simp
        refine alloc_letter ((HP _).1 F).1 (fun W1 hb Blx sz_x => ?_)
        have ne_x := HE _ F
        replace F := HM _ _ F hb
        revert h19; revert h17; refine mo hb ?_; intro h17 h19
        clear hb
        refine hK.out _ _ (HC _ F) (fun hH => ?_)
        clear hK K
        try simp only [LYp]
        try dsimp only [List.set]
        have hkey := key6.out W1 W.heap.size uh17 uh19 F sz_x ne_x Blx h17 h19
        rw [← HX.out, ← HA.out] at hkey
        try simp only [LYp] at hkey
        try dsimp only [List.set] at hkey
        exact U_at (by kernel_rfl) (by kernel_rfl) hkey
       replace key3 := Lib.hid key3
       have key2 : ∀ (W : World) (g_x : Nat), FP W → (w.heap.size ≤ g_x) → (NE g_x) → (Bx W g_x 35 #[.bool false, .slice none 0 0, .slice none 0 0]) → X 5 #[true, true, false, true, true, true, true, true, true, false, false, false, true, false] (a0.put (some 28) (.pointer (some ⟨g_x, 0, none⟩))) W := by as_aux_lemma =>
        intro W g_x F sz_x ne_x Blx
        rw [← HX.out, ← HA.out]
        try simp only [LYp]
        try dsimp only [List.set]
        refine U_on 2 fun K hK => ?_
        obtain ⟨hs, B0, Bla, Blb, h12⟩ := (HP _).1 F
        go_simp
        (with_reducible refine (l2_whole pe13.1 _ (Bpe13.1.mono (by decide))).mono ?_)
        rintro e W1 ⟨uh17, rfl, h17, hb⟩
        replace F := HM _ _ F hb
        replace Blx := Blx.mono hb
        clear hb hs B0 Bla Blb h12
        try go_wp2_with fail
        refine hK.out _ _ (HC _ F) (fun hH => ?_)
        clear hK K
        try simp only [LYp]
        try dsimp only [List.set]
        have hkey := key4.out W1 g_x uh17 F sz_x ne_x Blx h17
        rw [← HX.out, ← HA.out] at hkey
        try simp only [LYp] at hkey
        try dsimp only [List.set] at hkey
        exact U_at (by kernel_rfl) (by kernel_rfl) hkey
       replace key2 := Lib.hid key2
       have key1 : ∀ (W : World) (uh17 : Value), FP W → (PV W uh17 (((pe13.1 : Int) : Rat))) → X 5 #[true, true, true, true, true, true, true, true, true, false, false, false, false, false] (a0.put (some 166) (uh17)) W := by as_aux_lemma =>
        intro W uh17 F h17
        rw [← HX.out, ← HA.out]
        try simp only [LYp]
        try dsimp only [List.set]
        refine U_two (i := 9) (j := 12) (by kernel_rfl) rfl rfl  (fun K hK => ?_) (fun K hK => ?_)
        ·obtain ⟨hs, B0, Bla, Blb, h12⟩ := (HP _).1 F
         go_simp
         (with_reducible refine (l2_whole (pe16.1 - pe13.1) _ ((Wn.sub Bpe16.1 Bpe13.1).mono (by decide))).mono ?_)
         rintro e W1 ⟨uh19, rfl, h19, hb⟩
         replace F := HM _ _ F hb
         replace h17 := h17.mono hb
         clear hb hs B0 Bla Blb h12
         try go_wp2_with fail
         refine hK.out _ _ (HC _ F) (fun hH => ?_)
         clear hK K
         try simp only [LYp]
         try dsimp only [List.set]
         have hkey := key3.out W1 uh17 uh19 F h17 h19
         rw [← HX.out, ← HA.out] at hkey
         try simp only [LYp] at hkey
         try dsimp only [List.set] at hkey
         exact U_at (by kernel_rfl) (by kernel_rfl) hkey
        go_simp
        refine alloc_letter ((HP _).1 F).1 (fun W1 hb Blx sz_x => ?_)
        have ne_x := HE _ F
        replace F := HM _ _ F hb
        replace h17 := h17.mono hb
        clear hb
        refine hK.out _ _ (HC _ F) (fun hH => ?_)
        clear hK K
        try simp only [LYp]
        try dsimp only [List.set]
        have hkey := key4.out W1 W.heap.size uh17 F sz_x ne_x Blx h17
        rw [← HX.out, ← HA.out] at hkey
        try simp only [LYp] at hkey
        try dsimp only [List.set] at hkey
        exact U_at (by kernel_rfl) (by kernel_rfl) hkey
       replace key1 := Lib.hid key1
       have key0 : ∀ (W : World), FP W → X 6 #[true, true, false, true, true, true, true, true, true, false, false, false, false, false] a0 W := by as_aux_lemma =>
        intro W F
        rw [← HX.out, ← HA.out]
        try simp only [LYp]
        try dsimp only [List.set]
        refine U_two (i := 2) (j := 12) (by kernel_rfl) rfl rfl  (fun K hK => ?_) (fun K hK => ?_)
        ·obtain ⟨hs, B0, Bla, Blb, h12⟩ := (HP _).1 F
         go_simp
         (with_reducible refine (l2_whole pe13.1 _ (Bpe13.1.mono (by decide))).mono ?_)
         rintro e W1 ⟨uh17, rfl, h17, hb⟩
         replace F := HM _ _ F hb
         clear hb hs B0 Bla Blb h12
         try go_wp2_with fail
         refine hK.out _ _ (HC _ F) (fun hH => ?_)
         clear hK K
         try simp only [LYp]
         try dsimp only [List.set]
         have hkey := key1.out W1 uh17 F h17
         rw [← HX.out, ← HA.out] at hkey
         try simp only [LYp] at hkey
         try dsimp only [List.set] at hkey
         exact U_at (by kernel_rfl) (by kernel_rfl) hkey
        go_simp
        refine alloc_letter ((HP _).1 F).1 (fun W1 hb Blx sz_x => ?_)
        have ne_x := HE _ F
        replace F := HM _ _ F hb
        clear hb
        refine hK.out _ _ (HC _ F) (fun hH => ?_)
        clear hK K
        try simp only [LYp]
        try dsimp only [List.set]
        have hkey := key2.out W1 W.heap.size F sz_x ne_x Blx
        rw [← HX.out, ← HA.out] at hkey
        try simp only [LYp] at hkey
        try dsimp only [List.set] at hkey
        exact U_at (by kernel_rfl) (by kernel_rfl) hkey
       replace key0 := Lib.hid key0
       rw [← HX.out]
       have hkey := key0.out w25 F
       rw [← HX.out] at hkey
       exact U_at (by kernel_rfl) (by kernel_rfl) hkey
      case rest =>
       clear hs B0 Bla Blb h12
       obtain ⟨gx, sh21, ah21, nh21, ch21, Ah21, Nh21, Ch21, rfl, hg_x, ng_x_part, ng_x_a, ng_x_b, Blx, hs, B0, Bla, Blb, h12, h21⟩ := hcut
       obtain ⟨X, KX⟩ : ∃ z : Rat, z = (((pe13.1 : Int) : Rat)) + ((((c : Int) : Rat) / ((250 : Int) : Rat)) * (((pe16.1 - pe13.1 : Int) : Rat))) := ⟨_, rfl⟩
       have SX := Lib.hid (show SzQ 100 X from by rw [KX]; exact SzQ.mono (SzQ.add (szN (Bpe13.1.mono (by decide))) (SzQ.mul HSF.out (szN ((Wn.sub Bpe16.1 Bpe13.1).mono (by decide))))) (by decide))
       rw [← KX] at h21
       replace KX := Lib.hid KX
       go_upto_region 22 with fail
       have AX23 : IntKind.i64.wrap (pe16.2 - pe13.2) = pe16.2 - pe13.2 := Wn.wsub Bpe16.2 Bpe13.2 (by decide)
       go_cut [29] (fun kv0 wz => ∃ gy sh26 ah26 nh26 ch26 Ah26 Nh26 Ch26, kv0 = .pointer (some ⟨gy, 0, none⟩) ∧ w.heap.size ≤ gy ∧ gy ≠ w23.heap.size ∧ gy ≠ ga ∧ gy ≠ gb ∧ gy ≠ gx ∧ Bx wz gy 35 #[.bool sh26, .slice ah26 nh26 ch26, .slice Ah26 Nh26 Ch26] ∧ Below w.heap.size w wz ∧ Bx wz (w23.heap.size) 35 #[.bool sh12, .slice ah12 nh12 ch12, .slice Ah12 Nh12 Ch12] ∧ Bx wz (ga) 31 #[.int .i64 pe13.1, .int .i64 pe13.2] ∧ Bx wz (gb) 31 #[.int .i64 pe16.1, .int .i64 pe16.2] ∧ Bx wz (gx) 35 #[.bool sh21, .slice ah21 nh21 ch21, .slice Ah21 Nh21 Ch21] ∧ PV wz (.agg #[.bool sh12, .slice ah12 nh12 ch12, .slice Ah12 Nh12 Ch12]) (((c : Int) : Rat) / ((250 : Int) : Rat)) ∧ PV wz (.agg #[.bool sh21, .slice ah21 nh21 ch21, .slice Ah21 Nh21 Ch21]) (X) ∧ PV wz (.agg #[.bool sh26, .slice ah26 nh26 ch26, .slice Ah26 Nh26 Ch26]) ((((pe13.2 : Int) : Rat)) + ((((c : Int) : Rat) / ((250 : Int) : Rat)) * (((pe16.2 - pe13.2 : Int) : Rat)))))
       case first =>
        refine U_region (S := fun w' => w'.cell? ⟨ga, 0, none⟩ = some (.int .i64 pe13.1) ∧ w'.cell? ⟨ga, 1, none⟩ = some (.int .i64 pe13.2) ∧ w'.cell? ⟨w23.heap.size, 0, none⟩ = some (.bool sh12) ∧ w'.cell? ⟨w23.heap.size, 1, none⟩ = some (.slice ah12 nh12 ch12) ∧ w'.cell? ⟨w23.heap.size, 2, none⟩ = some (.slice Ah12 Nh12 Ch12) ∧ w'.cell? ⟨gb, 0, none⟩ = some (.int .i64 pe16.1) ∧ w'.cell? ⟨gb, 1, none⟩ = some (.int .i64 pe16.2)) (by kernel_rfl) 13 ?_
        refine AnyU.abs ?_
        intro w25 hW
        have hb : Below wc.heap.size wc w25 := by rw [hW]; exact bDrew _
        replace hs := bStep hs hb
        revert h21; revert h12; revert Blx; revert Blb; revert Bla; revert B0; refine mo hb ?_; intro B0 Bla Blb Blx h12 h21
        clear hb hW
        obtain ⟨FP, HP⟩ : ∃ FP : World → Prop, ∀ W, FP W ↔ (Below w.heap.size w W ∧ Bx W (w23.heap.size) 35 #[.bool sh12, .slice ah12 nh12 ch12, .slice Ah12 Nh12 Ch12] ∧ Bx W (ga) 31 #[.int .i64 pe13.1, .int .i64 pe13.2] ∧ Bx W (gb) 31 #[.int .i64 pe16.1, .int .i64 pe16.2] ∧ Bx W (gx) 35 #[.bool sh21, .slice ah21 nh21 ch21, .slice Ah21 Nh21 Ch21] ∧ PV W (.agg #[.bool sh12, .slice ah12 nh12 ch12, .slice Ah12 Nh12 Ch12]) (((c : Int) : Rat) / ((250 : Int) : Rat)) ∧ PV W (.agg #[.bool sh21, .slice ah21 nh21 ch21, .slice Ah21 Nh21 Ch21]) (X)) := ⟨_, fun _ => Iff.rfl⟩
        have HM : ∀ W W', FP W → Below W.heap.size W W' → FP W' := by intro W W' h hb; obtain ⟨hs, B0, Bla, Blb, Blx, h12, h21⟩ := (HP _).1 h; exact (HP _).2 ⟨bStep hs hb, B0.mono hb, Bla.mono hb, Blb.mono hb, Blx.mono hb, h12.mono hb, h21.mono hb⟩
        have HC : ∀ W, FP W → W.cell? ⟨ga, 0, none⟩ = some (.int .i64 pe13.1) ∧ W.cell? ⟨ga, 1, none⟩ = some (.int .i64 pe13.2) ∧ W.cell? ⟨w23.heap.size, 0, none⟩ = some (.bool sh12) ∧ W.cell? ⟨w23.heap.size, 1, none⟩ = some (.slice ah12 nh12 ch12) ∧ W.cell? ⟨w23.heap.size, 2, none⟩ = some (.slice Ah12 Nh12 Ch12) ∧ W.cell? ⟨gb, 0, none⟩ = some (.int .i64 pe16.1) ∧ W.cell? ⟨gb, 1, none⟩ = some (.int .i64 pe16.2) := by intro W h; obtain ⟨hs, B0, Bla, Blb, Blx, h12, h21⟩ := (HP _).1 h; exact ⟨Bla.at 0 rfl, Bla.at 1 rfl, B0.at 0 rfl, B0.at 1 rfl, B0.at 2 rfl, Blb.at 0 rfl, Blb.at 1 rfl⟩
        obtain ⟨NE, HN⟩ : ∃ NE : Nat → Prop, ∀ g, NE g ↔ (w23.heap.size ≠ g ∧ ga ≠ g ∧ gb ≠ g ∧ gx ≠ g) := ⟨_, fun _ => Iff.rfl⟩
        have HE : ∀ W, FP W → NE W.heap.size := by intro W h; obtain ⟨hs, B0, Bla, Blb, Blx, h12, h21⟩ := (HP _).1 h; exact (HN _).2 (⟨Nat.ne_of_lt B0.lt, Nat.ne_of_lt Bla.lt, Nat.ne_of_lt Blb.lt, Nat.ne_of_lt Blx.lt⟩)
        have HG : ∀ W W' g, FP W → Gr [g] W W' → KeepD W W' → w.heap.size ≤ g → NE g → FP W' := by intro W W' g h hG hk hg hn; obtain ⟨hs, B0, Bla, Blb, Blx, h12, h21⟩ := (HP _).1 h; obtain ⟨e_part, e_a, e_b, e_x⟩ := (HN g).1 hn; exact (HP _).2 ⟨hs.trans (hG.below1 hs.size hg), hG.bx B0 (notMem1 e_part), hG.bx Bla (notMem1 e_a), hG.bx Blb (notMem1 e_b), hG.bx Blx (notMem1 e_x), h12.keep hk, h21.keep hk⟩
        have F : FP w25 := (HP _).2 ⟨hs, B0, Bla, Blb, Blx, h12, h21⟩
        clear hs B0 Bla Blb Blx h12 h21
        have hH := HC _ F
        refine U_takeD (i := 0) (d := 176) (v := ?_) rfl rfl (by kernel_rfl) (by kernel_rfl) (by kernel_rfl) (by kernel_rfl) (fun _ _ _ h => h) (Or.inl ⟨by rfl, ?_⟩) hH ?_
        rotate_left
        ·intro w hSw
         try dsimp only at hSw
         go_simp
         try with_reducible rfl
        try simp only [LYp]
        try dsimp only [List.set]
        refine U_takeD (i := 1) (d := 177) (v := ?_) rfl rfl (by kernel_rfl) (by kernel_rfl) (by kernel_rfl) (by kernel_rfl) (fun _ _ _ h => h) (Or.inl ⟨by rfl, ?_⟩) hH ?_
        rotate_left
        ·intro w hSw
         try dsimp only at hSw
         go_simp
         try with_reducible rfl
        try simp only [LYp]
        try dsimp only [List.set]
        refine U_takeD (i := 3) (d := 179) (v := ?_) rfl rfl (by kernel_rfl) (by kernel_rfl) (by kernel_rfl) (by kernel_rfl) (fun _ _ _ h => h) (Or.inl ⟨by rfl, ?_⟩) hH ?_
        rotate_left
        ·intro w hSw
         try dsimp only at hSw
         go_simp
         try with_reducible rfl
        try simp only [LYp]
        try dsimp only [List.set]
        refine U_takeD (i := 4) (d := 180) (v := ?_) rfl rfl (by kernel_rfl) (by kernel_rfl) (by kernel_rfl) (by kernel_rfl) (fun _ _ _ h => h) (Or.inl ⟨by rfl, ?_⟩) hH ?_
        rotate_left
        ·intro w hSw
         try dsimp only at hSw
         go_simp
         try with_reducible rfl
        try simp only [LYp]
        try dsimp only [List.set]
        refine U_takeD (i := 5) (d := 181) (v := ?_) rfl rfl (by kernel_rfl) (by kernel_rfl) (by kernel_rfl) (by kernel_rfl) (fun _ _ _ h => h) (Or.inl ⟨by rfl, ?_⟩) hH ?_
        rotate_left
        ·intro w hSw
         try dsimp only at hSw
         go_simp
         try with_reducible rfl
        try simp only [LYp]
        try dsimp only [List.set]
        refine U_takeD (i := 6) (d := 182) (v := ?_) rfl rfl (by kernel_rfl) (by kernel_rfl) (by kernel_rfl) (by kernel_rfl) (fun _ _ _ h => h) (Or.inl ⟨by rfl, ?_⟩) hH ?_
        rotate_left
        ·intro w hSw
         try dsimp only at hSw
         go_simp
         try with_reducible rfl
        try simp only [LYp]
        try dsimp only [List.set]
        refine U_takeD (i := 7) (d := 183) (v := ?_) rfl rfl (by kernel_rfl) (by kernel_rfl) (by kernel_rfl) (by kernel_rfl) (fun _ _ _ h => h) (Or.inl ⟨by rfl, ?_⟩) hH ?_
        rotate_left
        ·intro w hSw
         try dsimp only at hSw
         go_simp
         try with_reducible rfl
        try simp only [LYp]
        try dsimp only [List.set]
        refine U_takeD (i := 8) (d := 184) (v := ?_) rfl rfl (by kernel_rfl) (by kernel_rfl) (by kernel_rfl) (by kernel_rfl) (fun _ _ _ h => h) (Or.inl ⟨by rfl, ?_⟩) hH ?_
        rotate_left
        ·intro w hSw
         try dsimp only at hSw
         go_simp
         try with_reducible rfl
        try simp only [LYp]
        try dsimp only [List.set]
        clear hH
        refine U_letters ?_
        intro X a0 HX HA
        have key9 : ∀ (W : World) (g_y : Nat) (uh22 : Value) (uh24 : Value) (uh25 : Value) (uh26 : Value), FP W → (w.heap.size ≤ g_y) → (NE g_y) → (Bx W g_y 35 #[.bool false, .slice none 0 0, .slice none 0 0]) → (PV W uh26 ((((pe13.2 : Int) : Rat)) + ((((c : Int) : Rat) / ((250 : Int) : Rat)) * (((pe16.2 - pe13.2 : Int) : Rat))))) → X 1 #[true, true, true, true, true, true, true, true, true, true, true, true, true, false] (((((a0.put (some 178) (uh22)).put (some 185) (uh24)).put (some 186) (uh25)).put (some 187) (uh26)).put (some 29) (.pointer (some ⟨g_y, 0, none⟩))) W := by as_aux_lemma =>
         intro W g_y uh22 uh24 uh25 uh26 F sz_y ne_y Bly h26
         rw [← HX.out, ← HA.out]
         try simp only [LYp]
         try dsimp only [List.set]
         obtain ⟨sh26, ah26, nh26, ch26, Ah26, Nh26, Ch26, rfl⟩ := h26.shape
         refine Bly.k3fl fun B8 B9 Ba fy Ly => ?_
         refine U_last (by kernel_rfl) rfl (by kernel_rfl) (fun K hK => ?_)
         go_simp
         refine hK.out _ _ ?_
         clear hK K
         intro w26 hW
         have hG : Gr [g_y] W w26 := by rw [hW]; exact (Gr.refl _ _).set.set.set
         have hk := hG.keep ⟨⟨_, Bly.ty, by decide⟩, True.intro⟩
         replace Bly : Bx w26 (g_y) 35 #[.bool sh26, .slice ah26 nh26 ch26, .slice Ah26 Nh26 Ch26] := by rw [hW]; exact Bly.set3
         replace F := HG _ _ _ F hG hk sz_y ne_y
         replace h26 := h26.keep hk
         clear hW hG hk
         obtain ⟨hs, B0, Bla, Blb, Blx, h12, h21⟩ := (HP _).1 F
         try simp only [LYp]
         try dsimp only [List.set]
         obtain ⟨e_part_y, e_a_y, e_b_y, e_x_y⟩ := (HN _).1 ne_y
         clear HX HA HM HP HC HG HN HE
         go_wp2_with fail
         go_meet
         exact ⟨g_y, _, _, _, _, _, _, _, rfl, (by first | exact sz_y | omega), (by omega), (by omega), (by omega), (by omega), Bly, hs, B0, Bla, Blb, Blx, h12, h21, h26⟩
        replace key9 := Lib.hid key9
        have key8 : ∀ (W : World) (g_y : Nat) (uh22 : Value) (uh24 : Value) (uh25 : Value), FP W → (w.heap.size ≤ g_y) → (NE g_y) → (Bx W g_y 35 #[.bool false, .slice none 0 0, .slice none 0 0]) → (PV W uh22 (((pe13.2 : Int) : Rat))) → (PV W uh25 ((((c : Int) : Rat) / ((250 : Int) : Rat)) * (((pe16.2 - pe13.2 : Int) : Rat)))) → X 2 #[true, true, true, true, true, true, true, true, true, true, true, false, true, false] ((((a0.put (some 178) (uh22)).put (some 185) (uh24)).put (some 186) (uh25)).put (some 29) (.pointer (some ⟨g_y, 0, none⟩))) W := by as_aux_lemma =>
         intro W g_y uh22 uh24 uh25 F sz_y ne_y Bly h22 h25
         rw [← HX.out, ← HA.out]
         try simp only [LYp]
         try dsimp only [List.set]
         refine U_on 11 fun K hK => ?_
         obtain ⟨hs, B0, Bla, Blb, Blx, h12, h21⟩ := (HP _).1 F
         go_simp
         (with_reducible refine (pAdd h22 h25 (SzQ.fit (szN (Bpe13.2.mono (by decide)))) (SzQ.fit (SzQ.mul HSF.out (szN ((Wn.sub Bpe16.2 Bpe13.2).mono (by decide)))))).mono ?_)
         rintro e W1 ⟨uh26, rfl, h26, hb⟩
         replace F := HM _ _ F hb
         revert h25; revert h22; revert Bly; refine mo hb ?_; intro Bly h22 h25
         clear hb hs B0 Bla Blb Blx h12 h21
         try go_wp2_with fail
         refine hK.out _ _ (HC _ F) (fun hH => ?_)
         clear hK K
         try simp only [LYp]
         try dsimp only [List.set]
         have hkey := key9.out W1 g_y uh22 uh24 uh25 uh26 F sz_y ne_y Bly h26
         rw [← HX.out, ← HA.out] at hkey
         try simp only [LYp] at hkey
         try dsimp only [List.set] at hkey
         exact U_at (by kernel_rfl) (by kernel_rfl) hkey
        replace key8 := Lib.hid key8
        have key7 : ∀ (W : World) (uh22 : Value) (uh24 : Value) (uh25 : Value) (uh26 : Value), FP W → (PV W uh26 ((((pe13.2 : Int) : Rat)) + ((((c : Int) : Rat) / ((250 : Int) : Rat)) * (((pe16.2 - pe13.2 : Int) : Rat))))) → X 2 #[true, true, true, true, true, true, true, true, true, true, true, true, false, false] ((((a0.put (some 178) (uh22)).put (some 185) (uh24)).put (some 186) (uh25)).put (some 187) (uh26)) W := by as_aux_lemma =>
         intro W uh22 uh24 uh25 uh26 F h26
         rw [← HX.out, ← HA.out]
         try simp only [LYp]
         try dsimp only [List.set]
         refine U_on 12 fun K hK => ?_
         go_simp
         refine alloc_letter ((HP _).1 F).1 (fun W1 hb Bly sz_y => ?_)
         have ne_y := HE _ F
         replace F := HM _ _ F hb
         replace h26 := h26.mono hb
         clear hb
         refine hK.out _ _ (HC _ F) (fun hH => ?_)
         clear hK K
         try simp only [LYp]
         try dsimp only [List.set]
         have hkey := key9.out W1 W.heap.size uh22 uh24 uh25 uh26 F sz_y ne_y Bly h26
         rw [← HX.out, ← HA.out] at hkey
         try simp only [LYp] at hkey
         try dsimp only [List.set] at hkey
         exact U_at (by kernel_rfl) (by kernel_rfl) hkey
        replace key7 := Lib.hid key7
        have key6 : ∀ (W : World) (g_y : Nat) (uh22 : Value) (uh24 : Value), FP W → (w.heap.size ≤ g_y) → (NE g_y) → (Bx W g_y 35 #[.bool false, .slice none 0 0, .slice none 0 0]) → (PV W uh22 (((pe13.2 : Int) : Rat))) → (PV W uh24 (((pe16.2 - pe13.2 : Int) : Rat))) → X 3 #[true, true, true, true, true, true, true, true, true, true, false, false, true, false] (((a0.put (some 178) (uh22)).put (some 185) (uh24)).put (some 29) (.pointer (some ⟨g_y, 0, none⟩))) W := by as_aux_lemma =>
         intro W g_y uh22 uh24 F sz_y ne_y Bly h22 h24
         rw [← HX.out, ← HA.out]
         try simp only [LYp]
         try dsimp only [List.set]
         refine U_on 10 fun K hK => ?_
         obtain ⟨hs, B0, Bla, Blb, Blx, h12, h21⟩ := (HP _).1 F
         go_simp
         (with_reducible refine (pMul h12 h24 (SzQ.fit HSF.out) (SzQ.fit (szN ((Wn.sub Bpe16.2 Bpe13.2).mono (by decide))))).mono ?_)
         rintro e W1 ⟨uh25, rfl, h25, hb⟩
         replace F := HM _ _ F hb
         revert h24; revert h22; revert Bly; refine mo hb ?_; intro Bly h22 h24
         clear hb hs B0 Bla Blb Blx h12 h21
         try go_wp2_with fail
         refine hK.out _ _ (HC _ F) (fun hH => ?_)
         clear hK K
         try simp only [LYp]
         try dsimp only [List.set]
         have hkey := key8.out W1 g_y uh22 uh24 uh25 F sz_y ne_y Bly h22 h25
         rw [← HX.out, ← HA.out] at hkey
         try simp only [LYp] at hkey
         try dsimp only [List.set] at hkey
         exact U_at (by kernel_rfl) (by kernel_rfl) hkey
        replace key6 := Lib.hid key6
        have key5 : ∀ (W : World) (uh22 : Value) (uh24 : Value) (uh25 : Value), FP W → (PV W uh22 (((pe13.2 : Int) : Rat))) → (PV W uh25 ((((c : Int) : Rat) / ((250 : Int) : Rat)) * (((pe16.2 - pe13.2 : Int) : Rat)))) → X 3 #[true, true, true, true, true, true, true, true, true, true, true, false, false, false] (((a0.put (some 178) (uh22)).put (some 185) (uh24)).put (some 186) (uh25)) W := by as_aux_lemma =>
         intro W uh22 uh24 uh25 F h22 h25
         rw [← HX.out, ← HA.out]
         try simp only [LYp]
         try dsimp only [List.set]
         refine U_two (i := 11) (j := 12) (by kernel_rfl) rfl rfl  (fun K hK => ?_) (fun K hK => ?_)
         ·obtain ⟨hs, B0, Bla, Blb, Blx, h12, h21⟩ := (HP _).1 F
          go_simp
          (with_reducible refine (pAdd h22 h25 (SzQ.fit (szN (Bpe13.2.mono (by decide)))) (SzQ.fit (SzQ.mul HSF.out (szN ((Wn.sub Bpe16.2 Bpe13.2).mono (by decide)))))).mono ?_)
          rintro e W1 ⟨uh26, rfl, h26, hb⟩
          replace F := HM _ _ F hb
          revert h25; revert h22; refine mo hb ?_; intro h22 h25
          clear hb hs B0 Bla Blb Blx h12 h21
          try go_wp2_with fail
          refine hK.out _ _ (HC _ F) (fun hH => ?_)
          clear hK K
          try simp only [LYp]
          try dsimp only [List.set]
          have hkey := key7.out W1 uh22 uh24 uh25 uh26 F h26
          rw [← HX.out, ← HA.out] at hkey
          try simp only [LYp] at hkey
          try dsimp only [List.set] at hkey
          exact U_at (by kernel_rfl) (by kernel_rfl) hkey
         go_simp
         refine alloc_letter ((HP _).1 F).1 (fun W1 hb Bly sz_y => ?_)
         have ne_y := HE _ F
         replace F := HM _ _ F hb
         revert h25; revert h22; refine mo hb ?_; intro h22 h25
         clear hb
         refine hK.out _ _ (HC _ F) (fun hH => ?_)
         clear hK K
         try simp only [LYp]
         try dsimp only [List.set]
         have hkey := key8.out W1 W.heap.size uh22 uh24 uh25 F sz_y ne_y Bly h22 h25
         rw [← HX.out, ← HA.out] at hkey
         try simp only [LYp] at hkey
         try dsimp only [List.set] at hkey
         exact U_at (by kernel_rfl) (by kernel_rfl) hkey
        replace key5 := Lib.hid key5
        have key4 : ∀ (W : World) (g_y : Nat) (uh22 : Value), FP W → (w.heap.size ≤ g_y) → (NE g_y) → (Bx W g_y 35 #[.bool false, .slice none 0 0, .slice none 0 0]) → (PV W uh22 (((pe13.2 : Int) : Rat))) → X 4 #[true, true, true, true, true, true, true, true, true, false, false, false, true, false] ((a0.put (some 178) (uh22)).put (some 29) (.pointer (some ⟨g_y, 0, none⟩))) W := by as_aux_lemma =>
         intro W g_y uh22 F sz_y ne_y Bly h22
         rw [← HX.out, ← HA.out]
         try simp only [LYp]
         try dsimp only [List.set]
         refine U_on 9 fun K hK => ?_
         obtain ⟨hs, B0, Bla, Blb, Blx, h12, h21⟩ := (HP _).1 F
         go_simp
         (with_reducible refine (l2_whole (pe16.2 - pe13.2) _ ((Wn.sub Bpe16.2 Bpe13.2).mono (by decide))).mono ?_)
         rintro e W1 ⟨uh24, rfl, h24, hb⟩
         replace F := HM _ _ F hb
         revert h22; revert Bly; refine mo hb ?_; intro Bly h22
         clear hb hs B0 Bla Blb Blx h12 h21
         try go_wp2_with fail
         refine hK.out _ _ (HC _ F) (fun hH => ?_)
         clear hK K
         try simp only [LYp]
         try dsimp only [List.set]
         have hkey := key6.out W1 g_y uh22 uh24 F sz_y ne_y Bly h22 h24
         rw [← HX.out, ← HA.out] at hkey
         try simp only [LYp] at hkey
         try dsimp only [List.set] at hkey
         exact U_at (by kernel_rfl) (by kernel_rfl) hkey
        replace key4 := Lib.hid key4
        have key3 : ∀ (W : World) (uh22 : Value) (uh24 : Value), FP W → (PV W uh22 (((pe13.2 : Int) : Rat))) → (PV W uh24 (((pe16.2 - pe13.2 : Int) : Rat))) → X 4 #[true, true, true, true, true, true, true, true, true, true, false, false, false, false] ((a0.put (some 178) (uh22)).put (some 185) (uh24)) W := by as_aux_lemma =>
         intro W uh22 uh24 F h22 h24
         rw [← HX.out, ← HA.out]
         try simp only [LYp]
         try dsimp only [List.set]
         refine U_two (i := 10) (j := 12) (by kernel_rfl) rfl rfl  (fun K hK => ?_) (fun K hK => ?_)
         ·obtain ⟨hs, B0, Bla, Blb, Blx, h12, h21⟩ := (HP _).1 F
          go_simp
          (with_reducible refine (pMul h12 h24 (SzQ.fit HSF.out) (SzQ.fit (szN ((Wn.sub Bpe16.2 Bpe13.2).mono (by decide))))).mono ?_)
          rintro e W1 ⟨uh25, rfl, h25, hb⟩
          replace F := HM _ _ F hb
          revert h24; revert h22; refine mo hb ?_; intro h22 h24
          clear hb hs B0 Bla Blb Blx h12 h21
          try go_wp2_with fail
          refine hK.out _ _ (HC _ F) (fun hH => ?_)
          clear hK K
          try simp only [LYp]
          try dsimp only [List.set]
          have hkey := key5.out W1 uh22 uh24 uh25 F h22 h25
          rw [← HX.out, ← HA.out] at hkey
          try simp only [LYp] at hkey
          try dsimp only [List.set] at hkey
          exact U_at (by kernel_rfl) (by kernel_rfl) hkey
         go_simp
         refine alloc_letter ((HP _).1 F).1 (fun W1 hb Bly sz_y => ?_)
         have ne_y := HE _ F
         replace F := HM _ _ F hb
         revert h24; revert h22; refine mo hb ?_; intro h22 h24
         clear hb
         refine hK.out _ _ (HC _ F) (fun hH => ?_)
         clear hK K
         try simp only [LYp]
         try dsimp only [List.set]
         have hkey := key6.out W1 W.heap.size uh22 uh24 F sz_y ne_y Bly h22 h24
         rw [← HX.out, ← HA.out] at hkey
         try simp only [LYp] at hkey
         try dsimp only [List.set] at hkey
         exact U_at (by kernel_rfl) (by kernel_rfl) hkey
        replace key3 := Lib.hid key3
        have key2 : ∀ (W : World) (g_y : Nat), FP W → (w.heap.size ≤ g_y) → (NE g_y) → (Bx W g_y 35 #[.bool false, .slice none 0 0, .slice none 0 0]) → X 5 #[true, true, false, true, true, true, true, true, true, false, false, false, true, false] (a0.put (some 29) (.pointer (some ⟨g_y, 0, none⟩))) W := by as_aux_lemma =>
         intro W g_y F sz_y ne_y Bly
         rw [← HX.out, ← HA.out]
         try simp only [LYp]
         try dsimp only [List.set]
         refine U_on 2 fun K hK => ?_
         obtain ⟨hs, B0, Bla, Blb, Blx, h12, h21⟩ := (HP _).1 F
         go_simp
         (with_reducible refine (l2_whole pe13.2 _ (Bpe13.2.mono (by decide))).mono ?_)
         rintro e W1 ⟨uh22, rfl, h22, hb⟩
         replace F := HM _ _ F hb
         replace Bly := Bly.mono hb
         clear hb hs B0 Bla Blb Blx h12 h21
         try go_wp2_with fail
         refine hK.out _ _ (HC _ F) (fun hH => ?_)
         clear hK K
         try simp only [LYp]
         try dsimp only [List.set]
         have hkey := key4.out W1 g_y uh22 F sz_y ne_y Bly h22
         rw [← HX.out, ← HA.out] at hkey
         try simp only [LYp] at hkey
         try dsimp only [List.set] at hkey
         exact U_at (by kernel_rfl) (by kernel_rfl) hkey
        replace key2 := Lib.hid key2
        have key1 : ∀ (W : World) (uh22 : Value), FP W → (PV W uh22 (((pe13.2 : Int) : Rat))) → X 5 #[true, true, true, true, true, true, true, true, true, false, false, false, false, false] (a0.put (some 178) (uh22)) W := by as_aux_lemma =>
         intro W uh22 F h22
         rw [← HX.out, ← HA.out]
         try simp only [LYp]
         try dsimp only [List.set]
         refine U_two (i := 9) (j := 12) (by kernel_rfl) rfl rfl  (fun K hK => ?_) (fun K hK => ?_)
         ·obtain ⟨hs, B0, Bla, Blb, Blx, h12, h21⟩ := (HP _).1 F
          go_simp
          (with_reducible refine (l2_whole (pe16.2 - pe13.2) _ ((Wn.sub Bpe16.2 Bpe13.2).mono (by decide))).mono ?_)
          rintro e W1 ⟨uh24, rfl, h24, hb⟩
          replace F := HM _ _ F hb
          replace h22 := h22.mono hb
          clear hb hs B0 Bla Blb Blx h12 h21
          try go_wp2_with fail
          refine hK.out _ _ (HC _ F) (fun hH => ?_)
          clear hK K
          try simp only [LYp]
          try dsimp only [List.set]
          have hkey := key3.out W1 uh22 uh24 F h22 h24
          rw [← HX.out, ← HA.out] at hkey
          try simp only [LYp] at hkey
          try dsimp only [List.set] at hkey
          exact U_at (by kernel_rfl) (by kernel_rfl) hkey
         go_simp
         refine alloc_letter ((HP _).1 F).1 (fun W1 hb Bly sz_y => ?_)
         have ne_y := HE _ F
         replace F := HM _ _ F hb
         replace h22 := h22.mono hb
         clear hb
         refine hK.out _ _ (HC _ F) (fun hH => ?_)
         clear hK K
         try simp only [LYp]
         try dsimp only [List.set]
         have hkey := key4.out W1 W.heap.size uh22 F sz_y ne_y Bly h22
         rw [← HX.out, ← HA.out] at hkey
         try simp only [LYp] at hkey
         try dsimp only [List.set] at hkey
         exact U_at (by kernel_rfl) (by kernel_rfl) hkey
        replace key1 := Lib.hid key1
        have key0 : ∀ (W : World), FP W → X 6 #[true, true, false, true, true, true, true, true, true, false, false, false, false, false] a0 W := by as_aux_lemma =>
         intro W F
         rw [← HX.out, ← HA.out]
         try simp only [LYp]
         try dsimp only [List.set]
         refine U_two (i := 2) (j := 12) (by kernel_rfl) rfl rfl  (fun K hK => ?_) (fun K hK => ?_)
         ·obtain ⟨hs, B0, Bla, Blb, Blx, h12, h21⟩ := (HP _).1 F
          go_simp
          (with_reducible refine (l2_whole pe13.2 _ (Bpe13.2.mono (by decide))).mono ?_)
          rintro e W1 ⟨uh22, rfl, h22, hb⟩
          replace F := HM _ _ F hb
          clear hb hs B0 Bla Blb Blx h12 h21
          try go_wp2_with fail
          refine hK.out _ _ (HC _ F) (fun hH => ?_)
          clear hK K
          try simp only [LYp]
          try dsimp only [List.set]
          have hkey := key1.out W1 uh22 F h22
          rw [← HX.out, ← HA.out] at hkey
          try simp only [LYp] at hkey
          try dsimp only [List.set] at hkey
          exact U_at (by kernel_rfl) (by kernel_rfl) hkey
         go_simp
         refine alloc_letter ((HP _).1 F).1 (fun W1 hb Bly sz_y => ?_)
         have ne_y := HE _ F
         replace F := HM _ _ F hb
         clear hb
         refine hK.out _ _ (HC _ F) (fun hH => ?_)
         clear hK K
         try simp only [LYp]
         try dsimp only [List.set]
         have hkey := key2.out W1 W.heap.size F sz_y ne_y Bly
         rw [← HX.out, ← HA.out] at hkey
         try simp only [LYp] at hkey
         try dsimp only [List.set] at hkey
         exact U_at (by kernel_rfl) (by kernel_rfl) hkey
        replace key0 := Lib.hid key0
        rw [← HX.out]
        have hkey := key0.out w25 F
        rw [← HX.out] at hkey
        exact U_at (by kernel_rfl) (by kernel_rfl) hkey
       case rest =>
        clear hs B0 Bla Blb Blx h12 h21
        obtain ⟨gy, sh26, ah26, nh26, ch26, Ah26, Nh26, Ch26, rfl, hg_y, ng_y_part, ng_y_a, ng_y_b, ng_y_x, Bly, hs, B0, Bla, Blb, Blx, h12, h21, h26⟩ := hcut
        obtain ⟨Y, KY⟩ : ∃ z : Rat, z = (((pe13.2 : Int) : Rat)) + ((((c : Int) : Rat) / ((250 : Int) : Rat)) * (((pe16.2 - pe13.2 : Int) : Rat))) := ⟨_, rfl⟩
        have SY := Lib.hid (show SzQ 100 Y from by rw [KY]; exact SzQ.mono (SzQ.add (szN (Bpe13.2.mono (by decide))) (SzQ.mul HSF.out (szN ((Wn.sub Bpe16.2 Bpe13.2).mono (by decide))))) (by decide))
        rw [← KY] at h26
        replace KY := Lib.hid KY
        go_wp2
        go_loopw [190] (fun s190 wq => ∃ b : Nat, b ≤ obs.length ∧ s190 = .int .i64 b ∧ Below w.heap.size w wq ∧ Bx wq (w23.heap.size) 35 #[.bool sh12, .slice ah12 nh12 ch12, .slice Ah12 Nh12 Ch12] ∧ Bx wq (ga) 31 #[.int .i64 pe13.1, .int .i64 pe13.2] ∧ Bx wq (gb) 31 #[.int .i64 pe16.1, .int .i64 pe16.2] ∧ Bx wq (gx) 35 #[.bool sh21, .slice ah21 nh21 ch21, .slice Ah21 Nh21 Ch21] ∧ Bx wq (gy) 35 #[.bool sh26, .slice ah26 nh26 ch26, .slice Ah26 Nh26 Ch26] ∧ PV wq (.agg #[.bool sh12, .slice ah12 nh12 ch12, .slice Ah12 Nh12 Ch12]) (((c : Int) : Rat) / ((250 : Int) : Rat)) ∧ PV wq (.agg #[.bool sh21, .slice ah21 nh21 ch21, .slice Ah21 Nh21 Ch21]) (X) ∧ PV wq (.agg #[.bool sh26, .slice ah26 nh26 ch26, .slice Ah26 Nh26 Ch26]) (Y)) (fun s190 _ => obs.length - (intOf s190).toNat)
        case atStart => exact ⟨0, Nat.zero_le _, rfl, hs, B0, Bla, Blb, Blx, Bly, h12, h21, h26⟩
        case round => as_aux_lemma =>
         clear B0 Bla Blb Blx Bly h12 h21 h26 hs
         obtain ⟨b, k_le, rfl, hs, B0, Bla, Blb, Blx, Bly, h12, h21, h26⟩ := hrel
         obtain ⟨wl1, hwo⟩ : ∃ x, x = wr := ⟨_, rfl⟩
         subst hwo
         by_cases q27 : b < obs.length
         ·have q27d : ((b : Int) < (obs.length : Int)) = True := eq_true (by omega)
          obtain ⟨ob, oo, oc, hv_, -, -⟩ := rowI_open HO.out (by omega)
          obtain ⟨rfl, rfl⟩ := sliceE hv_
          clear hv_
          obtain ⟨Bj, Bk, Bl, Bm, le28⟩ := rowIE_at (RowsI.mono IE.kept HO.out hs) (show b < obs.length by omega)
          obtain ⟨pe28, Hpe28⟩ : ∃ z : Pt, z = (bxZ obs b).1 := ⟨_, rfl⟩
          obtain ⟨qe28, Hqe28⟩ : ∃ z : Pt, z = (bxZ obs b).2 := ⟨_, rfl⟩
          rw [show (obs.getD b ((0, 0), (0, 0))).1.1 = pe28.1 from by rw [Hpe28]; rfl] at Bj
          rw [show (obs.getD b ((0, 0), (0, 0))).1.2 = pe28.2 from by rw [Hpe28]; rfl] at Bk
          rw [show (obs.getD b ((0, 0), (0, 0))).2.1 = qe28.1 from by rw [Hqe28]; rfl] at Bl
          rw [show (obs.getD b ((0, 0), (0, 0))).2.2 = qe28.2 from by rw [Hqe28]; rfl] at Bm
          replace Hpe28 := Lib.hid Hpe28
          replace Hqe28 := Lib.hid Hqe28
          have Bpe28 : WP 1048576 pe28 := by rw [Hpe28.out]; exact (HBX.out _ (bxZ_mem (by omega))).1
          have Bqe28 : WP 1048576 qe28 := by rw [Hqe28.out]; exact (HBX.out _ (bxZ_mem (by omega))).2
          go_upto_region 26 with fail
          clear le28 Bj Bk Bl Bm
          refine Code.abs ?_
          intro w45 hW
          have hG : Gr [] wl1 w45 := by rw [hW]; exact (Gr.refl _ _).alloc
          have sz_w45 := hs.size
          have npart_w45 := B0.lt
          have na_w45 := Bla.lt
          have nb_w45 := Blb.lt
          have nx_w45 := Blx.lt
          have ny_w45 := Bly.lt
          have Blo : Bx w45 (wl1.heap.size) 41 #[.int .i64 pe28.1, .int .i64 pe28.2, .int .i64 qe28.1, .int .i64 qe28.2] := by rw [hW]; exact (Bx.new0 _ _ _)
          replace hs := hs.trans (hG.below0 hs.size)
          revert h26; revert h21; revert h12; revert Bly; revert Blx; revert Blb; revert Bla; revert B0; refine g0 hG ?_; intro B0 Bla Blb Blx Bly h12 h21 h26
          clear hW hG
          have hz_w45 := Blo.lt
          have AX29 : IntKind.i64.wrap (pe28.1 - u) = pe28.1 - u := Wn.wsub Bpe28.1 WU.out (by decide)
          obtain ⟨sg31, Hsg31⟩ : ∃ s : Int, s = sgQ (X - (((pe28.1 - u : Int) : Rat))) := ⟨_, rfl⟩
          replace Hsg31 := Lib.hid Hsg31
          by_cases q32 : ((pe28.1 - u : Int) : Rat) < X
          ·have q32_ : 0 < sg31 := by have h := sq_gt X (((pe28.1 - u : Int) : Rat)); rw [← Hsg31.out] at h; exact h.2 q32
           have q32H := Lib.hid q32
           clear q32
           have q32d : decide (0 < sg31) = true := decide_eq_true q32_
           have AX33 : IntKind.i64.wrap (qe28.1 + u) = qe28.1 + u := Wn.wadd Bqe28.1 WU.out (by decide)
           obtain ⟨sg35, Hsg35⟩ : ∃ s : Int, s = sgQ (X - (((qe28.1 + u : Int) : Rat))) := ⟨_, rfl⟩
           replace Hsg35 := Lib.hid Hsg35
           by_cases q36 : X < ((qe28.1 + u : Int) : Rat)
           ·have q36_ : sg35 < 0 := by have h := sq_lt X (((qe28.1 + u : Int) : Rat)); rw [← Hsg35.out] at h; exact h.2 q36
            have q36H := Lib.hid q36
            clear q36
            have q36d : decide (sg35 < 0) = true := decide_eq_true q36_
            have AX37 : IntKind.i64.wrap (pe28.2 - v) = pe28.2 - v := Wn.wsub Bpe28.2 WV.out (by decide)
            obtain ⟨sg39, Hsg39⟩ : ∃ s : Int, s = sgQ (Y - (((pe28.2 - v : Int) : Rat))) := ⟨_, rfl⟩
            replace Hsg39 := Lib.hid Hsg39
            by_cases q40 : ((pe28.2 - v : Int) : Rat) < Y
            ·have q40_ : 0 < sg39 := by have h := sq_gt Y (((pe28.2 - v : Int) : Rat)); rw [← Hsg39.out] at h; exact h.2 q40
             have q40H := Lib.hid q40
             clear q40
             have q40d : decide (0 < sg39) = true := decide_eq_true q40_
             have AX41 : IntKind.i64.wrap (qe28.2 + v) = qe28.2 + v := Wn.wadd Bqe28.2 WV.out (by decide)
             obtain ⟨sg43, Hsg43⟩ : ∃ s : Int, s = sgQ (Y - (((qe28.2 + v : Int) : Rat))) := ⟨_, rfl⟩
             replace Hsg43 := Lib.hid Hsg43
             refine U_region (S := fun w' => w'.cell? ⟨gx, 0, none⟩ = some (.bool sh21) ∧ w'.cell? ⟨gx, 1, none⟩ = some (.slice ah21 nh21 ch21) ∧ w'.cell? ⟨gx, 2, none⟩ = some (.slice Ah21 Nh21 Ch21) ∧ w'.cell? ⟨wl1.heap.size, 0, none⟩ = some (.int .i64 pe28.1) ∧ w'.cell? ⟨wl1.heap.size, 1, none⟩ = some (.int .i64 pe28.2) ∧ w'.cell? ⟨wl1.heap.size, 2, none⟩ = some (.int .i64 qe28.1) ∧ w'.cell? ⟨wl1.heap.size, 3, none⟩ = some (.int .i64 qe28.2) ∧ w'.cell? ⟨gy, 0, none⟩ = some (.bool sh26) ∧ w'.cell? ⟨gy, 1, none⟩ = some (.slice ah26 nh26 ch26) ∧ w'.cell? ⟨gy, 2, none⟩ = some (.slice Ah26 Nh26 Ch26)) (by kernel_rfl) 46 ?_
             refine AnyU.abs ?_
             intro w46 hW
             have hb : Below w45.heap.size w45 w46 := by rw [hW]; exact bDrew _
             replace hs := bStep hs hb
             revert h26; revert h21; revert h12; revert Blo; revert Bly; revert Blx; revert Blb; revert Bla; revert B0; refine mo hb ?_; intro B0 Bla Blb Blx Bly Blo h12 h21 h26
             clear hb hW
             refine Blx.k3 fun B1 B2 B3 => ?_
             refine Blo.k4 fun B4 B5 B6 B7 => ?_
             refine Bly.k3 fun B8 B9 Ba => ?_
             have hH := (show w46.cell? ⟨gx, 0, none⟩ = some (.bool sh21) ∧ w46.cell? ⟨gx, 1, none⟩ = some (.slice ah21 nh21 ch21) ∧ w46.cell? ⟨gx, 2, none⟩ = some (.slice Ah21 Nh21 Ch21) ∧ w46.cell? ⟨wl1.heap.size, 0, none⟩ = some (.int .i64 pe28.1) ∧ w46.cell? ⟨wl1.heap.size, 1, none⟩ = some (.int .i64 pe28.2) ∧ w46.cell? ⟨wl1.heap.size, 2, none⟩ = some (.int .i64 qe28.1) ∧ w46.cell? ⟨wl1.heap.size, 3, none⟩ = some (.int .i64 qe28.2) ∧ w46.cell? ⟨gy, 0, none⟩ = some (.bool sh26) ∧ w46.cell? ⟨gy, 1, none⟩ = some (.slice ah26 nh26 ch26) ∧ w46.cell? ⟨gy, 2, none⟩ = some (.slice Ah26 Nh26 Ch26) from ⟨B1, B2, B3, B4, B5, B6, B7, B8, B9, Ba⟩)
             refine U_tq 0 194 hH ?_
             try simp only [LYp]
             try dsimp only [List.set]
             refine U_tq 1 195 hH ?_
             try simp only [LYp]
             try dsimp only [List.set]
             refine U_tq 2 196 hH ?_
             try simp only [LYp]
             try dsimp only [List.set]
             refine U_tq 3 197 hH ?_
             try simp only [LYp]
             try dsimp only [List.set]
             refine U_tq 4 198 hH ?_
             try simp only [LYp]
             try dsimp only [List.set]
             refine U_tq 5 199 hH ?_
             try simp only [LYp]
             try dsimp only [List.set]
             refine U_tq 6 200 hH ?_
             try simp only [LYp]
             try dsimp only [List.set]
             clear hH
             refine U_on 7 fun K hK => ?_
             go_simp
             (with_reducible refine (l2_whole (pe28.1 - u) _ ((Wn.sub Bpe28.1 WU.out).mono (by decide))).mono ?_)
             rintro e w47 ⟨_, rfl, h30, hb⟩
             obtain ⟨sh30, ah30, nh30, ch30, Ah30, Nh30, Ch30, rfl⟩ := h30.shape
             replace hs := bStep hs hb
             revert h26; revert h21; revert h12; revert Blo; revert Bly; revert Blx; revert Blb; revert Bla; revert B0; refine mo hb ?_; intro B0 Bla Blb Blx Bly Blo h12 h21 h26
             replace B1 := cellK B1 hb
             replace B2 := cellK B2 hb
             replace B3 := cellK B3 hb
             replace B4 := cellK B4 hb
             replace B5 := cellK B5 hb
             replace B6 := cellK B6 hb
             replace B7 := cellK B7 hb
             replace B8 := cellK B8 hb
             replace B9 := cellK B9 hb
             replace Ba := cellK Ba hb
             clear hb
             try go_wp2_with fail
             refine hK.out _ _ ⟨B1, B2, B3, B4, B5, B6, B7, B8, B9, Ba⟩ (fun hH => ?_)
             clear hK K
             try simp only [LYp]
             try dsimp only [List.set]
             clear hH
             refine U_on 8 fun K hK => ?_
             go_simp
             (with_reducible refine (pCmp h21 h30 (SzQ.fit SX.out) (SzQ.fit (szN ((Wn.sub Bpe28.1 WU.out).mono (by decide))))).mono ?_)
             rintro e w48 ⟨rfl, hb⟩
             replace hs := bStep hs hb
             revert h30; revert h26; revert h21; revert h12; revert Blo; revert Bly; revert Blx; revert Blb; revert Bla; revert B0; refine mo hb ?_; intro B0 Bla Blb Blx Bly Blo h12 h21 h26 h30
             replace B1 := cellK B1 hb
             replace B2 := cellK B2 hb
             replace B3 := cellK B3 hb
             replace B4 := cellK B4 hb
             replace B5 := cellK B5 hb
             replace B6 := cellK B6 hb
             replace B7 := cellK B7 hb
             replace B8 := cellK B8 hb
             replace B9 := cellK B9 hb
             replace Ba := cellK Ba hb
             clear hb
             rw [← Hsg31.out]
             try go_wp2_with fail
             refine hK.out _ _ ⟨B1, B2, B3, B4, B5, B6, B7, B8, B9, Ba⟩ (fun hH => ?_)
             clear hK K
             try simp only [LYp]
             try dsimp only [List.set]
             refine U_tq 9 203 hH ?_
             try simp only [LYp]
             try dsimp only [List.set]
             refine U_tq 10 204 hH ?_
             try simp only [LYp]
             try dsimp only [List.set]
             refine U_tq 11 205 hH ?_
             try simp only [LYp]
             try dsimp only [List.set]
             refine U_tq 12 206 hH ?_
             try simp only [LYp]
             try dsimp only [List.set]
             refine U_tq 13 207 hH ?_
             try simp only [LYp]
             try dsimp only [List.set]
             refine U_tq 14 208 hH ?_
             try simp only [LYp]
             try dsimp only [List.set]
             refine U_tq 15 209 hH ?_
             try simp only [LYp]
             try dsimp only [List.set]
             refine U_tq 16 210 hH ?_
             try simp only [LYp]
             try dsimp only [List.set]
             refine U_tq 17 211 hH ?_
             try simp only [LYp]
             try dsimp only [List.set]
             clear hH
             refine U_on 18 fun K hK => ?_
             go_simp
             (with_reducible refine (l2_whole (qe28.1 + u) _ ((Wn.add Bqe28.1 WU.out).mono (by decide))).mono ?_)
             rintro e w49 ⟨_, rfl, h34, hb⟩
             obtain ⟨sh34, ah34, nh34, ch34, Ah34, Nh34, Ch34, rfl⟩ := h34.shape
             replace hs := bStep hs hb
             revert h30; revert h26; revert h21; revert h12; revert Blo; revert Bly; revert Blx; revert Blb; revert Bla; revert B0; refine mo hb ?_; intro B0 Bla Blb Blx Bly Blo h12 h21 h26 h30
             replace B1 := cellK B1 hb
             replace B2 := cellK B2 hb
             replace B3 := cellK B3 hb
             replace B4 := cellK B4 hb
             replace B5 := cellK B5 hb
             replace B6 := cellK B6 hb
             replace B7 := cellK B7 hb
             replace B8 := cellK B8 hb
             replace B9 := cellK B9 hb
             replace Ba := cellK Ba hb
             clear hb
             try go_wp2_with fail
             refine hK.out _ _ ⟨B1, B2, B3, B4, B5, B6, B7, B8, B9, Ba⟩ (fun hH => ?_)
             clear hK K
             try simp only [LYp]
             try dsimp only [List.set]
             clear hH
             refine U_on 19 fun K hK => ?_
             go_simp
             (with_reducible refine (pCmp h21 h34 (SzQ.fit SX.out) (SzQ.fit (szN ((Wn.add Bqe28.1 WU.out).mono (by decide))))).mono ?_)
             rintro e w50 ⟨rfl, hb⟩
             replace hs := bStep hs hb
             revert h34; revert h30; revert h26; revert h21; revert h12; revert Blo; revert Bly; revert Blx; revert Blb; revert Bla; revert B0; refine mo hb ?_; intro B0 Bla Blb Blx Bly Blo h12 h21 h26 h30 h34
             replace B1 := cellK B1 hb
             replace B2 := cellK B2 hb
             replace B3 := cellK B3 hb
             replace B4 := cellK B4 hb
             replace B5 := cellK B5 hb
             replace B6 := cellK B6 hb
             replace B7 := cellK B7 hb
             replace B8 := cellK B8 hb
             replace B9 := cellK B9 hb
             replace Ba := cellK Ba hb
             clear hb
             rw [← Hsg35.out]
             try go_wp2_with fail
             refine hK.out _ _ ⟨B1, B2, B3, B4, B5, B6, B7, B8, B9, Ba⟩ (fun hH => ?_)
             clear hK K
             try simp only [LYp]
             try dsimp only [List.set]
             refine U_tq 20 214 hH ?_
             try simp only [LYp]
             try dsimp only [List.set]
             refine U_tq 21 215 hH ?_
             try simp only [LYp]
             try dsimp only [List.set]
             refine U_tq 22 216 hH ?_
             try simp only [LYp]
             try dsimp only [List.set]
             refine U_tq 23 217 hH ?_
             try simp only [LYp]
             try dsimp only [List.set]
             refine U_tq 24 218 hH ?_
             try simp only [LYp]
             try dsimp only [List.set]
             refine U_tq 25 219 hH ?_
             try simp only [LYp]
             try dsimp only [List.set]
             refine U_tq 26 220 hH ?_
             try simp only [LYp]
             try dsimp only [List.set]
             refine U_tq 27 221 hH ?_
             try simp only [LYp]
             try dsimp only [List.set]
             refine U_tq 28 222 hH ?_
             try simp only [LYp]
             try dsimp only [List.set]
             refine U_tq 29 223 hH ?_
             try simp only [LYp]
             try dsimp only [List.set]
             clear hH
             refine U_on 30 fun K hK => ?_
             go_simp
             (with_reducible refine (l2_whole (pe28.2 - v) _ ((Wn.sub Bpe28.2 WV.out).mono (by decide))).mono ?_)
             rintro e w51 ⟨_, rfl, h38, hb⟩
             obtain ⟨sh38, ah38, nh38, ch38, Ah38, Nh38, Ch38, rfl⟩ := h38.shape
             replace hs := bStep hs hb
             revert h34; revert h30; revert h26; revert h21; revert h12; revert Blo; revert Bly; revert Blx; revert Blb; revert Bla; revert B0; refine mo hb ?_; intro B0 Bla Blb Blx Bly Blo h12 h21 h26 h30 h34
             replace B1 := cellK B1 hb
             replace B2 := cellK B2 hb
             replace B3 := cellK B3 hb
             replace B4 := cellK B4 hb
             replace B5 := cellK B5 hb
             replace B6 := cellK B6 hb
             replace B7 := cellK B7 hb
             replace B8 := cellK B8 hb
             replace B9 := cellK B9 hb
             replace Ba := cellK Ba hb
             clear hb
             try go_wp2_with fail
             refine hK.out _ _ ⟨B1, B2, B3, B4, B5, B6, B7, B8, B9, Ba⟩ (fun hH => ?_)
             clear hK K
             try simp only [LYp]
             try dsimp only [List.set]
             clear hH
             refine U_on 31 fun K hK => ?_
             go_simp
             (with_reducible refine (pCmp h26 h38 (SzQ.fit SY.out) (SzQ.fit (szN ((Wn.sub Bpe28.2 WV.out).mono (by decide))))).mono ?_)
             rintro e w52 ⟨rfl, hb⟩
             replace hs := bStep hs hb
             revert h38; revert h34; revert h30; revert h26; revert h21; revert h12; revert Blo; revert Bly; revert Blx; revert Blb; revert Bla; revert B0; refine mo hb ?_; intro B0 Bla Blb Blx Bly Blo h12 h21 h26 h30 h34 h38
             replace B1 := cellK B1 hb
             replace B2 := cellK B2 hb
             replace B3 := cellK B3 hb
             replace B4 := cellK B4 hb
             replace B5 := cellK B5 hb
             replace B6 := cellK B6 hb
             replace B7 := cellK B7 hb
             replace B8 := cellK B8 hb
             replace B9 := cellK B9 hb
             replace Ba := cellK Ba hb
             clear hb
             rw [← Hsg39.out]
             try go_wp2_with fail
             refine hK.out _ _ ⟨B1, B2, B3, B4, B5, B6, B7, B8, B9, Ba⟩ (fun hH => ?_)
             clear hK K
             try simp only [LYp]
             try dsimp only [List.set]
             refine U_tq 32 226 hH ?_
             try simp only [LYp]
             try dsimp only [List.set]
             refine U_tq 33 227 hH ?_
             try simp only [LYp]
             try dsimp only [List.set]
             refine U_tq 34 228 hH ?_
             try simp only [LYp]
             try dsimp only [List.set]
             refine U_tq 35 229 hH ?_
             try simp only [LYp]
             try dsimp only [List.set]
             refine U_tq 36 230 hH ?_
             try simp only [LYp]
             try dsimp only [List.set]
             refine U_tq 37 231 hH ?_
             try simp only [LYp]
             try dsimp only [List.set]
             refine U_tq 38 232 hH ?_
             try simp only [LYp]
             try dsimp only [List.set]
             refine U_tq 39 233 hH ?_
             try simp only [LYp]
             try dsimp only [List.set]
             refine U_tq 40 234 hH ?_
             try simp only [LYp]
             try dsimp only [List.set]
             refine U_tq 41 235 hH ?_
             try simp only [LYp]
             try dsimp only [List.set]
             clear hH
             refine U_on 42 fun K hK => ?_
             go_simp
             (with_reducible refine (l2_whole (qe28.2 + v) _ ((Wn.add Bqe28.2 WV.out).mono (by decide))).mono ?_)
             rintro e w53 ⟨_, rfl, h42, hb⟩
             obtain ⟨sh42, ah42, nh42, ch42, Ah42, Nh42, Ch42, rfl⟩ := h42.shape
             replace hs := bStep hs hb
             revert h38; revert h34; revert h30; revert h26; revert h21; revert h12; revert Blo; revert Bly; revert Blx; revert Blb; revert Bla; revert B0; refine mo hb ?_; intro B0 Bla Blb Blx Bly Blo h12 h21 h26 h30 h34 h38
             replace B1 := cellK B1 hb
             replace B2 := cellK B2 hb
             replace B3 := cellK B3 hb
             replace B4 := cellK B4 hb
             replace B5 := cellK B5 hb
             replace B6 := cellK B6 hb
             replace B7 := cellK B7 hb
             replace B8 := cellK B8 hb
             replace B9 := cellK B9 hb
             replace Ba := cellK Ba hb
             clear hb
             try go_wp2_with fail
             refine hK.out _ _ ⟨B1, B2, B3, B4, B5, B6, B7, B8, B9, Ba⟩ (fun hH => ?_)
             clear hK K
             try simp only [LYp]
             try dsimp only [List.set]
             clear hH
             refine U_on 43 fun K hK => ?_
             go_simp
             (with_reducible refine (pCmp h26 h42 (SzQ.fit SY.out) (SzQ.fit (szN ((Wn.add Bqe28.2 WV.out).mono (by decide))))).mono ?_)
             rintro e w54 ⟨rfl, hb⟩
             replace hs := bStep hs hb
             revert h42; revert h38; revert h34; revert h30; revert h26; revert h21; revert h12; revert Blo; revert Bly; revert Blx; revert Blb; revert Bla; revert B0; refine mo hb ?_; intro B0 Bla Blb Blx Bly Blo h12 h21 h26 h30 h34 h38 h42
             replace B1 := cellK B1 hb
             replace B2 := cellK B2 hb
             replace B3 := cellK B3 hb
             replace B4 := cellK B4 hb
             replace B5 := cellK B5 hb
             replace B6 := cellK B6 hb
             replace B7 := cellK B7 hb
             replace B8 := cellK B8 hb
             replace B9 := cellK B9 hb
             replace Ba := cellK Ba hb
             clear hb
             rw [← Hsg43.out]
             try go_wp2_with fail
             refine hK.out _ _ ⟨B1, B2, B3, B4, B5, B6, B7, B8, B9, Ba⟩ (fun hH => ?_)
             clear hK K
             try simp only [LYp]
             try dsimp only [List.set]
             refine U_tq 44 238 hH ?_
             try simp only [LYp]
             try dsimp only [List.set]
             refine U_tq 45 239 hH ?_
             try simp only [LYp]
             try dsimp only [List.set]
             clear hH
             refine U_endN (by kernel_rfl) ?_
             clear B1 B2 B3 B4 B5 B6 B7 B8 B9 Ba
             by_cases q44 : Y < ((qe28.2 + v : Int) : Rat)
             ·have q44_ : sg43 < 0 := by have h := sq_lt Y (((qe28.2 + v : Int) : Rat)); rw [← Hsg43.out] at h; exact h.2 q44
              have q44H := Lib.hid q44
              clear q44
              have q44d : decide (sg43 < 0) = true := decide_eq_true q44_
              exact absurd (hit_free (a := pe13) (b := pe16) (w := u) (h := v) (o := (pe28, qe28)) (s := ((c : Int) : Rat) / ((250 : Int) : Rat)) (by have h := swo_free HE0.out HG.out hriH.out (a := m) (b := b) (by omega) (by omega); rwa [show ptZ path m = pe13 from Hpe13.out.symm, show ptZ path (m + 1) = pe16 from Hpe16.out.symm, show bxZ obs b = (pe28, qe28) from by rw [Hpe28.out, Hqe28.out]] at h) (part01 c0 c1).1 (part01 c0 c1).2 (by rw [← KX.out]; exact q32H.out) (by rw [← KX.out]; exact q36H.out) (by rw [← KY.out]; exact q40H.out)) (fun h => h (by rw [← KY.out]; exact q44H.out))
             have q44_ : ¬ (sg43 < 0) := by have h := sq_lt Y (((qe28.2 + v : Int) : Rat)); rw [← Hsg43.out] at h; exact fun h1 => q44 (h.1 h1)
             have q44H := Lib.hid q44
             clear q44
             have q44d : decide (sg43 < 0) = false := decide_eq_false q44_
             have AX45 : IntKind.i64.wrap ((b : Int) + 1) = (b : Int) + 1 := IntWalk.i64_in _ (by omega)
             go_wp2
             go_roundw
             case rel => exact ⟨b + 1, by omega, by go_num, hs, B0, Bla, Blb, Blx, Bly, h12, h21, h26⟩
             all_goals first | (simp [intOf]; done) | (simp [intOf]; omega)
            as_aux_lemma =>
             have q40_ : ¬ (0 < sg39) := by have h := sq_gt Y (((pe28.2 - v : Int) : Rat)); rw [← Hsg39.out] at h; exact fun h1 => q40 (h.1 h1)
             have q40H := Lib.hid q40
             clear q40
             have q40d : decide (0 < sg39) = false := decide_eq_false q40_
             refine U_region (S := fun w' => w'.cell? ⟨gx, 0, none⟩ = some (.bool sh21) ∧ w'.cell? ⟨gx, 1, none⟩ = some (.slice ah21 nh21 ch21) ∧ w'.cell? ⟨gx, 2, none⟩ = some (.slice Ah21 Nh21 Ch21) ∧ w'.cell? ⟨wl1.heap.size, 0, none⟩ = some (.int .i64 pe28.1) ∧ w'.cell? ⟨wl1.heap.size, 1, none⟩ = some (.int .i64 pe28.2) ∧ w'.cell? ⟨wl1.heap.size, 2, none⟩ = some (.int .i64 qe28.1) ∧ w'.cell? ⟨wl1.heap.size, 3, none⟩ = some (.int .i64 qe28.2) ∧ w'.cell? ⟨gy, 0, none⟩ = some (.bool sh26) ∧ w'.cell? ⟨gy, 1, none⟩ = some (.slice ah26 nh26 ch26) ∧ w'.cell? ⟨gy, 2, none⟩ = some (.slice Ah26 Nh26 Ch26)) (by kernel_rfl) 46 ?_
             refine AnyU.abs ?_
             intro w46 hW
             have hb : Below w45.heap.size w45 w46 := by rw [hW]; exact bDrew _
             replace hs := bStep hs hb
             revert h26; revert h21; revert h12; revert Blo; revert Bly; revert Blx; revert Blb; revert Bla; revert B0; refine mo hb ?_; intro B0 Bla Blb Blx Bly Blo h12 h21 h26
             clear hb hW
             refine Blx.k3 fun B1 B2 B3 => ?_
             refine Blo.k4 fun B4 B5 B6 B7 => ?_
             refine Bly.k3 fun B8 B9 Ba => ?_
             have hH := (show w46.cell? ⟨gx, 0, none⟩ = some (.bool sh21) ∧ w46.cell? ⟨gx, 1, none⟩ = some (.slice ah21 nh21 ch21) ∧ w46.cell? ⟨gx, 2, none⟩ = some (.slice Ah21 Nh21 Ch21) ∧ w46.cell? ⟨wl1.heap.size, 0, none⟩ = some (.int .i64 pe28.1) ∧ w46.cell? ⟨wl1.heap.size, 1, none⟩ = some (.int .i64 pe28.2) ∧ w46.cell? ⟨wl1.heap.size, 2, none⟩ = some (.int .i64 qe28.1) ∧ w46.cell? ⟨wl1.heap.size, 3, none⟩ = some (.int .i64 qe28.2) ∧ w46.cell? ⟨gy, 0, none⟩ = some (.bool sh26) ∧ w46.cell? ⟨gy, 1, none⟩ = some (.slice ah26 nh26 ch26) ∧ w46.cell? ⟨gy, 2, none⟩ = some (.slice Ah26 Nh26 Ch26) from ⟨B1, B2, B3, B4, B5, B6, B7, B8, B9, Ba⟩)
             refine U_tq 0 194 hH ?_
             try simp only [LYp]
             try dsimp only [List.set]
             refine U_tq 1 195 hH ?_
             try simp only [LYp]
             try dsimp only [List.set]
             refine U_tq 2 196 hH ?_
             try simp only [LYp]
             try dsimp only [List.set]
             refine U_tq 3 197 hH ?_
             try simp only [LYp]
             try dsimp only [List.set]
             refine U_tq 4 198 hH ?_
             try simp only [LYp]
             try dsimp only [List.set]
             refine U_tq 5 199 hH ?_
             try simp only [LYp]
             try dsimp only [List.set]
             refine U_tq 6 200 hH ?_
             try simp only [LYp]
             try dsimp only [List.set]
             clear hH
             refine U_on 7 fun K hK => ?_
             go_simp
             (with_reducible refine (l2_whole (pe28.1 - u) _ ((Wn.sub Bpe28.1 WU.out).mono (by decide))).mono ?_)
             rintro e w47 ⟨_, rfl, h30, hb⟩
             obtain ⟨sh30, ah30, nh30, ch30, Ah30, Nh30, Ch30, rfl⟩ := h30.shape
             replace hs := bStep hs hb
             revert h26; revert h21; revert h12; revert Blo; revert Bly; revert Blx; revert Blb; revert Bla; revert B0; refine mo hb ?_; intro B0 Bla Blb Blx Bly Blo h12 h21 h26
             replace B1 := cellK B1 hb
             replace B2 := cellK B2 hb
             replace B3 := cellK B3 hb
             replace B4 := cellK B4 hb
             replace B5 := cellK B5 hb
             replace B6 := cellK B6 hb
             replace B7 := cellK B7 hb
             replace B8 := cellK B8 hb
             replace B9 := cellK B9 hb
             replace Ba := cellK Ba hb
             clear hb
             try go_wp2_with fail
             refine hK.out _ _ ⟨B1, B2, B3, B4, B5, B6, B7, B8, B9, Ba⟩ (fun hH => ?_)
             clear hK K
             try simp only [LYp]
             try dsimp only [List.set]
             clear hH
             refine U_on 8 fun K hK => ?_
             go_simp
             (with_reducible refine (pCmp h21 h30 (SzQ.fit SX.out) (SzQ.fit (szN ((Wn.sub Bpe28.1 WU.out).mono (by decide))))).mono ?_)
             rintro e w48 ⟨rfl, hb⟩
             replace hs := bStep hs hb
             revert h30; revert h26; revert h21; revert h12; revert Blo; revert Bly; revert Blx; revert Blb; revert Bla; revert B0; refine mo hb ?_; intro B0 Bla Blb Blx Bly Blo h12 h21 h26 h30
             replace B1 := cellK B1 hb
             replace B2 := cellK B2 hb
             replace B3 := cellK B3 hb
             replace B4 := cellK B4 hb
             replace B5 := cellK B5 hb
             replace B6 := cellK B6 hb
             replace B7 := cellK B7 hb
             replace B8 := cellK B8 hb
             replace B9 := cellK B9 hb
             replace Ba := cellK Ba hb
             clear hb
             rw [← Hsg31.out]
             try go_wp2_with fail
             refine hK.out _ _ ⟨B1, B2, B3, B4, B5, B6, B7, B8, B9, Ba⟩ (fun hH => ?_)
             clear hK K
             try simp only [LYp]
             try dsimp only [List.set]
             refine U_tq 9 203 hH ?_
             try simp only [LYp]
             try dsimp only [List.set]
             refine U_tq 10 204 hH ?_
             try simp only [LYp]
             try dsimp only [List.set]
             refine U_tq 11 205 hH ?_
             try simp only [LYp]
             try dsimp only [List.set]
             refine U_tq 12 206 hH ?_
             try simp only [LYp]
             try dsimp only [List.set]
             refine U_tq 13 207 hH ?_
             try simp only [LYp]
             try dsimp only [List.set]
             refine U_tq 14 208 hH ?_
             try simp only [LYp]
             try dsimp only [List.set]
             refine U_tq 15 209 hH ?_
             try simp only [LYp]
             try dsimp only [List.set]
             refine U_tq 16 210 hH ?_
             try simp only [LYp]
             try dsimp only [List.set]
             refine U_tq 17 211 hH ?_
             try simp only [LYp]
             try dsimp only [List.set]
             clear hH
             refine U_on 18 fun K hK => ?_
             go_simp
             (with_reducible refine (l2_whole (qe28.1 + u) _ ((Wn.add Bqe28.1 WU.out).mono (by decide))).mono ?_)
             rintro e w49 ⟨_, rfl, h34, hb⟩
             obtain ⟨sh34, ah34, nh34, ch34, Ah34, Nh34, Ch34, rfl⟩ := h34.shape
             replace hs := bStep hs hb
             revert h30; revert h26; revert h21; revert h12; revert Blo; revert Bly; revert Blx; revert Blb; revert Bla; revert B0; refine mo hb ?_; intro B0 Bla Blb Blx Bly Blo h12 h21 h26 h30
             replace B1 := cellK B1 hb
             replace B2 := cellK B2 hb
             replace B3 := cellK B3 hb
             replace B4 := cellK B4 hb
             replace B5 := cellK B5 hb
             replace B6 := cellK B6 hb
             replace B7 := cellK B7 hb
             replace B8 := cellK B8 hb
             replace B9 := cellK B9 hb
             replace Ba := cellK Ba hb
             clear hb
             try go_wp2_with fail
             refine hK.out _ _ ⟨B1, B2, B3, B4, B5, B6, B7, B8, B9, Ba⟩ (fun hH => ?_)
             clear hK K
             try simp only [LYp]
             try dsimp only [List.set]
             clear hH
             refine U_on 19 fun K hK => ?_
             go_simp
             (with_reducible refine (pCmp h21 h34 (SzQ.fit SX.out) (SzQ.fit (szN ((Wn.add Bqe28.1 WU.out).mono (by decide))))).mono ?_)
             rintro e w50 ⟨rfl, hb⟩
             replace hs := bStep hs hb
             revert h34; revert h30; revert h26; revert h21; revert h12; revert Blo; revert Bly; revert Blx; revert Blb; revert Bla; revert B0; refine mo hb ?_; intro B0 Bla Blb Blx Bly Blo h12 h21 h26 h30 h34
             replace B1 := cellK B1 hb
             replace B2 := cellK B2 hb
             replace B3 := cellK B3 hb
             replace B4 := cellK B4 hb
             replace B5 := cellK B5 hb
             replace B6 := cellK B6 hb
             replace B7 := cellK B7 hb
             replace B8 := cellK B8 hb
             replace B9 := cellK B9 hb
             replace Ba := cellK Ba hb
             clear hb
             rw [← Hsg35.out]
             try go_wp2_with fail
             refine hK.out _ _ ⟨B1, B2, B3, B4, B5, B6, B7, B8, B9, Ba⟩ (fun hH => ?_)
             clear hK K
             try simp only [LYp]
             try dsimp only [List.set]
             refine U_tq 20 214 hH ?_
             try simp only [LYp]
             try dsimp only [List.set]
             refine U_tq 21 215 hH ?_
             try simp only [LYp]
             try dsimp only [List.set]
             refine U_tq 22 216 hH ?_
             try simp only [LYp]
             try dsimp only [List.set]
             refine U_tq 23 217 hH ?_
             try simp only [LYp]
             try dsimp only [List.set]
             refine U_tq 24 218 hH ?_
             try simp only [LYp]
             try dsimp only [List.set]
             refine U_tq 25 219 hH ?_
             try simp only [LYp]
             try dsimp only [List.set]
             refine U_tq 26 220 hH ?_
             try simp only [LYp]
             try dsimp only [List.set]
             refine U_tq 27 221 hH ?_
             try simp only [LYp]
             try dsimp only [List.set]
             refine U_tq 28 222 hH ?_
             try simp only [LYp]
             try dsimp only [List.set]
             refine U_tq 29 223 hH ?_
             try simp only [LYp]
             try dsimp only [List.set]
             clear hH
             refine U_on 30 fun K hK => ?_
             go_simp
             (with_reducible refine (l2_whole (pe28.2 - v) _ ((Wn.sub Bpe28.2 WV.out).mono (by decide))).mono ?_)
             rintro e w51 ⟨_, rfl, h38, hb⟩
             obtain ⟨sh38, ah38, nh38, ch38, Ah38, Nh38, Ch38, rfl⟩ := h38.shape
             replace hs := bStep hs hb
             revert h34; revert h30; revert h26; revert h21; revert h12; revert Blo; revert Bly; revert Blx; revert Blb; revert Bla; revert B0; refine mo hb ?_; intro B0 Bla Blb Blx Bly Blo h12 h21 h26 h30 h34
             replace B1 := cellK B1 hb
             replace B2 := cellK B2 hb
             replace B3 := cellK B3 hb
             replace B4 := cellK B4 hb
             replace B5 := cellK B5 hb
             replace B6 := cellK B6 hb
             replace B7 := cellK B7 hb
             replace B8 := cellK B8 hb
             replace B9 := cellK B9 hb
             replace Ba := cellK Ba hb
             clear hb
             try go_wp2_with fail
             refine hK.out _ _ ⟨B1, B2, B3, B4, B5, B6, B7, B8, B9, Ba⟩ (fun hH => ?_)
             clear hK K
             try simp only [LYp]
             try dsimp only [List.set]
             clear hH
             refine U_on 31 fun K hK => ?_
             go_simp
             (with_reducible refine (pCmp h26 h38 (SzQ.fit SY.out) (SzQ.fit (szN ((Wn.sub Bpe28.2 WV.out).mono (by decide))))).mono ?_)
             rintro e w52 ⟨rfl, hb⟩
             replace hs := bStep hs hb
             revert h38; revert h34; revert h30; revert h26; revert h21; revert h12; revert Blo; revert Bly; revert Blx; revert Blb; revert Bla; revert B0; refine mo hb ?_; intro B0 Bla Blb Blx Bly Blo h12 h21 h26 h30 h34 h38
             replace B1 := cellK B1 hb
             replace B2 := cellK B2 hb
             replace B3 := cellK B3 hb
             replace B4 := cellK B4 hb
             replace B5 := cellK B5 hb
             replace B6 := cellK B6 hb
             replace B7 := cellK B7 hb
             replace B8 := cellK B8 hb
             replace B9 := cellK B9 hb
             replace Ba := cellK Ba hb
             clear hb
             rw [← Hsg39.out]
             try go_wp2_with fail
             refine hK.out _ _ ⟨B1, B2, B3, B4, B5, B6, B7, B8, B9, Ba⟩ (fun hH => ?_)
             clear hK K
             try simp only [LYp]
             try dsimp only [List.set]
             refine U_tq 32 226 hH ?_
             try simp only [LYp]
             try dsimp only [List.set]
             refine U_tq 33 227 hH ?_
             try simp only [LYp]
             try dsimp only [List.set]
             refine U_tq 34 228 hH ?_
             try simp only [LYp]
             try dsimp only [List.set]
             refine U_tu 35 229 hH ?_
             try simp only [LYp]
             try dsimp only [List.set]
             refine U_tu 36 230 hH ?_
             try simp only [LYp]
             try dsimp only [List.set]
             refine U_tu 37 231 hH ?_
             try simp only [LYp]
             try dsimp only [List.set]
             refine U_tu 38 232 hH ?_
             try simp only [LYp]
             try dsimp only [List.set]
             refine U_tu 39 233 hH ?_
             try simp only [LYp]
             try dsimp only [List.set]
             refine U_tu 40 234 hH ?_
             try simp only [LYp]
             try dsimp only [List.set]
             refine U_tu 41 235 hH ?_
             try simp only [LYp]
             try dsimp only [List.set]
             clear hH
             refine U_on 42 fun K hK => ?_
             go_simp
             refine hK.out _ _ ⟨B1, B2, B3, B4, B5, B6, B7, B8, B9, Ba⟩ (fun hH => ?_)
             clear hK K
             try simp only [LYp]
             try dsimp only [List.set]
             clear hH
             refine U_on 43 fun K hK => ?_
             go_simp
             refine hK.out _ _ ⟨B1, B2, B3, B4, B5, B6, B7, B8, B9, Ba⟩ (fun hH => ?_)
             clear hK K
             try simp only [LYp]
             try dsimp only [List.set]
             refine U_tu 44 238 hH ?_
             try simp only [LYp]
             try dsimp only [List.set]
             refine U_tq 45 239 hH ?_
             try simp only [LYp]
             try dsimp only [List.set]
             clear hH
             refine U_endN (by kernel_rfl) ?_
             clear B1 B2 B3 B4 B5 B6 B7 B8 B9 Ba
             have AX41 : IntKind.i64.wrap ((b : Int) + 1) = (b : Int) + 1 := IntWalk.i64_in _ (by omega)
             go_wp2
             go_roundw
             case rel => exact ⟨b + 1, by omega, by go_num, hs, B0, Bla, Blb, Blx, Bly, h12, h21, h26⟩
             all_goals first | (simp [intOf]; done) | (simp [intOf]; omega)
           as_aux_lemma =>
            have q36_ : ¬ (sg35 < 0) := by have h := sq_lt X (((qe28.1 + u : Int) : Rat)); rw [← Hsg35.out] at h; exact fun h1 => q36 (h.1 h1)
            have q36H := Lib.hid q36
            clear q36
            have q36d : decide (sg35 < 0) = false := decide_eq_false q36_
            refine U_region (S := fun w' => w'.cell? ⟨gx, 0, none⟩ = some (.bool sh21) ∧ w'.cell? ⟨gx, 1, none⟩ = some (.slice ah21 nh21 ch21) ∧ w'.cell? ⟨gx, 2, none⟩ = some (.slice Ah21 Nh21 Ch21) ∧ w'.cell? ⟨wl1.heap.size, 0, none⟩ = some (.int .i64 pe28.1) ∧ w'.cell? ⟨wl1.heap.size, 1, none⟩ = some (.int .i64 pe28.2) ∧ w'.cell? ⟨wl1.heap.size, 2, none⟩ = some (.int .i64 qe28.1) ∧ w'.cell? ⟨wl1.heap.size, 3, none⟩ = some (.int .i64 qe28.2)) (by kernel_rfl) 46 ?_
            refine AnyU.abs ?_
            intro w46 hW
            have hb : Below w45.heap.size w45 w46 := by rw [hW]; exact bDrew _
            replace hs := bStep hs hb
            revert h26; revert h21; revert h12; revert Blo; revert Bly; revert Blx; revert Blb; revert Bla; revert B0; refine mo hb ?_; intro B0 Bla Blb Blx Bly Blo h12 h21 h26
            clear hb hW
            refine Blx.k3 fun B1 B2 B3 => ?_
            refine Blo.k4 fun B4 B5 B6 B7 => ?_
            have hH := (show w46.cell? ⟨gx, 0, none⟩ = some (.bool sh21) ∧ w46.cell? ⟨gx, 1, none⟩ = some (.slice ah21 nh21 ch21) ∧ w46.cell? ⟨gx, 2, none⟩ = some (.slice Ah21 Nh21 Ch21) ∧ w46.cell? ⟨wl1.heap.size, 0, none⟩ = some (.int .i64 pe28.1) ∧ w46.cell? ⟨wl1.heap.size, 1, none⟩ = some (.int .i64 pe28.2) ∧ w46.cell? ⟨wl1.heap.size, 2, none⟩ = some (.int .i64 qe28.1) ∧ w46.cell? ⟨wl1.heap.size, 3, none⟩ = some (.int .i64 qe28.2) from ⟨B1, B2, B3, B4, B5, B6, B7⟩)
            refine U_tq 0 194 hH ?_
            try simp only [LYp]
            try dsimp only [List.set]
            refine U_tq 1 195 hH ?_
            try simp only [LYp]
            try dsimp only [List.set]
            refine U_tq 2 196 hH ?_
            try simp only [LYp]
            try dsimp only [List.set]
            refine U_tq 3 197 hH ?_
            try simp only [LYp]
            try dsimp only [List.set]
            refine U_tq 4 198 hH ?_
            try simp only [LYp]
            try dsimp only [List.set]
            refine U_tq 5 199 hH ?_
            try simp only [LYp]
            try dsimp only [List.set]
            refine U_tq 6 200 hH ?_
            try simp only [LYp]
            try dsimp only [List.set]
            clear hH
            refine U_on 7 fun K hK => ?_
            go_simp
            (with_reducible refine (l2_whole (pe28.1 - u) _ ((Wn.sub Bpe28.1 WU.out).mono (by decide))).mono ?_)
            rintro e w47 ⟨_, rfl, h30, hb⟩
            obtain ⟨sh30, ah30, nh30, ch30, Ah30, Nh30, Ch30, rfl⟩ := h30.shape
            replace hs := bStep hs hb
            revert h26; revert h21; revert h12; revert Blo; revert Bly; revert Blx; revert Blb; revert Bla; revert B0; refine mo hb ?_; intro B0 Bla Blb Blx Bly Blo h12 h21 h26
            replace B1 := cellK B1 hb
            replace B2 := cellK B2 hb
            replace B3 := cellK B3 hb
            replace B4 := cellK B4 hb
            replace B5 := cellK B5 hb
            replace B6 := cellK B6 hb
            replace B7 := cellK B7 hb
            clear hb
            try go_wp2_with fail
            refine hK.out _ _ ⟨B1, B2, B3, B4, B5, B6, B7⟩ (fun hH => ?_)
            clear hK K
            try simp only [LYp]
            try dsimp only [List.set]
            clear hH
            refine U_on 8 fun K hK => ?_
            go_simp
            (with_reducible refine (pCmp h21 h30 (SzQ.fit SX.out) (SzQ.fit (szN ((Wn.sub Bpe28.1 WU.out).mono (by decide))))).mono ?_)
            rintro e w48 ⟨rfl, hb⟩
            replace hs := bStep hs hb
            revert h30; revert h26; revert h21; revert h12; revert Blo; revert Bly; revert Blx; revert Blb; revert Bla; revert B0; refine mo hb ?_; intro B0 Bla Blb Blx Bly Blo h12 h21 h26 h30
            replace B1 := cellK B1 hb
            replace B2 := cellK B2 hb
            replace B3 := cellK B3 hb
            replace B4 := cellK B4 hb
            replace B5 := cellK B5 hb
            replace B6 := cellK B6 hb
            replace B7 := cellK B7 hb
            clear hb
            rw [← Hsg31.out]
            try go_wp2_with fail
            refine hK.out _ _ ⟨B1, B2, B3, B4, B5, B6, B7⟩ (fun hH => ?_)
            clear hK K
            try simp only [LYp]
            try dsimp only [List.set]
            refine U_tq 9 203 hH ?_
            try simp only [LYp]
            try dsimp only [List.set]
            refine U_tq 10 204 hH ?_
            try simp only [LYp]
            try dsimp only [List.set]
            refine U_tq 11 205 hH ?_
            try simp only [LYp]
            try dsimp only [List.set]
            refine U_tq 12 206 hH ?_
            try simp only [LYp]
            try dsimp only [List.set]
            refine U_tq 13 207 hH ?_
            try simp only [LYp]
            try dsimp only [List.set]
            refine U_tq 14 208 hH ?_
            try simp only [LYp]
            try dsimp only [List.set]
            refine U_tq 15 209 hH ?_
            try simp only [LYp]
            try dsimp only [List.set]
            refine U_tq 16 210 hH ?_
            try simp only [LYp]
            try dsimp only [List.set]
            refine U_tq 17 211 hH ?_
            try simp only [LYp]
            try dsimp only [List.set]
            clear hH
            refine U_on 18 fun K hK => ?_
            go_simp
            (with_reducible refine (l2_whole (qe28.1 + u) _ ((Wn.add Bqe28.1 WU.out).mono (by decide))).mono ?_)
            rintro e w49 ⟨_, rfl, h34, hb⟩
            obtain ⟨sh34, ah34, nh34, ch34, Ah34, Nh34, Ch34, rfl⟩ := h34.shape
            replace hs := bStep hs hb
            revert h30; revert h26; revert h21; revert h12; revert Blo; revert Bly; revert Blx; revert Blb; revert Bla; revert B0; refine mo hb ?_; intro B0 Bla Blb Blx Bly Blo h12 h21 h26 h30
            replace B1 := cellK B1 hb
            replace B2 := cellK B2 hb
            replace B3 := cellK B3 hb
            replace B4 := cellK B4 hb
            replace B5 := cellK B5 hb
            replace B6 := cellK B6 hb
            replace B7 := cellK B7 hb
            clear hb
            try go_wp2_with fail
            refine hK.out _ _ ⟨B1, B2, B3, B4, B5, B6, B7⟩ (fun hH => ?_)
            clear hK K
            try simp only [LYp]
            try dsimp only [List.set]
            clear hH
            refine U_on 19 fun K hK => ?_
            go_simp
            (with_reducible refine (pCmp h21 h34 (SzQ.fit SX.out) (SzQ.fit (szN ((Wn.add Bqe28.1 WU.out).mono (by decide))))).mono ?_)
            rintro e w50 ⟨rfl, hb⟩
            replace hs := bStep hs hb
            revert h34; revert h30; revert h26; revert h21; revert h12; revert Blo; revert Bly; revert Blx; revert Blb; revert Bla; revert B0; refine mo hb ?_; intro B0 Bla Blb Blx Bly Blo h12 h21 h26 h30 h34
            replace B1 := cellK B1 hb
            replace B2 := cellK B2 hb
            replace B3 := cellK B3 hb
            replace B4 := cellK B4 hb
            replace B5 := cellK B5 hb
            replace B6 := cellK B6 hb
            replace B7 := cellK B7 hb
            clear hb
            rw [← Hsg35.out]
            try go_wp2_with fail
            refine hK.out _ _ ⟨B1, B2, B3, B4, B5, B6, B7⟩ (fun hH => ?_)
            clear hK K
            try simp only [LYp]
            try dsimp only [List.set]
            refine U_tq 20 214 hH ?_
            try simp only [LYp]
            try dsimp only [List.set]
            refine U_tq 21 215 hH ?_
            try simp only [LYp]
            try dsimp only [List.set]
            refine U_tq 22 216 hH ?_
            try simp only [LYp]
            try dsimp only [List.set]
            refine U_tu 23 217 hH ?_
            try simp only [LYp]
            try dsimp only [List.set]
            refine U_tu 24 218 hH ?_
            try simp only [LYp]
            try dsimp only [List.set]
            refine U_tu 25 219 hH ?_
            try simp only [LYp]
            try dsimp only [List.set]
            refine U_tu 26 220 hH ?_
            try simp only [LYp]
            try dsimp only [List.set]
            refine U_tu 27 221 hH ?_
            try simp only [LYp]
            try dsimp only [List.set]
            refine U_tu 28 222 hH ?_
            try simp only [LYp]
            try dsimp only [List.set]
            refine U_tu 29 223 hH ?_
            try simp only [LYp]
            try dsimp only [List.set]
            clear hH
            refine U_on 30 fun K hK => ?_
            go_simp
            refine hK.out _ _ ⟨B1, B2, B3, B4, B5, B6, B7⟩ (fun hH => ?_)
            clear hK K
            try simp only [LYp]
            try dsimp only [List.set]
            clear hH
            refine U_on 31 fun K hK => ?_
            go_simp
            refine hK.out _ _ ⟨B1, B2, B3, B4, B5, B6, B7⟩ (fun hH => ?_)
            clear hK K
            try simp only [LYp]
            try dsimp only [List.set]
            refine U_tu 32 226 hH ?_
            try simp only [LYp]
            try dsimp only [List.set]
            refine U_tq 33 227 hH ?_
            try simp only [LYp]
            try dsimp only [List.set]
            refine U_tq 34 228 hH ?_
            try simp only [LYp]
            try dsimp only [List.set]
            refine U_tu 35 229 hH ?_
            try simp only [LYp]
            try dsimp only [List.set]
            refine U_tu 36 230 hH ?_
            try simp only [LYp]
            try dsimp only [List.set]
            refine U_tu 37 231 hH ?_
            try simp only [LYp]
            try dsimp only [List.set]
            refine U_tu 38 232 hH ?_
            try simp only [LYp]
            try dsimp only [List.set]
            refine U_tu 39 233 hH ?_
            try simp only [LYp]
            try dsimp only [List.set]
            refine U_tu 40 234 hH ?_
            try simp only [LYp]
            try dsimp only [List.set]
            refine U_tu 41 235 hH ?_
            try simp only [LYp]
            try dsimp only [List.set]
            clear hH
            refine U_on 42 fun K hK => ?_
            go_simp
            refine hK.out _ _ ⟨B1, B2, B3, B4, B5, B6, B7⟩ (fun hH => ?_)
            clear hK K
            try simp only [LYp]
            try dsimp only [List.set]
            clear hH
            refine U_on 43 fun K hK => ?_
            go_simp
            refine hK.out _ _ ⟨B1, B2, B3, B4, B5, B6, B7⟩ (fun hH => ?_)
            clear hK K
            try simp only [LYp]
            try dsimp only [List.set]
            refine U_tu 44 238 hH ?_
            try simp only [LYp]
            try dsimp only [List.set]
            refine U_tq 45 239 hH ?_
            try simp only [LYp]
            try dsimp only [List.set]
            clear hH
            refine U_endN (by kernel_rfl) ?_
            clear B1 B2 B3 B4 B5 B6 B7
            have AX37 : IntKind.i64.wrap ((b : Int) + 1) = (b : Int) + 1 := IntWalk.i64_in _ (by omega)
            go_wp2
            go_roundw
            case rel => exact ⟨b + 1, by omega, by go_num, hs, B0, Bla, Blb, Blx, Bly, h12, h21, h26⟩
            all_goals first | (simp [intOf]; done) | (simp [intOf]; omega)
          as_aux_lemma =>
           have q32_ : ¬ (0 < sg31) := by have h := sq_gt X (((pe28.1 - u : Int) : Rat)); rw [← Hsg31.out] at h; exact fun h1 => q32 (h.1 h1)
           have q32H := Lib.hid q32
           clear q32
           have q32d : decide (0 < sg31) = false := decide_eq_false q32_
           refine U_region (S := fun w' => w'.cell? ⟨gx, 0, none⟩ = some (.bool sh21) ∧ w'.cell? ⟨gx, 1, none⟩ = some (.slice ah21 nh21 ch21) ∧ w'.cell? ⟨gx, 2, none⟩ = some (.slice Ah21 Nh21 Ch21) ∧ w'.cell? ⟨wl1.heap.size, 0, none⟩ = some (.int .i64 pe28.1) ∧ w'.cell? ⟨wl1.heap.size, 1, none⟩ = some (.int .i64 pe28.2) ∧ w'.cell? ⟨wl1.heap.size, 2, none⟩ = some (.int .i64 qe28.1) ∧ w'.cell? ⟨wl1.heap.size, 3, none⟩ = some (.int .i64 qe28.2)) (by kernel_rfl) 46 ?_
           refine AnyU.abs ?_
           intro w46 hW
           have hb : Below w45.heap.size w45 w46 := by rw [hW]; exact bDrew _
           replace hs := bStep hs hb
           revert h26; revert h21; revert h12; revert Blo; revert Bly; revert Blx; revert Blb; revert Bla; revert B0; refine mo hb ?_; intro B0 Bla Blb Blx Bly Blo h12 h21 h26
           clear hb hW
           refine Blx.k3 fun B1 B2 B3 => ?_
           refine Blo.k4 fun B4 B5 B6 B7 => ?_
           have hH := (show w46.cell? ⟨gx, 0, none⟩ = some (.bool sh21) ∧ w46.cell? ⟨gx, 1, none⟩ = some (.slice ah21 nh21 ch21) ∧ w46.cell? ⟨gx, 2, none⟩ = some (.slice Ah21 Nh21 Ch21) ∧ w46.cell? ⟨wl1.heap.size, 0, none⟩ = some (.int .i64 pe28.1) ∧ w46.cell? ⟨wl1.heap.size, 1, none⟩ = some (.int .i64 pe28.2) ∧ w46.cell? ⟨wl1.heap.size, 2, none⟩ = some (.int .i64 qe28.1) ∧ w46.cell? ⟨wl1.heap.size, 3, none⟩ = some (.int .i64 qe28.2) from ⟨B1, B2, B3, B4, B5, B6, B7⟩)
           refine U_tq 0 194 hH ?_
           try simp only [LYp]
           try dsimp only [List.set]
           refine U_tq 1 195 hH ?_
           try simp only [LYp]
           try dsimp only [List.set]
           refine U_tq 2 196 hH ?_
           try simp only [LYp]
           try dsimp only [List.set]
           refine U_tq 3 197 hH ?_
           try simp only [LYp]
           try dsimp only [List.set]
           refine U_tq 4 198 hH ?_
           try simp only [LYp]
           try dsimp only [List.set]
           refine U_tq 5 199 hH ?_
           try simp only [LYp]
           try dsimp only [List.set]
           refine U_tq 6 200 hH ?_
           try simp only [LYp]
           try dsimp only [List.set]
           clear hH
           refine U_on 7 fun K hK => ?_
           go_simp
           (with_reducible refine (l2_whole (pe28.1 - u) _ ((Wn.sub Bpe28.1 WU.out).mono (by decide))).mono ?_)
           rintro e w47 ⟨_, rfl, h30, hb⟩
           obtain ⟨sh30, ah30, nh30, ch30, Ah30, Nh30, Ch30, rfl⟩ := h30.shape
           replace hs := bStep hs hb
           revert h26; revert h21; revert h12; revert Blo; revert Bly; revert Blx; revert Blb; revert Bla; revert B0; refine mo hb ?_; intro B0 Bla Blb Blx Bly Blo h12 h21 h26
           replace B1 := cellK B1 hb
           replace B2 := cellK B2 hb
           replace B3 := cellK B3 hb
           replace B4 := cellK B4 hb
           replace B5 := cellK B5 hb
           replace B6 := cellK B6 hb
           replace B7 := cellK B7 hb
           clear hb
           try go_wp2_with fail
           refine hK.out _ _ ⟨B1, B2, B3, B4, B5, B6, B7⟩ (fun hH => ?_)
           clear hK K
           try simp only [LYp]
           try dsimp only [List.set]
           clear hH
           refine U_on 8 fun K hK => ?_
           go_simp
           (with_reducible refine (pCmp h21 h30 (SzQ.fit SX.out) (SzQ.fit (szN ((Wn.sub Bpe28.1 WU.out).mono (by decide))))).mono ?_)
           rintro e w48 ⟨rfl, hb⟩
           replace hs := bStep hs hb
           revert h30; revert h26; revert h21; revert h12; revert Blo; revert Bly; revert Blx; revert Blb; revert Bla; revert B0; refine mo hb ?_; intro B0 Bla Blb Blx Bly Blo h12 h21 h26 h30
           replace B1 := cellK B1 hb
           replace B2 := cellK B2 hb
           replace B3 := cellK B3 hb
           replace B4 := cellK B4 hb
           replace B5 := cellK B5 hb
           replace B6 := cellK B6 hb
           replace B7 := cellK B7 hb
           clear hb
           rw [← Hsg31.out]
           try go_wp2_with fail
           refine hK.out _ _ ⟨B1, B2, B3, B4, B5, B6, B7⟩ (fun hH => ?_)
           clear hK K
           try simp only [LYp]
           try dsimp only [List.set]
           refine U_tq 9 203 hH ?_
           try simp only [LYp]
           try dsimp only [List.set]
           refine U_tq 10 204 hH ?_
           try simp only [LYp]
           try dsimp only [List.set]
           refine U_tu 11 205 hH ?_
           try simp only [LYp]
           try dsimp only [List.set]
           refine U_tu 12 206 hH ?_
           try simp only [LYp]
           try dsimp only [List.set]
           refine U_tu 13 207 hH ?_
           try simp only [LYp]
           try dsimp only [List.set]
           refine U_tu 14 208 hH ?_
           try simp only [LYp]
           try dsimp only [List.set]
           refine U_tu 15 209 hH ?_
           try simp only [LYp]
           try dsimp only [List.set]
           refine U_tu 16 210 hH ?_
           try simp only [LYp]
           try dsimp only [List.set]
           refine U_tu 17 211 hH ?_
           try simp only [LYp]
           try dsimp only [List.set]
           clear hH
           refine U_on 18 fun K hK => ?_
           go_simp
           refine hK.out _ _ ⟨B1, B2, B3, B4, B5, B6, B7⟩ (fun hH => ?_)
           clear hK K
           try simp only [LYp]
           try dsimp only [List.set]
           clear hH
           refine U_on 19 fun K hK => ?_
           go_simp
           refine hK.out _ _ ⟨B1, B2, B3, B4, B5, B6, B7⟩ (fun hH => ?_)
           clear hK K
           try simp only [LYp]
           try dsimp only [List.set]
           refine U_tu 20 214 hH ?_
           try simp only [LYp]
           try dsimp only [List.set]
           refine U_tq 21 215 hH ?_
           try simp only [LYp]
           try dsimp only [List.set]
           refine U_tq 22 216 hH ?_
           try simp only [LYp]
           try dsimp only [List.set]
           refine U_tu 23 217 hH ?_
           try simp only [LYp]
           try dsimp only [List.set]
           refine U_tu 24 218 hH ?_
           try simp only [LYp]
           try dsimp only [List.set]
           refine U_tu 25 219 hH ?_
           try simp only [LYp]
           try dsimp only [List.set]
           refine U_tu 26 220 hH ?_
           try simp only [LYp]
           try dsimp only [List.set]
           refine U_tu 27 221 hH ?_
           try simp only [LYp]
           try dsimp only [List.set]
           refine U_tu 28 222 hH ?_
           try simp only [LYp]
           try dsimp only [List.set]
           refine U_tu 29 223 hH ?_
           try simp only [LYp]
           try dsimp only [List.set]
           clear hH
           refine U_on 30 fun K hK => ?_
           go_simp
           refine hK.out _ _ ⟨B1, B2, B3, B4, B5, B6, B7⟩ (fun hH => ?_)
           clear hK K
           try simp only [LYp]
           try dsimp only [List.set]
           clear hH
           refine U_on 31 fun K hK => ?_
           go_simp
           refine hK.out _ _ ⟨B1, B2, B3, B4, B5, B6, B7⟩ (fun hH => ?_)
           clear hK K
           try simp only [LYp]
           try dsimp only [List.set]
           refine U_tu 32 226 hH ?_
           try simp only [LYp]
           try dsimp only [List.set]
           refine U_tq 33 227 hH ?_
           try simp only [LYp]
           try dsimp only [List.set]
           refine U_tq 34 228 hH ?_
           try simp only [LYp]
           try dsimp only [List.set]
           refine U_tu 35 229 hH ?_
           try simp only [LYp]
           try dsimp only [List.set]
           refine U_tu 36 230 hH ?_
           try simp only [LYp]
           try dsimp only [List.set]
           refine U_tu 37 231 hH ?_
           try simp only [LYp]
           try dsimp only [List.set]
           refine U_tu 38 232 hH ?_
           try simp only [LYp]
           try dsimp only [List.set]
           refine U_tu 39 233 hH ?_
           try simp only [LYp]
           try dsimp only [List.set]
           refine U_tu 40 234 hH ?_
           try simp only [LYp]
           try dsimp only [List.set]
           refine U_tu 41 235 hH ?_
           try simp only [LYp]
           try dsimp only [List.set]
           clear hH
           refine U_on 42 fun K hK => ?_
           go_simp
           refine hK.out _ _ ⟨B1, B2, B3, B4, B5, B6, B7⟩ (fun hH => ?_)
           clear hK K
           try simp only [LYp]
           try dsimp only [List.set]
           clear hH
           refine U_on 43 fun K hK => ?_
           go_simp
           refine hK.out _ _ ⟨B1, B2, B3, B4, B5, B6, B7⟩ (fun hH => ?_)
           clear hK K
           try simp only [LYp]
           try dsimp only [List.set]
           refine U_tu 44 238 hH ?_
           try simp only [LYp]
           try dsimp only [List.set]
           refine U_tq 45 239 hH ?_
           try simp only [LYp]
           try dsimp only [List.set]
           clear hH
           refine U_endN (by kernel_rfl) ?_
           clear B1 B2 B3 B4 B5 B6 B7
           have AX33 : IntKind.i64.wrap ((b : Int) + 1) = (b : Int) + 1 := IntWalk.i64_in _ (by omega)
           go_wp2
           go_roundw
           case rel => exact ⟨b + 1, by omega, by go_num, hs, B0, Bla, Blb, Blx, Bly, h12, h21, h26⟩
           all_goals first | (simp [intOf]; done) | (simp [intOf]; omega)
         have q27d : ((b : Int) < (obs.length : Int)) = False := eq_false (by omega)
         go_wp2_with fail
         with_reducible refine (HAW.out _).mono ?_
         rintro e w45 ⟨rfl, hb⟩
         revert h26; revert h21; revert h12; revert Bly; revert Blx; revert Blb; revert Bla; revert B0; refine mS hs hb ?_; clear hs hb; intro hs B0 Bla Blb Blx Bly h12 h21 h26
         go_wp2
         go_ret
         exact ⟨rfl, hs⟩
   as_aux_lemma =>
    have hriH := Lib.hid hri
    have dri : (ri < 0) = False := eq_false (by omega)
    have drj : (rj < 0) = False := eq_false (by omega)
    have drk : (rk < 0) = False := eq_false (by omega)
    have dle : ((path.length : Int) - 1 ≤ ri) = False := eq_false (by omega)
    have dlo : ((obs.length : Int) ≤ rk) = False := eq_false (by omega)
    have dr0 : (0 ≤ ri) = True := eq_true (by omega)
    have AX5 : IntKind.i64.wrap ((path.length : Int) - 1) = (path.length : Int) - 1 := IntWalk.i64_in _ (by omega)
    have q6 : ¬ ((path.length : Int) - 1 ≤ ri) := (by omega)
    have q6d : ((path.length : Int) - 1 ≤ ri) = False := eq_false (by omega)
    have q7 : ¬ ((obs.length : Int) ≤ rk) := (by omega)
    have q7d : ((obs.length : Int) ≤ rk) = False := eq_false (by omega)
    have q8 : 0 ≤ ri := (by omega)
    have q8d : ((0 : Int) ≤ ri) = True := eq_true (by omega)
    obtain ⟨a, rfl⟩ : ∃ z : Nat, ri = (z : Int) := ⟨ri.toNat, by omega⟩
    obtain ⟨b, rfl⟩ : ∃ z : Nat, rk = (z : Int) := ⟨rk.toNat, by omega⟩
    obtain ⟨ha1, hb1, hal_⟩ := swo_alone HE0.out HG.out
    have HAL := Lib.hid hal_
    clear hal_
    obtain ⟨ob, oo, oc, hv_, hoc1, hoc2⟩ := rowI_open HO.out (by omega)
    obtain ⟨rfl, rfl⟩ := sliceE hv_
    clear hv_
    have sxa : ((0 : Int) ≤ (a : Int) + 2) = True := eq_true (by omega)
    have sxb : ((a : Int) + 2 ≤ (cl : Int)) = True := eq_true (by omega)
    have sxc : ((a : Int) + 2).toNat = a + 2 := by omega
    have sxe : (cl = a) = False := eq_false (by omega)
    have sxf : ((0 : Int) ≤ (b : Int) + 1) = True := eq_true (by omega)
    have sxg : ((b : Int) + 1 ≤ (ok : Int)) = True := eq_true (by omega)
    have sxh : (ok = b) = False := eq_false (by omega)
    go_upto_region 16 with fail
    have AX9 : IntKind.i64.wrap ((a : Int) + 2) = (a : Int) + 2 := IntWalk.i64_in _ (by omega)
    have AX10 : IntKind.i64.wrap ((b : Int) + 1) = (b : Int) + 1 := IntWalk.i64_in _ (by omega)
    refine U_region (S := fun w' => True) (by kernel_rfl) 22 ?_
    refine AnyU.abs ?_
    intro w23 hW
    have hb : Below w22.heap.size w22 w23 := by rw [hW]; exact bDrew _
    replace hs := bStep hs hb
    clear hb hW
    have hH := (show True from True.intro)
    refine U_tq 0 115 hH ?_
    try simp only [LYp]
    try dsimp only [List.set]
    refine U_tq 1 116 hH ?_
    try simp only [LYp]
    try dsimp only [List.set]
    refine U_tq 2 117 hH ?_
    try simp only [LYp]
    try dsimp only [List.set]
    refine U_tq 3 118 hH ?_
    try simp only [LYp]
    try dsimp only [List.set]
    refine U_tq 4 119 hH ?_
    try simp only [LYp]
    try dsimp only [List.set]
    refine U_tq 5 120 hH ?_
    try simp only [LYp]
    try dsimp only [List.set]
    refine U_tq 6 121 hH ?_
    try simp only [LYp]
    try dsimp only [List.set]
    refine U_tq 7 122 hH ?_
    try simp only [LYp]
    try dsimp only [List.set]
    refine U_tq 8 123 hH ?_
    try simp only [LYp]
    try dsimp only [List.set]
    refine U_tq 9 124 hH ?_
    try simp only [LYp]
    try dsimp only [List.set]
    refine U_tq 10 125 hH ?_
    try simp only [LYp]
    try dsimp only [List.set]
    refine U_tq 11 126 hH ?_
    try simp only [LYp]
    try dsimp only [List.set]
    refine U_tq 12 127 hH ?_
    try simp only [LYp]
    try dsimp only [List.set]
    refine U_tq 13 128 hH ?_
    try simp only [LYp]
    try dsimp only [List.set]
    clear hH
    refine U_on 14 fun K hK => ?_
    go_simp
    (with_reducible refine (pl_Sweep0 _ _ [ptZ path a, ptZ path (a + 1)] [bxZ obs b] u v _ (sub_two ha1 ▸ rows_sub (RowsI.mono IP.kept HL.out hs) (by omega) (by omega) (by omega)) (sub_one hb1 ▸ rows_sub (RowsI.mono IE.kept HO.out hs) (by omega) (by omega) (by omega)) HAL.out.1 HAL.out.2).mono ?_)
    rintro e w24 ⟨rfl, hb⟩
    replace hs := bStep hs hb
    clear hb
    try go_wp2_with fail
    refine hK.out _ _ True.intro (fun hH => ?_)
    clear hK K
    try simp only [LYp]
    try dsimp only [List.set]
    refine U_tq 15 114 hH ?_
    try simp only [LYp]
    try dsimp only [List.set]
    refine U_tq 16 130 hH ?_
    try simp only [LYp]
    try dsimp only [List.set]
    refine U_tq 17 131 hH ?_
    try simp only [LYp]
    try dsimp only [List.set]
    refine U_tq 18 132 hH ?_
    try simp only [LYp]
    try dsimp only [List.set]
    refine U_tq 19 20 hH ?_
    try simp only [LYp]
    try dsimp only [List.set]
    refine U_tq 20 21 hH ?_
    try simp only [LYp]
    try dsimp only [List.set]
    refine U_tq 21 22 hH ?_
    try simp only [LYp]
    try dsimp only [List.set]
    clear hH
    refine U_endN (by kernel_rfl) ?_
    go_wp2_with fail
    with_reducible refine (HAW.out _).mono ?_
    rintro e w25 ⟨rfl, hb⟩
    replace hs := bStep hs hb
    clear hb
    go_wp2
    go_ret
    exact ⟨rfl, hs⟩
 have q3b : (se == 0) = false := beq_eq_false_iff_ne.2 (by omega)
 have q3n : (se != 0) = true := bne_iff_ne.2 (by omega)
 have q3H := Lib.hid q3
 clear q3
 go_wp2_with fail
 with_reducible refine (HAW.out _).mono ?_
 rintro e w2 ⟨rfl, hb⟩
 replace hs := bStep hs hb
 clear hb
 go_wp2
 go_ret
 exact ⟨rfl, hs⟩
end Go.Proofs.YtbnomdlojmgigaaGreat
