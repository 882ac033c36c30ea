/-
  Where a point lies: steps of the count: plain.
-/
import Derived.Test.YtbnomdlojmgigaaGreatPkW16W
import Derived.Test.YtbnomdlojmgigaaGreatPlUW
set_option linter.unusedSimpArgs false
set_option linter.unusedVariables false
set_option maxRecDepth 100000
set_option maxHeartbeats 16000000
namespace Go.Proofs.YtbnomdlojmgigaaGreat
theorem wh_b (l : List Pt) (q : Pt) : ∀ k, -1 ≤ whK l q k ∧ whK l q k ≤ 1
  | 0 => by show -1 ≤ (-1 : Int) ∧ (-1 : Int) ≤ 1; omega
  | k + 1 => by
    have h := wh_b l q k
    unfold whK
    split <;> omega
theorem on_up {l : List Pt} {q : Pt} {k : Nat} (h : onB l q k = true) : ∀ n, k ≤ n → onB l q n = true
  | 0, hn => by obtain rfl : k = 0 := by omega
                exact h
  | n + 1, hn => by
    rcases Nat.lt_or_eq_of_le hn with hn | rfl
    · show (onB l q n || _) = true
      rw [on_up h n (by omega)]; rfl
    · exact h
theorem ix {l : List Pt} {q : Pt} {k : Nat} (h : onB l q k = false) : onB l q (k + 1) = onZ (ptZ l k) (ptZ l ((k + 1) % l.length)) q := by
  show (onB l q k || _) = _
  rw [h]; rfl
theorem wh_on {l : List Pt} {q : Pt} {k : Nat} (hk : k < l.length) (h : onZ (ptZ l k) (ptZ l ((k + 1) % l.length)) q = true) : whZ l q = 0 := by
  unfold whZ
  rw [if_pos (on_up (k := k + 1) (by show (onB l q k || _) = true; rw [h, Bool.or_true]) _ (by omega))]
theorem wh_end {l : List Pt} {q : Pt} {k : Nat} (hk : k = l.length) (h : onB l q k = false) : whZ l q = whK l q k := by
  subst hk
  unfold whZ
  rw [if_neg (by rw [h]; decide)]
theorem wh_t {l : List Pt} {q : Pt} {k : Nat} (h : ie (ptZ l k) (ptZ l ((k + 1) % l.length)) q = true) : whK l q (k + 1) = -whK l q k := if_pos h
theorem wh_f {l : List Pt} {q : Pt} {k : Nat} (h : ie (ptZ l k) (ptZ l ((k + 1) % l.length)) q = false) : whK l q (k + 1) = whK l q k := if_neg (by rw [h]; decide)
theorem mi {a b q : Pt} (h : b.2 < a.2) : ie a b q = (decide (b.2 ≤ q.2) && (decide (q.2 < a.2) && decide (0 < tnZ b a q))) := by unfold ie; rw [if_pos h, if_pos h]
theorem mh {a b q : Pt} (h : ¬ b.2 < a.2) : ie a b q = (decide (a.2 ≤ q.2) && (decide (q.2 < b.2) && decide (0 < tnZ a b q))) := by unfold ie; rw [if_neg h, if_neg h]
end Go.Proofs.YtbnomdlojmgigaaGreat
namespace Go.Proofs.YtbnomdlojmgigaaGreat
open Go.RowKit Dg
attribute [local go_sem ↓] Go.wp_at_zero Go.wp_at_succ
theorem je5 (v:Value) (l:List Pt) (q:Pt) (w:World) (hl:Pts w v l) (h0:0 < l.length) (h16:l.length≤16) (hr:∀j,j < l.length→rtB (ptZ l j)=true) (hq:WP 1048576 q):
  Calls Tryz.prog 20 #[v,.agg #[.int .i64 q.1,.int .i64 q.2]] w (fj w (.int .i64 (whZ l q))):=by
 obtain⟨bb,oo,cap,rfl,hc1,hc2⟩:=ep hl h0
 have hs:=Below.refl w.heap.size w
 have HL:=ae hl
 have HRA:=ae hr
 have HQ:=ae hq
 clear hl hr hq
 go_enter Tryz.func20,Tryz.ntmps20
 go_wp2
 refine Code.abs ?_
 intro w1 hW
 have hG:Gr [] w w1:=by rw[hW];exact (Gr.refl _ _).alloc
 have sz_w1:=hs.size
 have B4:Bx w1 (w.heap.size) 31 #[.int .i64 q.1,.int .i64 q.2]:=by rw[hW];exact (Bx.new0 _ _ _)
 replace hs:=hs.trans (hG.below0 hs.size)
 clear hW hG
 have hz_w1:=B4.lt
 go_loopw [5,6] (fun s5 s6 wq=>∃k:Nat,k≤l.length∧s6=.int .i64 k∧s5=.int .i64 (whK l q k)∧Below w.heap.size w wq∧Bx wq (w.heap.size) 31 #[.int .i64 q.1,.int .i64 q.2]∧(onB l q k=false)) (fun s5 s6 _=>l.length - (intOf s6).toNat)
 case atStart=>exact⟨0,Nat.zero_le _,rfl,rfl,hs,B4,rfl⟩
 case round=>
  clear B4 hs
  obtain⟨k,k_le,rfl,rfl,hs,B4,HO⟩:=hrel
  obtain⟨wl1,hwo⟩:∃x,x=wr:=⟨_,rfl⟩
  subst hwo
  replace HO:=ae HO
  have hwb:=wh_b l q k
  by_cases q1:k < l.length
  ·have q1d:((k:Int) < (l.length:Int))=True:=eq_true (by omega)
   obtain⟨B2,B9⟩:∃z:Pt,z=ptZ l ((k + 1) % l.length):=⟨_,rfl⟩
   have C3:WP 1048576 B2:=by rw[B9];exact jm (HRA.out _ (Nat.mod_lt _ (by omega)))
   replace B9:=ae B9
   go_upto_region 5 with fail
   obtain⟨Ba,Bb,le3⟩:=ij (be.mono IP.kept HL.out hs) (show k < l.length by omega)
   obtain⟨B3,Bc⟩:∃z:Pt,z=ptZ l k:=⟨_,rfl⟩
   rw[←Bc] at Ba Bb
   have C4:WP 1048576 B3:=by rw[Bc];exact (jm (HRA.out k (by omega)))
   replace Bc:=ae Bc
   go_cut [7,8] (fun kv0 kv1 wz=>∃ga gb,kv0=.pointer (some ⟨ga,0,none⟩)∧kv1=.pointer (some ⟨gb,0,none⟩)∧w.heap.size≤ga∧ga≠w.heap.size∧w.heap.size≤gb∧gb≠w.heap.size∧ga≠gb∧Bx wz ga 31 #[.int .i64 B3.1,.int .i64 B3.2]∧Bx wz gb 31 #[.int .i64 B2.1,.int .i64 B2.2]∧Below w.heap.size w wz∧Bx wz (w.heap.size) 31 #[.int .i64 q.1,.int .i64 q.2])
   case first=>
    refine bw (S:=fun w'=>w'.cell? ⟨bb,oo + k * 2,none⟩=some (.int .i64 B3.1)∧w'.cell? ⟨bb,oo + k * 2 + 1,none⟩=some (.int .i64 B3.2)) (by kernel_rfl) 10 ?_
    refine cq.abs ?_
    intro B6 hW
    have hb:Below wl1.heap.size wl1 B6:=by rw[hW];exact de _
    replace hs:=ar hs hb
    replace B4:=B4.mono hb
    replace Ba:=ah Ba hb
    replace Bb:=ah Bb hb
    clear hb hW
    obtain⟨FP,HP⟩:∃FP:World→Prop,∀W,FP W↔(Below w.heap.size w W∧Bx W (w.heap.size) 31 #[.int .i64 q.1,.int .i64 q.2]∧W.cell? ⟨bb,oo + k * 2,none⟩=some (.int .i64 B3.1)∧W.cell? ⟨bb,oo + k * 2 + 1,none⟩=some (.int .i64 B3.2)):=⟨_,fun _=>Iff.rfl⟩
    have HM:∀W W',FP W→Below W.heap.size W W'→FP W':=by intro W W' h hb;obtain⟨hs,B4,Ba,Bb⟩:=(HP _).1 h;exact (HP _).2 ⟨ar hs hb,B4.mono hb,ah Ba hb,ah Bb hb⟩
    have HC:∀W,FP W→W.cell? ⟨bb,oo + k * 2,none⟩=some (.int .i64 B3.1)∧W.cell? ⟨bb,oo + k * 2 + 1,none⟩=some (.int .i64 B3.2):=by intro W h;obtain⟨hs,B4,Ba,Bb⟩:=(HP _).1 h;exact⟨Ba,Bb⟩
    obtain⟨NE,HN⟩:∃NE:Nat→Prop,∀g,NE g↔(w.heap.size≠g∧bb≠g):=⟨_,fun _=>Iff.rfl⟩
    have HE:∀W,FP W→NE W.heap.size:=by intro W h;obtain⟨hs,B4,Ba,Bb⟩:=(HP _).1 h;exact (HN _).2 (⟨Nat.ne_of_lt B4.lt,Nat.ne_of_lt (block_lt_of_cell Ba)⟩)
    have HG:∀W W' g,FP W→Gr [g] W W'→aw W W'→w.heap.size≤g→NE g→FP W':=by intro W W' g h hG hk hg hn;obtain⟨hs,B4,Ba,Bb⟩:=(HP _).1 h;obtain⟨e_q,x0⟩:=(HN g).1 hn;exact (HP _).2 ⟨hs.trans (hG.below1 hs.size hg),hG.bx B4 (az e_q),hG.cell Ba (az x0),hG.cell Bb (az x0)⟩
    have F:FP B6:=(HP _).2 ⟨hs,B4,Ba,Bb⟩
    clear hs B4 Ba Bb
    have hH:=HC _ F
    refine U_td 0 15 hH ?_
    refine U_td 1 16 hH ?_
    refine U_td 2 17 hH ?_
    refine U_td 3 18 hH ?_
    refine U_td 4 19 hH ?_
    refine U_td 5 20 hH ?_
    clear hH
    refine ks ?_
    intro X a0 HX HA
    have Bv:∀(W:World) (B7:Nat) (B8:Nat),FP W→(w.heap.size≤B7)→(NE B7)→(Bx W B7 31 #[.int .i64 0,.int .i64 0])→(w.heap.size≤B8)→(NE B8)→(Bx W B8 31 #[.int .i64 0,.int .i64 0])→(B7≠B8)→X 2 (LB 11 511) (((a0.put (some 21) (.agg #[.int .i64 B2.1,.int .i64 B2.2])).put (some 7) (.pointer (some ⟨B7,0,none⟩))).put (some 8) (.pointer (some ⟨B8,0,none⟩))) W:=by
     intro W B7 B8 F Bg Be B0 Bh Bf B1 Bi
     rw[←HX.out,←HA.out]
     try simp only[LY]
     refine B0.k2fl fun Bj Bk fa La=>?_
     refine U_on 9 fun K hK=>?_
     go_simp
     generalize hW_:((W.setCell ⟨B7,0,none⟩ (.int .i64 B3.1)).setCell ⟨B7,1,none⟩ (.int .i64 B3.2))=Bd
     have hW:=hW_.symm
     clear hW_
     have hG:Gr [B7] W Bd:=by rw[hW];exact (Gr.refl _ _).set.set
     have hk:=hG.keep ⟨⟨_,B0.ty,by decide⟩,True.intro⟩
     replace B0:Bx Bd (B7) 31 #[.int .i64 B3.1,.int .i64 B3.2]:=by rw[hW];exact B0.set2
     replace F:=HG _ _ _ F hG hk Bg Be
     replace B1:=hG.b1 B1
     clear hW hG hk
     refine hK.out _ _ (HC _ F) (fun hH=>?_)
     clear hK K
     try simp only[LY]
     clear hH
     refine B1.k2fl fun Bl Bm fb Lb=>?_
     refine dr (by kernel_rfl) rfl (by kernel_rfl) (fun K hK=>?_)
     go_simp
     refine hK.out _ _ ?_
     clear hK K
     intro w24 hW
     have hG:Gr [B8] Bd w24:=by rw[hW];exact (Gr.refl _ _).set.set
     have hk:=hG.keep ⟨⟨_,B1.ty,by decide⟩,True.intro⟩
     replace B1:Bx w24 (B8) 31 #[.int .i64 B2.1,.int .i64 B2.2]:=by rw[hW];exact B1.set2
     replace F:=HG _ _ _ F hG hk Bh Bf
     replace B0:=hG.b1 B0
     clear hW hG hk
     obtain⟨hs,B4,Ba,Bb⟩:=(HP _).1 F
     try simp only[LY]
     obtain⟨e_q_a,x0_a⟩:=(HN _).1 Be
     obtain⟨e_q_b,x0_b⟩:=(HN _).1 Bf
     clear HX HA HM HP HC HG HN HE
     go_wp2_with fail
     go_meet
     exact⟨B7,B8,rfl,rfl,(by first|exact Bg|omega),(by omega),(by first|exact Bh|omega),(by omega),(by omega),B0,B1,hs,B4⟩
    replace Bv:=ae Bv
    have C0:∀(W:World) (B7:Nat) (B8:Nat),FP W→(w.heap.size≤B7)→(NE B7)→(Bx W B7 31 #[.int .i64 0,.int .i64 0])→(w.heap.size≤B8)→(NE B8)→(Bx W B8 31 #[.int .i64 0,.int .i64 0])→(B7≠B8)→X 3 (LB 11 447) ((a0.put (some 7) (.pointer (some ⟨B7,0,none⟩))).put (some 8) (.pointer (some ⟨B8,0,none⟩))) W:=by
     intro W B7 B8 F Bg Be B0 Bh Bf B1 Bi
     rw[←HX.out,←HA.out]
     try simp only[LY]
     refine U_on 6 fun K hK=>?_
     obtain⟨hs,B4,Ba,Bb⟩:=(HP _).1 F
     go_simp
     (with_reducible refine (dp _ l k ((k:Int)) _ (be.mono IP.kept HL.out hs) (by omega) (by omega) (by omega) (by omega) B9.out).mono ?_)
     rintro e W1 ⟨rfl,hb⟩
     replace F:=HM _ _ F hb
     revert B0 B1;refine mo hb ?_;intro B0 B1
     clear hb hs B4 Ba Bb
     try go_wp2_with fail
     exact hK.out _ _ (HC _ F) fun _=>bf HX HA (Bv.out W1 B7 B8 F Bg Be B0 Bh Bf B1 Bi)
    replace C0:=ae C0
    have Bz:∀(W:World) (B8:Nat),FP W→(w.heap.size≤B8)→(NE B8)→(Bx W B8 31 #[.int .i64 0,.int .i64 0])→X 3 (LB 11 383) ((a0.put (some 21) (.agg #[.int .i64 B2.1,.int .i64 B2.2])).put (some 8) (.pointer (some ⟨B8,0,none⟩))) W:=by
     intro W B8 F Bh Bf B1
     rw[←HX.out,←HA.out]
     try simp only[LY]
     refine U_on 7 fun K hK=>?_
     go_simp
     refine aq ((HP _).1 F).1 (fun W1 hb B0 Bg=>?_)
     have Be:=HE _ F
     have Bi:=Nat.ne_of_gt B1.lt
     replace F:=HM _ _ F hb
     replace B1:=B1.mono hb
     clear hb
     exact hK.out _ _ (HC _ F) fun _=>bf HX HA (Bv.out W1 W.heap.size B8 F Bg Be B0 Bh Bf B1 Bi)
    replace Bz:=ae Bz
    have By:∀(W:World) (B7:Nat),FP W→(w.heap.size≤B7)→(NE B7)→(Bx W B7 31 #[.int .i64 0,.int .i64 0])→X 3 (LB 11 255) ((a0.put (some 21) (.agg #[.int .i64 B2.1,.int .i64 B2.2])).put (some 7) (.pointer (some ⟨B7,0,none⟩))) W:=by
     intro W B7 F Bg Be B0
     rw[←HX.out,←HA.out]
     try simp only[LY]
     refine U_on 8 fun K hK=>?_
     go_simp
     refine aq ((HP _).1 F).1 (fun W1 hb B1 Bh=>?_)
     have Bf:=HE _ F
     have Bi:=Nat.ne_of_lt B0.lt
     replace F:=HM _ _ F hb
     replace B0:=B0.mono hb
     clear hb
     exact hK.out _ _ (HC _ F) fun _=>bf HX HA (Bv.out W1 B7 W.heap.size F Bg Be B0 Bh Bf B1 Bi)
    replace By:=ae By
    have C9:∀(W:World) (B8:Nat),FP W→(w.heap.size≤B8)→(NE B8)→(Bx W B8 31 #[.int .i64 0,.int .i64 0])→X 4 (LB 11 319) (a0.put (some 8) (.pointer (some ⟨B8,0,none⟩))) W:=by
     intro W B8 F Bh Bf B1
     rw[←HX.out,←HA.out]
     try simp only[LY]
     refine dq (i:=6) (j:=7) (by kernel_rfl) rfl rfl  (fun K hK=>?_) (fun K hK=>?_)
     ·obtain⟨hs,B4,Ba,Bb⟩:=(HP _).1 F
      go_simp
      (with_reducible refine (dp _ l k ((k:Int)) _ (be.mono IP.kept HL.out hs) (by omega) (by omega) (by omega) (by omega) B9.out).mono ?_)
      rintro e W1 ⟨rfl,hb⟩
      replace F:=HM _ _ F hb
      replace B1:=B1.mono hb
      clear hb hs B4 Ba Bb
      try go_wp2_with fail
      exact hK.out _ _ (HC _ F) fun _=>bf HX HA (Bz.out W1 B8 F Bh Bf B1)
     go_simp
     refine aq ((HP _).1 F).1 (fun W1 hb B0 Bg=>?_)
     have Be:=HE _ F
     have Bi:=Nat.ne_of_gt B1.lt
     replace F:=HM _ _ F hb
     replace B1:=B1.mono hb
     clear hb
     exact hK.out _ _ (HC _ F) fun _=>bf HX HA (C0.out W1 W.heap.size B8 F Bg Be B0 Bh Bf B1 Bi)
    replace C9:=ae C9
    have C8:∀(W:World) (B7:Nat),FP W→(w.heap.size≤B7)→(NE B7)→(Bx W B7 31 #[.int .i64 0,.int .i64 0])→X 4 (LB 11 191) (a0.put (some 7) (.pointer (some ⟨B7,0,none⟩))) W:=by
     intro W B7 F Bg Be B0
     rw[←HX.out,←HA.out]
     try simp only[LY]
     refine dq (i:=6) (j:=8) (by kernel_rfl) rfl rfl  (fun K hK=>?_) (fun K hK=>?_)
     ·obtain⟨hs,B4,Ba,Bb⟩:=(HP _).1 F
      go_simp
      (with_reducible refine (dp _ l k ((k:Int)) _ (be.mono IP.kept HL.out hs) (by omega) (by omega) (by omega) (by omega) B9.out).mono ?_)
      rintro e W1 ⟨rfl,hb⟩
      replace F:=HM _ _ F hb
      replace B0:=B0.mono hb
      clear hb hs B4 Ba Bb
      try go_wp2_with fail
      exact hK.out _ _ (HC _ F) fun _=>bf HX HA (By.out W1 B7 F Bg Be B0)
     go_simp
     refine aq ((HP _).1 F).1 (fun W1 hb B1 Bh=>?_)
     have Bf:=HE _ F
     have Bi:=Nat.ne_of_lt B0.lt
     replace F:=HM _ _ F hb
     replace B0:=B0.mono hb
     clear hb
     exact hK.out _ _ (HC _ F) fun _=>bf HX HA (C0.out W1 B7 W.heap.size F Bg Be B0 Bh Bf B1 Bi)
    replace C8:=ae C8
    have C7:∀(W:World),FP W→X 4 (LB 11 127) (a0.put (some 21) (.agg #[.int .i64 B2.1,.int .i64 B2.2])) W:=by
     intro W F
     rw[←HX.out,←HA.out]
     try simp only[LY]
     refine dq (i:=7) (j:=8) (by kernel_rfl) rfl rfl  (fun K hK=>?_) (fun K hK=>?_)
     ·go_simp
      refine aq ((HP _).1 F).1 (fun W1 hb B0 Bg=>?_)
      have Be:=HE _ F
      replace F:=HM _ _ F hb
      clear hb
      exact hK.out _ _ (HC _ F) fun _=>bf HX HA (By.out W1 W.heap.size F Bg Be B0)
     go_simp
     refine aq ((HP _).1 F).1 (fun W1 hb B1 Bh=>?_)
     have Bf:=HE _ F
     replace F:=HM _ _ F hb
     clear hb
     exact hK.out _ _ (HC _ F) fun _=>bf HX HA (Bz.out W1 W.heap.size F Bh Bf B1)
    replace C7:=ae C7
    have C6:∀(W:World),FP W→X 5 (LB 11 63) a0 W:=by
     intro W F
     rw[←HX.out,←HA.out]
     try simp only[LY]
     refine jv (i:=6) (j:=7) (k:=8) (by kernel_rfl) rfl rfl rfl  (fun K hK=>?_) (fun K hK=>?_) (fun K hK=>?_)
     ·obtain⟨hs,B4,Ba,Bb⟩:=(HP _).1 F
      go_simp
      (with_reducible refine (dp _ l k ((k:Int)) _ (be.mono IP.kept HL.out hs) (by omega) (by omega) (by omega) (by omega) B9.out).mono ?_)
      rintro e W1 ⟨rfl,hb⟩
      replace F:=HM _ _ F hb
      clear hb hs B4 Ba Bb
      try go_wp2_with fail
      exact hK.out _ _ (HC _ F) fun _=>bf HX HA (C7.out W1 F)
     ·go_simp
      refine aq ((HP _).1 F).1 (fun W1 hb B0 Bg=>?_)
      have Be:=HE _ F
      replace F:=HM _ _ F hb
      clear hb
      exact hK.out _ _ (HC _ F) fun _=>bf HX HA (C8.out W1 W.heap.size F Bg Be B0)
     go_simp
     refine aq ((HP _).1 F).1 (fun W1 hb B1 Bh=>?_)
     have Bf:=HE _ F
     replace F:=HM _ _ F hb
     clear hb
     exact hK.out _ _ (HC _ F) fun _=>bf HX HA (C9.out W1 W.heap.size F Bh Bf B1)
    replace C6:=ae C6
    rw[←HX.out]
    have B5:=C6.out B6 F
    rw[←HX.out] at B5
    exact U_at (by kernel_rfl) (by kernel_rfl) B5
   case rest=>
    clear hs Ba Bb B4
    obtain⟨ga,gb,rfl,rfl,hg_a,ng_a_q,hg_b,ng_b_q,ng_a_b,B0,B1,hs,B4⟩:=hcut
    refine B0.k2l fun Bj Bk La=>?_
    refine B1.k2l fun Bl Bm Lb=>?_
    refine B4.k2l fun Bo Bp Lq=>?_
    go_wp2_with fail
    clear Bj Bk Bl Bm Bo Bp La Lb Lq
    with_reducible refine (r2_on B3 B2 q _ C4 C3 HQ.out).mono ?_
    rintro e B6 ⟨rfl,hb⟩
    revert B4;revert B1;revert B0;refine mS hs hb ?_;clear hs hb;intro hs B0 B1 B4
    obtain⟨b4,C1⟩:∃zz:Bool,zz=onZ B3 B2 q:=⟨_,rfl⟩
    rw[←C1]
    replace C1:=ae C1
    by_cases q5:onZ B3 B2 q=true
    ·obtain rfl:b4=true:=by rw[C1.out];exact q5
     have Bu:=ae q5
     clear q5
     have C5:=ae (show whZ l q=0 from wh_on (k:=k) (by omega) (by rw[show ptZ l k=B3 from Bc.out.symm,show ptZ l ((k + 1) % l.length)=B2 from B9.out.symm];exact Bu.out))
     go_wp2
     go_ret
     exact⟨by rw[C5.out];rfl,hs⟩
    obtain rfl:b4=false:=by rw[C1.out];simpa using q5
    have Bu:=ae q5
    clear q5
    by_cases q6:B2.2 < B3.2
    ·have q6d:(B2.2 < B3.2)=True:=eq_true (by omega)
     by_cases q7:B2.2≤q.2
     ·have q7d:(B2.2≤q.2)=True:=eq_true (by omega)
      by_cases q8:q.2 < B3.2
      ·have q8d:(q.2 < B3.2)=True:=eq_true (by omega)
       refine B0.k2 fun Bj Bk=>?_
       refine B1.k2 fun Bl Bm=>?_
       refine B4.k2l fun Bo Bp Lq=>?_
       have fa:=B0.free
       have La:=B0.lt
       have fb:=B1.free
       have Lb:=B1.lt
       go_wp2_with fail
       clear Bj Bk Bl Bm Bo Bp fa fb La Lb Lq
       refine Calls.abs ?_
       intro Bd hW
       have hG:Gr [ga,gb] B6 Bd:=by rw[hW];exact (Gr.refl _ _).set.set.set.set
       have C2:=hs.size
       have la:=B0.lt
       have lb:=B1.lt
       have Bt:=hG.below2 hs.size (by first|omega|assumption) (by first|omega|assumption)
       have Bq:Bx Bd (ga) 31 #[.int .i64 B2.1,.int .i64 B2.2]:=by rw[hW];exact (Bx.far (Bx.far (Bx.set (Bx.set B0 0 _ rfl) 1 _ rfl) (by dsimp only;omega) _) (by dsimp only;omega) _)
       have Br:Bx Bd (gb) 31 #[.int .i64 B3.1,.int .i64 B3.2]:=by rw[hW];exact (Bx.set (Bx.set (Bx.far (Bx.far B1 (by dsimp only;omega) _) (by dsimp only;omega) _) 0 _ rfl) 1 _ rfl)
       replace hs:=hs.trans Bt
       replace B4:=hG.bx B4 (eh (by omega) (by omega))
       replace B0:=Bq
       clear Bq
       replace B1:=Br
       clear Br
       clear hW hG Bt C2 la lb
       with_reducible refine (kn B2 B3 q _ C3 C4 HQ.out).mono ?_
       rintro e w24 ⟨rfl,hb⟩
       revert B4 B0 B1;refine mS hs hb ?_;clear hs hb;intro hs B4 B0 B1
       obtain⟨Bw,Bn⟩:∃s:Int,s=tnZ B2 B3 q:=⟨_,rfl⟩
       rw[←Bn]
       replace Bn:=ae Bn
       by_cases q10:0 < Bw
       ·have Ca:((0:Int) < Bw)=True:=eq_true (by omega)
        have NX11:IntKind.i64.wrap (-(whK l q k))= -(whK l q k):=IntWalk.i64_in _ (by have:=wh_b l q k;omega)
        have AX12:IntKind.i64.wrap ((k:Int) + 1)=(k:Int) + 1:=IntWalk.i64_in _ (by omega)
        go_wp2
        go_roundw
        case rel=>exact⟨k + 1,by omega,by go_num,congrArg (Value.int .i64) (wh_t (show ie (ptZ l k) (ptZ l ((k + 1) % l.length)) q=true from by rw[show ptZ l k=B3 from Bc.out.symm,show ptZ l ((k + 1) % l.length)=B2 from B9.out.symm,mi (by omega),decide_eq_true (show (B2.2≤q.2) from by omega),decide_eq_true (show (q.2 < B3.2) from by omega),decide_eq_true (show (0 < tnZ B2 B3 q) from by rw[←Bn.out];omega)];rfl)).symm,hs,B4,(by rw[ix HO.out,show ptZ l k=B3 from Bc.out.symm,show ptZ l ((k + 1) % l.length)=B2 from B9.out.symm];exact Bool.eq_false_iff.2 Bu.out)⟩
        all_goals first|(simp[intOf];done)|(simp[intOf];omega)
       have Ca:((0:Int) < Bw)=False:=eq_false (by omega)
       have AX11:IntKind.i64.wrap ((k:Int) + 1)=(k:Int) + 1:=IntWalk.i64_in _ (by omega)
       go_wp2
       go_roundw
       case rel=>exact⟨k + 1,by omega,by go_num,congrArg (Value.int .i64) (wh_f (show ie (ptZ l k) (ptZ l ((k + 1) % l.length)) q=false from by rw[show ptZ l k=B3 from Bc.out.symm,show ptZ l ((k + 1) % l.length)=B2 from B9.out.symm,mi (by omega),decide_eq_true (show (B2.2≤q.2) from by omega),decide_eq_true (show (q.2 < B3.2) from by omega),decide_eq_false (show ¬ (0 < tnZ B2 B3 q) from by rw[←Bn.out];omega)];simp)).symm,hs,B4,(by rw[ix HO.out,show ptZ l k=B3 from Bc.out.symm,show ptZ l ((k + 1) % l.length)=B2 from B9.out.symm];exact Bool.eq_false_iff.2 Bu.out)⟩
       all_goals first|(simp[intOf];done)|(simp[intOf];omega)
      have q8d:(q.2 < B3.2)=False:=eq_false (by omega)
      refine B0.k2 fun Bj Bk=>?_
      refine B1.k2 fun Bl Bm=>?_
      refine B4.k2l fun Bo Bp Lq=>?_
      have fa:=B0.free
      have La:=B0.lt
      have fb:=B1.free
      have Lb:=B1.lt
      go_upto_region 4 with fail
      clear Bj Bk Bl Bm Bo Bp fa fb La Lb Lq
      refine Code.abs ?_
      intro Bd hW
      have hG:Gr [ga,gb] B6 Bd:=by rw[hW];exact (Gr.refl _ _).set.set.set.set
      have C2:=hs.size
      have la:=B0.lt
      have lb:=B1.lt
      have Bt:=hG.below2 hs.size (by first|omega|assumption) (by first|omega|assumption)
      have Bq:Bx Bd (ga) 31 #[.int .i64 B2.1,.int .i64 B2.2]:=by rw[hW];exact (Bx.far (Bx.far (Bx.set (Bx.set B0 0 _ rfl) 1 _ rfl) (by dsimp only;omega) _) (by dsimp only;omega) _)
      have Br:Bx Bd (gb) 31 #[.int .i64 B3.1,.int .i64 B3.2]:=by rw[hW];exact (Bx.set (Bx.set (Bx.far (Bx.far B1 (by dsimp only;omega) _) (by dsimp only;omega) _) 0 _ rfl) 1 _ rfl)
      replace hs:=hs.trans Bt
      replace B4:=hG.bx B4 (eh (by omega) (by omega))
      replace B0:=Bq
      clear Bq
      replace B1:=Br
      clear Br
      clear hW hG Bt C2 la lb
      have AX9:IntKind.i64.wrap ((k:Int) + 1)=(k:Int) + 1:=IntWalk.i64_in _ (by omega)
      go_wp2
      go_roundw
      case rel=>exact⟨k + 1,by omega,by go_num,congrArg (Value.int .i64) (wh_f (show ie (ptZ l k) (ptZ l ((k + 1) % l.length)) q=false from by rw[show ptZ l k=B3 from Bc.out.symm,show ptZ l ((k + 1) % l.length)=B2 from B9.out.symm,mi (by omega),decide_eq_true (show (B2.2≤q.2) from by omega),decide_eq_false (show ¬ (q.2 < B3.2) from by omega)];simp)).symm,hs,B4,(by rw[ix HO.out,show ptZ l k=B3 from Bc.out.symm,show ptZ l ((k + 1) % l.length)=B2 from B9.out.symm];exact Bool.eq_false_iff.2 Bu.out)⟩
      all_goals first|(simp[intOf];done)|(simp[intOf];omega)
     have q7d:(B2.2≤q.2)=False:=eq_false (by omega)
     refine B0.k2 fun Bj Bk=>?_
     refine B1.k2 fun Bl Bm=>?_
     refine B4.k2l fun Bo Bp Lq=>?_
     have fa:=B0.free
     have La:=B0.lt
     have fb:=B1.free
     have Lb:=B1.lt
     go_upto_region 4 with fail
     clear Bj Bk Bl Bm Bo Bp fa fb La Lb Lq
     refine Code.abs ?_
     intro Bd hW
     have hG:Gr [ga,gb] B6 Bd:=by rw[hW];exact (Gr.refl _ _).set.set.set.set
     have C2:=hs.size
     have la:=B0.lt
     have lb:=B1.lt
     have Bt:=hG.below2 hs.size (by first|omega|assumption) (by first|omega|assumption)
     have Bq:Bx Bd (ga) 31 #[.int .i64 B2.1,.int .i64 B2.2]:=by rw[hW];exact (Bx.far (Bx.far (Bx.set (Bx.set B0 0 _ rfl) 1 _ rfl) (by dsimp only;omega) _) (by dsimp only;omega) _)
     have Br:Bx Bd (gb) 31 #[.int .i64 B3.1,.int .i64 B3.2]:=by rw[hW];exact (Bx.set (Bx.set (Bx.far (Bx.far B1 (by dsimp only;omega) _) (by dsimp only;omega) _) 0 _ rfl) 1 _ rfl)
     replace hs:=hs.trans Bt
     replace B4:=hG.bx B4 (eh (by omega) (by omega))
     replace B0:=Bq
     clear Bq
     replace B1:=Br
     clear Br
     clear hW hG Bt C2 la lb
     have AX8:IntKind.i64.wrap ((k:Int) + 1)=(k:Int) + 1:=IntWalk.i64_in _ (by omega)
     go_wp2
     go_roundw
     case rel=>exact⟨k + 1,by omega,by go_num,congrArg (Value.int .i64) (wh_f (show ie (ptZ l k) (ptZ l ((k + 1) % l.length)) q=false from by rw[show ptZ l k=B3 from Bc.out.symm,show ptZ l ((k + 1) % l.length)=B2 from B9.out.symm,mi (by omega),decide_eq_false (show ¬ (B2.2≤q.2) from by omega)];simp)).symm,hs,B4,(by rw[ix HO.out,show ptZ l k=B3 from Bc.out.symm,show ptZ l ((k + 1) % l.length)=B2 from B9.out.symm];exact Bool.eq_false_iff.2 Bu.out)⟩
     all_goals first|(simp[intOf];done)|(simp[intOf];omega)
    have q6d:(B2.2 < B3.2)=False:=eq_false (by omega)
    by_cases q7:B3.2≤q.2
    ·have q7d:(B3.2≤q.2)=True:=eq_true (by omega)
     by_cases q8:q.2 < B2.2
     ·have q8d:(q.2 < B2.2)=True:=eq_true (by omega)
      refine B0.k2l fun Bj Bk La=>?_
      refine B1.k2l fun Bl Bm Lb=>?_
      refine B4.k2l fun Bo Bp Lq=>?_
      go_wp2_with fail
      clear Bj Bk Bl Bm Bo Bp La Lb Lq
      with_reducible refine (kn B3 B2 q _ C4 C3 HQ.out).mono ?_
      rintro e Bd ⟨rfl,hb⟩
      revert B4;revert B1;revert B0;refine mS hs hb ?_;clear hs hb;intro hs B0 B1 B4
      obtain⟨Bw,Bn⟩:∃s:Int,s=tnZ B3 B2 q:=⟨_,rfl⟩
      rw[←Bn]
      replace Bn:=ae Bn
      by_cases q10:0 < Bw
      ·have Ca:((0:Int) < Bw)=True:=eq_true (by omega)
       have NX11:IntKind.i64.wrap (-(whK l q k))= -(whK l q k):=IntWalk.i64_in _ (by have:=wh_b l q k;omega)
       have AX12:IntKind.i64.wrap ((k:Int) + 1)=(k:Int) + 1:=IntWalk.i64_in _ (by omega)
       go_wp2
       go_roundw
       case rel=>exact⟨k + 1,by omega,by go_num,congrArg (Value.int .i64) (wh_t (show ie (ptZ l k) (ptZ l ((k + 1) % l.length)) q=true from by rw[show ptZ l k=B3 from Bc.out.symm,show ptZ l ((k + 1) % l.length)=B2 from B9.out.symm,mh (by omega),decide_eq_true (show (B3.2≤q.2) from by omega),decide_eq_true (show (q.2 < B2.2) from by omega),decide_eq_true (show (0 < tnZ B3 B2 q) from by rw[←Bn.out];omega)];rfl)).symm,hs,B4,(by rw[ix HO.out,show ptZ l k=B3 from Bc.out.symm,show ptZ l ((k + 1) % l.length)=B2 from B9.out.symm];exact Bool.eq_false_iff.2 Bu.out)⟩
       all_goals first|(simp[intOf];done)|(simp[intOf];omega)
      have Ca:((0:Int) < Bw)=False:=eq_false (by omega)
      have AX11:IntKind.i64.wrap ((k:Int) + 1)=(k:Int) + 1:=IntWalk.i64_in _ (by omega)
      go_wp2
      go_roundw
      case rel=>exact⟨k + 1,by omega,by go_num,congrArg (Value.int .i64) (wh_f (show ie (ptZ l k) (ptZ l ((k + 1) % l.length)) q=false from by rw[show ptZ l k=B3 from Bc.out.symm,show ptZ l ((k + 1) % l.length)=B2 from B9.out.symm,mh (by omega),decide_eq_true (show (B3.2≤q.2) from by omega),decide_eq_true (show (q.2 < B2.2) from by omega),decide_eq_false (show ¬ (0 < tnZ B3 B2 q) from by rw[←Bn.out];omega)];simp)).symm,hs,B4,(by rw[ix HO.out,show ptZ l k=B3 from Bc.out.symm,show ptZ l ((k + 1) % l.length)=B2 from B9.out.symm];exact Bool.eq_false_iff.2 Bu.out)⟩
      all_goals first|(simp[intOf];done)|(simp[intOf];omega)
     have q8d:(q.2 < B2.2)=False:=eq_false (by omega)
     have AX9:IntKind.i64.wrap ((k:Int) + 1)=(k:Int) + 1:=IntWalk.i64_in _ (by omega)
     refine B0.k2l fun Bj Bk La=>?_
     refine B1.k2l fun Bl Bm Lb=>?_
     refine B4.k2l fun Bo Bp Lq=>?_
     go_wp2
     go_roundw
     case rel=>exact⟨k + 1,by omega,by go_num,congrArg (Value.int .i64) (wh_f (show ie (ptZ l k) (ptZ l ((k + 1) % l.length)) q=false from by rw[show ptZ l k=B3 from Bc.out.symm,show ptZ l ((k + 1) % l.length)=B2 from B9.out.symm,mh (by omega),decide_eq_true (show (B3.2≤q.2) from by omega),decide_eq_false (show ¬ (q.2 < B2.2) from by omega)];simp)).symm,hs,B4,(by rw[ix HO.out,show ptZ l k=B3 from Bc.out.symm,show ptZ l ((k + 1) % l.length)=B2 from B9.out.symm];exact Bool.eq_false_iff.2 Bu.out)⟩
     all_goals first|(simp[intOf];done)|(simp[intOf];omega)
    have q7d:(B3.2≤q.2)=False:=eq_false (by omega)
    have AX8:IntKind.i64.wrap ((k:Int) + 1)=(k:Int) + 1:=IntWalk.i64_in _ (by omega)
    refine B0.k2l fun Bj Bk La=>?_
    refine B1.k2l fun Bl Bm Lb=>?_
    refine B4.k2l fun Bo Bp Lq=>?_
    go_wp2
    go_roundw
    case rel=>exact⟨k + 1,by omega,by go_num,congrArg (Value.int .i64) (wh_f (show ie (ptZ l k) (ptZ l ((k + 1) % l.length)) q=false from by rw[show ptZ l k=B3 from Bc.out.symm,show ptZ l ((k + 1) % l.length)=B2 from B9.out.symm,mh (by omega),decide_eq_false (show ¬ (B3.2≤q.2) from by omega)];simp)).symm,hs,B4,(by rw[ix HO.out,show ptZ l k=B3 from Bc.out.symm,show ptZ l ((k + 1) % l.length)=B2 from B9.out.symm];exact Bool.eq_false_iff.2 Bu.out)⟩
    all_goals first|(simp[intOf];done)|(simp[intOf];omega)
  have q1d:((k:Int) < (l.length:Int))=False:=eq_false (by omega)
  have C5:=ae (show whZ l q=whK l q k from wh_end (by omega) HO.out)
  go_wp2
  go_ret
  exact⟨by rw[C5.out];rfl,hs⟩
end Go.Proofs.YtbnomdlojmgigaaGreat
