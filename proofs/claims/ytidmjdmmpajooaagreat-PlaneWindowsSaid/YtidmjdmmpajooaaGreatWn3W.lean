/-
  The reference's words for windows: the window with the greatest area of gaps.
-/
import Derived.Test.YtidmjdmmpajooaaGreatPkW17W
set_option linter.unusedSimpArgs false
set_option linter.unusedVariables false
set_option maxRecDepth 100000
set_option maxHeartbeats 16000000
namespace Go.Proofs.YtidmjdmmpajooaaGreat
open Go.RowKit Dg
attribute [local go_sem ↓] Go.wp_at_zero Go.wp_at_succ
theorem wnp {x:Int} (h1: -2097152≤x) (h2:x≤2097152):Wn 2097152 x:=⟨h1,h2⟩
theorem r2_Window (v:Value) (L:List Bxx) (rp rq:Pt) (ww hh:Int) (w:World) (hl:Bxs w v L) (h4:L.length≤4∨24 < L.length) {B:Bxx} {n er_:Int} (hB:B=(winR L rp rq ww hh).1) (hn:n=(winR L rp rq ww hh).2) (he:er_=wnE L rp rq ww hh):
  Calls Tryz.prog 7 #[v,.agg #[.int .i64 rp.1,.int .i64 rp.2,.int .i64 rq.1,.int .i64 rq.2],.int .i64 ww,.int .i64 hh] w (fj w (.tuple #[.agg #[.int .i64 B.1.1,.int .i64 B.1.2,.int .i64 B.2.1,.int .i64 B.2.2],.int .i64 n,.int .i64 er_])):=by
 obtain⟨ao,cl,rfl, -, -, -⟩:=hl.slice
 have hs:=Below.refl w.heap.size w
 have HO:=ae hl
 have HB:=ae hB
 have HN:=ae hn
 have HE_:=ae he
 clear hl hB hn he
 obtain⟨i0,hi,hz0,hz1,hz2⟩:=info_parts int_info
 go_enter Tryz.func7,Tryz.ntmps7
 go_wp2_with fail
 refine Calls.abs ?_
 intro w1 hW
 have hG:Gr [] w w1:=by rw[hW];exact (Gr.refl _ _).alloc.alloc
 have sz_w1:=hs.size
 have B0:Bx w1 (w.heap.size) 26 #[.int .i64 rp.1,.int .i64 rp.2,.int .i64 rq.1,.int .i64 rq.2]:=by rw[hW];exact ((Bx.new0 _ _ _).alloc _)
 have Blk:Bx w1 (w.heap.size + 1) 26 #[.int .i64 0,.int .i64 0,.int .i64 0,.int .i64 0]:=by rw[hW];exact (Bx.new0 _ _ _)
 replace hs:=hs.trans (hG.below0 hs.size)
 clear hW hG
 have hz_w1:=Blk.lt
 with_reducible refine (r2_ValidBoxes _ L _ (be.mono IE.kept HO.out hs)).mono ?_
 rintro e w2 ⟨rfl,hb⟩
 revert B0 Blk;refine mS hs hb ?_;clear hs hb;intro hs B0 Blk
 obtain⟨er1,Her1⟩:∃s:Int,s=bxsE L:=⟨_,rfl⟩
 rw[←Her1]
 replace Her1:=ae Her1
 by_cases q2:er1=0
 ·have q2b:(er1 == 0)=true:=beq_iff_eq.2 (by omega)
  have q2n:(er1 != 0)=false:=bne_eq_false_iff_eq.2 (by omega)
  have q2H:=ae q2
  clear q2
  refine B0.k4l fun B6 B7 B8 B9 Lregion=>?_
  go_wp2_with fail
  clear B6 B7 B8 B9 Lregion
  with_reducible refine (r2_ValidBox rp rq _).mono ?_
  rintro e w3 ⟨rfl,hb⟩
  revert B0 Blk;refine mS hs hb ?_;clear hs hb;intro hs B0 Blk
  obtain⟨eb3,Heb3⟩:∃s:Int,s=bxE (rp,rq):=⟨_,rfl⟩
  rw[←Heb3]
  replace Heb3:=ae Heb3
  by_cases q4:eb3=0
  ·have q4b:(eb3 == 0)=true:=beq_iff_eq.2 (by omega)
   have q4n:(eb3 != 0)=false:=bne_eq_false_iff_eq.2 (by omega)
   have q4H:=ae q4
   clear q4
   by_cases q5:ww < 1
   ·have q5d:(ww < 1)=True:=eq_true (by omega)
    have hWE:=ae (show wnE L rp rq ww hh=1 from we_3 (Her1.out.symm.trans q2H.out) (Heb3.out.symm.trans q4H.out) (by omega))
    refine Blk.k4fl fun Ba Bb Bc Bd fk Lk=>?_
    go_wp2
    clear Ba Bb Bc Bd fk Lk
    refine bodyPost.abs ?_
    intro w4 hW
    have hG:Gr [w.heap.size + 1] w3 w4:=by rw[hW];exact (Gr.refl _ _).set.set.set.set
    have hsz:=hs.size
    have lk:=Blk.lt
    have Bl1k:Bx w4 (w.heap.size + 1) 26 #[.int .i64 0,.int .i64 0,.int .i64 0,.int .i64 0]:=by rw[hW];exact (Bx.set (Bx.set (Bx.set (Bx.set Blk 0 _ rfl) 1 _ rfl) 2 _ rfl) 3 _ rfl)
    replace hs:=hs.trans (hG.d1 hs.size)
    replace B0:=hG.b1 B0
    replace Blk:=Bl1k
    clear Bl1k
    clear hW hG hsz lk
    refine Blk.k4 fun Ba Bb Bc Bd=>?_
    exact bodyPost_ret (v:=.tuple #[.agg #[.int .i64 0,.int .i64 0,.int .i64 0,.int .i64 0],.int .i64 0,.int .i64 1]) (by simp[results,Tryz.results7,go_sem,Ba,Bb,Bc,Bd]) rfl ⟨by rw[show B=((0,0),(0,0)) from by rw[HB.out,win_err (by rw[hWE.out];decide)],show n=0 from by rw[HN.out,win_err (by rw[hWE.out];decide)],show er_=1 from by rw[HE_.out,hWE.out]],hs⟩
   have q5d:(ww < 1)=False:=eq_false (by omega)
   by_cases q6:hh < 1
   ·have q6d:(hh < 1)=True:=eq_true (by omega)
    have hWE:=ae (show wnE L rp rq ww hh=1 from we_3 (Her1.out.symm.trans q2H.out) (Heb3.out.symm.trans q4H.out) (by omega))
    refine Blk.k4fl fun Ba Bb Bc Bd fk Lk=>?_
    go_wp2
    clear Ba Bb Bc Bd fk Lk
    refine bodyPost.abs ?_
    intro w4 hW
    have hG:Gr [w.heap.size + 1] w3 w4:=by rw[hW];exact (Gr.refl _ _).set.set.set.set
    have hsz:=hs.size
    have lk:=Blk.lt
    have Bl1k:Bx w4 (w.heap.size + 1) 26 #[.int .i64 0,.int .i64 0,.int .i64 0,.int .i64 0]:=by rw[hW];exact (Bx.set (Bx.set (Bx.set (Bx.set Blk 0 _ rfl) 1 _ rfl) 2 _ rfl) 3 _ rfl)
    replace hs:=hs.trans (hG.d1 hs.size)
    replace B0:=hG.b1 B0
    replace Blk:=Bl1k
    clear Bl1k
    clear hW hG hsz lk
    refine Blk.k4 fun Ba Bb Bc Bd=>?_
    exact bodyPost_ret (v:=.tuple #[.agg #[.int .i64 0,.int .i64 0,.int .i64 0,.int .i64 0],.int .i64 0,.int .i64 1]) (by simp[results,Tryz.results7,go_sem,Ba,Bb,Bc,Bd]) rfl ⟨by rw[show B=((0,0),(0,0)) from by rw[HB.out,win_err (by rw[hWE.out];decide)],show n=0 from by rw[HN.out,win_err (by rw[hWE.out];decide)],show er_=1 from by rw[HE_.out,hWE.out]],hs⟩
   have q6d:(hh < 1)=False:=eq_false (by omega)
   have HEA:=ae (Her1.out.symm.trans q2H.out)
   have HEB:=ae (Heb3.out.symm.trans q4H.out)
   have hrb:=bx_ok HEB.out
   have hb1:=hrb.1.1
   have hb2:=hrb.1.2
   have hb3:=hrb.2.1
   have hb4:=hrb.2.2
   unfold Wn at hb1 hb2 hb3 hb4
   simp only at hb1 hb2 hb3 hb4
   clear hrb
   have h44:L.length≤4:=by have:=(bxs_ok HEA.out).1;omega
   have AX7:IntKind.i64.wrap (rq.1 - rp.1)=rq.1 - rp.1:=IntWalk.i64_in _ (by omega)
   by_cases q8:rq.1 - rp.1 < ww
   ·have q8d:(rq.1 - rp.1 < ww)=True:=eq_true (by omega)
    have hWE:=ae (show wnE L rp rq ww hh=5 from we_4 HEA.out HEB.out (by omega) (by omega))
    refine B0.k4l fun B6 B7 B8 B9 Lregion=>?_
    refine Blk.k4fl fun Ba Bb Bc Bd fk Lk=>?_
    go_wp2
    clear B6 B7 B8 B9 Ba Bb Bc Bd fk Lregion Lk
    refine bodyPost.abs ?_
    intro w4 hW
    have hG:Gr [w.heap.size + 1] w3 w4:=by rw[hW];exact (Gr.refl _ _).set.set.set.set
    have hsz:=hs.size
    have lk:=Blk.lt
    have Bl1k:Bx w4 (w.heap.size + 1) 26 #[.int .i64 0,.int .i64 0,.int .i64 0,.int .i64 0]:=by rw[hW];exact (Bx.set (Bx.set (Bx.set (Bx.set Blk 0 _ rfl) 1 _ rfl) 2 _ rfl) 3 _ rfl)
    replace hs:=hs.trans (hG.d1 hs.size)
    replace B0:=hG.b1 B0
    replace Blk:=Bl1k
    clear Bl1k
    clear hW hG hsz lk
    refine Blk.k4 fun Ba Bb Bc Bd=>?_
    exact bodyPost_ret (v:=.tuple #[.agg #[.int .i64 0,.int .i64 0,.int .i64 0,.int .i64 0],.int .i64 0,.int .i64 5]) (by simp[results,Tryz.results7,go_sem,Ba,Bb,Bc,Bd]) rfl ⟨by rw[show B=((0,0),(0,0)) from by rw[HB.out,win_err (by rw[hWE.out];decide)],show n=0 from by rw[HN.out,win_err (by rw[hWE.out];decide)],show er_=5 from by rw[HE_.out,hWE.out]],hs⟩
   have q8d:(rq.1 - rp.1 < ww)=False:=eq_false (by omega)
   have AX9:IntKind.i64.wrap (rq.2 - rp.2)=rq.2 - rp.2:=IntWalk.i64_in _ (by omega)
   by_cases q10:rq.2 - rp.2 < hh
   ·have q10d:(rq.2 - rp.2 < hh)=True:=eq_true (by omega)
    have hWE:=ae (show wnE L rp rq ww hh=5 from we_4 HEA.out HEB.out (by omega) (by omega))
    refine B0.k4l fun B6 B7 B8 B9 Lregion=>?_
    refine Blk.k4fl fun Ba Bb Bc Bd fk Lk=>?_
    go_wp2
    clear B6 B7 B8 B9 Ba Bb Bc Bd fk Lregion Lk
    refine bodyPost.abs ?_
    intro w4 hW
    have hG:Gr [w.heap.size + 1] w3 w4:=by rw[hW];exact (Gr.refl _ _).set.set.set.set
    have hsz:=hs.size
    have lk:=Blk.lt
    have Bl1k:Bx w4 (w.heap.size + 1) 26 #[.int .i64 0,.int .i64 0,.int .i64 0,.int .i64 0]:=by rw[hW];exact (Bx.set (Bx.set (Bx.set (Bx.set Blk 0 _ rfl) 1 _ rfl) 2 _ rfl) 3 _ rfl)
    replace hs:=hs.trans (hG.d1 hs.size)
    replace B0:=hG.b1 B0
    replace Blk:=Bl1k
    clear Bl1k
    clear hW hG hsz lk
    refine Blk.k4 fun Ba Bb Bc Bd=>?_
    exact bodyPost_ret (v:=.tuple #[.agg #[.int .i64 0,.int .i64 0,.int .i64 0,.int .i64 0],.int .i64 0,.int .i64 5]) (by simp[results,Tryz.results7,go_sem,Ba,Bb,Bc,Bd]) rfl ⟨by rw[show B=((0,0),(0,0)) from by rw[HB.out,win_err (by rw[hWE.out];decide)],show n=0 from by rw[HN.out,win_err (by rw[hWE.out];decide)],show er_=5 from by rw[HE_.out,hWE.out]],hs⟩
   have q10d:(rq.2 - rp.2 < hh)=False:=eq_false (by omega)
   refine B0.k4l fun B6 B7 B8 B9 Lregion=>?_
   go_wp2
   clear B6 B7 B8 B9 Lregion
   have HB0_11:=ae hs
   clear hs
   have hs:=Below.refl w3.heap.size w3
   have nb_region:=B0.lt
   have nb_k:=Blk.lt
   go_loopw [13,14,15] (fun s13 s14 s15 wq=>∃a:Nat,a≤L.length∧s15=.int .i64 a∧Below w3.heap.size w3 wq∧Bx wq (w.heap.size) 26 #[.int .i64 rp.1,.int .i64 rp.2,.int .i64 rq.1,.int .i64 rq.2]∧Bx wq (w.heap.size + 1) 26 #[.int .i64 0,.int .i64 0,.int .i64 0,.int .i64 0]∧cw w3.heap.size 3 1 IC wq s13 (exX L a)∧cw w3.heap.size 3 1 IC wq s14 (exY L a)∧(Ap2 s13.ownBlock s14.ownBlock)) (fun s13 s14 s15 _=>L.length - (intOf s15).toNat)
   case atStart=>exact⟨0,Nat.zero_le _,rfl,hs,B0,Blk,cw.nil _ _ _ _ _,cw.nil _ _ _ _ _,Ap2.nil _⟩
   case round=>
    clear B0 Blk hs
    obtain⟨a,k_le,rfl,hs,B0,Blk,Oox,Ooy,Aq_ox_oy⟩:=hrel
    obtain⟨wl0,hwo⟩:∃x,x=wr:=⟨_,rfl⟩
    subst hwo
    by_cases q12:a < L.length
    ·have q12d:((a:Int) < (L.length:Int))=True:=eq_true (by omega)
     obtain⟨ob,oo,oc,hv_,hpc1,hpc2⟩:=ep HO.out (by omega)
     obtain⟨rfl,rfl⟩:=yk hv_
     clear hv_
     have hobL:ob < w.heap.size:=(jf0 HO.out (show 0 < L.length by omega)).2.2.2.2
     have hobB:ob < w3.heap.size:=Nat.lt_of_lt_of_le hobL HB0_11.out.size
     go_upto_region 15 with fail
     obtain⟨B2,B3,B4,B5,le13⟩:=jf0 (be.mono IE.kept HO.out (ar HB0_11.out hs)) (show a < L.length by omega)
     obtain⟨pe13,Hpe13⟩:∃z:Pt,z=(bxZ L a).1:=⟨_,rfl⟩
     obtain⟨qe13,Hqe13⟩:∃z:Pt,z=(bxZ L a).2:=⟨_,rfl⟩
     rw[show (L.getD a ((0,0),(0,0))).1.1=pe13.1 from by rw[Hpe13];rfl] at B2
     rw[show (L.getD a ((0,0),(0,0))).1.2=pe13.2 from by rw[Hpe13];rfl] at B3
     rw[show (L.getD a ((0,0),(0,0))).2.1=qe13.1 from by rw[Hqe13];rfl] at B4
     rw[show (L.getD a ((0,0),(0,0))).2.2=qe13.2 from by rw[Hqe13];rfl] at B5
     replace Hpe13:=ae Hpe13
     replace Hqe13:=ae Hqe13
     refine bw (S:=fun w'=>w'.cell? ⟨ob,oo + a * 4,none⟩=some (.int .i64 pe13.1)∧w'.cell? ⟨ob,oo + a * 4 + 1,none⟩=some (.int .i64 pe13.2)∧w'.cell? ⟨ob,oo + a * 4 + 2,none⟩=some (.int .i64 qe13.1)∧w'.cell? ⟨ob,oo + a * 4 + 3,none⟩=some (.int .i64 qe13.2)) (by kernel_rfl) 31 ?_
     refine cq.abs ?_
     intro w24 hW
     have hb:Below wl0.heap.size wl0 w24:=by rw[hW];exact de _
     replace hs:=ar hs hb
     revert Blk;revert B0;refine mo hb ?_;intro B0 Blk
     replace Oox:=Oox.mono IC.kept hb
     replace Ooy:=Ooy.mono IC.kept hb
     replace B2:=ah B2 hb
     replace B3:=ah B3 hb
     replace B4:=ah B4 hb
     replace B5:=ah B5 hb
     clear hb hW
     have hH:=(show w24.cell? ⟨ob,oo + a * 4,none⟩=some (.int .i64 pe13.1)∧w24.cell? ⟨ob,oo + a * 4 + 1,none⟩=some (.int .i64 pe13.2)∧w24.cell? ⟨ob,oo + a * 4 + 2,none⟩=some (.int .i64 qe13.1)∧w24.cell? ⟨ob,oo + a * 4 + 3,none⟩=some (.int .i64 qe13.2) from ⟨B2,B3,B4,B5⟩)
     refine cz 0 ?_ ?_ hH ?_
     rotate_left
     ·(intro w hSw;(try dsimp only at hSw);go_simp;try with_reducible rfl)
     try simp only[LY]
     refine cz 1 ?_ ?_ hH ?_
     rotate_left
     ·(intro w hSw;(try dsimp only at hSw);go_simp;try with_reducible rfl)
     try simp only[LY]
     refine cz 2 ?_ ?_ hH ?_
     rotate_left
     ·(intro w hSw;(try dsimp only at hSw);go_simp;try with_reducible rfl)
     try simp only[LY]
     refine cz 3 ?_ ?_ hH ?_
     rotate_left
     ·(intro w hSw;(try dsimp only at hSw);go_simp;try with_reducible rfl)
     try simp only[LY]
     refine cz 4 ?_ ?_ hH ?_
     rotate_left
     ·(intro w hSw;(try dsimp only at hSw);go_simp;try with_reducible rfl)
     try simp only[LY]
     refine cz 5 ?_ ?_ hH ?_
     rotate_left
     ·(intro w hSw;(try dsimp only at hSw);go_simp;try with_reducible rfl)
     try simp only[LY]
     refine cz 6 ?_ ?_ hH ?_
     rotate_left
     ·(intro w hSw;(try dsimp only at hSw);go_simp;try with_reducible rfl)
     try simp only[LY]
     refine cz 7 ?_ ?_ hH ?_
     rotate_left
     ·(intro w hSw;(try dsimp only at hSw);go_simp;try with_reducible rfl)
     try simp only[LY]
     refine cz 8 ?_ ?_ hH ?_
     rotate_left
     ·(intro w hSw;(try dsimp only at hSw);go_simp;try with_reducible rfl)
     try simp only[LY]
     refine cz 9 ?_ ?_ hH ?_
     rotate_left
     ·(intro w hSw;(try dsimp only at hSw);go_simp;try with_reducible rfl)
     try simp only[LY]
     refine cz 10 ?_ ?_ hH ?_
     rotate_left
     ·(intro w hSw;(try dsimp only at hSw);go_simp;try with_reducible rfl)
     try simp only[LY]
     refine cz 11 ?_ ?_ hH ?_
     rotate_left
     ·(intro w hSw;(try dsimp only at hSw);go_simp;try with_reducible rfl)
     try simp only[LY]
     refine cz 12 ?_ ?_ hH ?_
     rotate_left
     ·(intro w hSw;(try dsimp only at hSw);go_simp;try with_reducible rfl)
     try simp only[LY]
     refine cz 15 ?_ ?_ hH ?_
     rotate_left
     ·(intro w hSw;(try dsimp only at hSw);go_simp;try with_reducible rfl)
     try simp only[LY]
     refine cz 16 ?_ ?_ hH ?_
     rotate_left
     ·(intro w hSw;(try dsimp only at hSw);go_simp;try with_reducible rfl)
     try simp only[LY]
     refine cz 17 ?_ ?_ hH ?_
     rotate_left
     ·(intro w hSw;(try dsimp only at hSw);go_simp;try with_reducible rfl)
     try simp only[LY]
     refine cz 18 ?_ ?_ hH ?_
     rotate_left
     ·(intro w hSw;(try dsimp only at hSw);go_simp;try with_reducible rfl)
     try simp only[LY]
     refine cz 19 ?_ ?_ hH ?_
     rotate_left
     ·(intro w hSw;(try dsimp only at hSw);go_simp;try with_reducible rfl)
     try simp only[LY]
     refine cz 20 ?_ ?_ hH ?_
     rotate_left
     ·(intro w hSw;(try dsimp only at hSw);go_simp;try with_reducible rfl)
     try simp only[LY]
     refine cz 21 ?_ ?_ hH ?_
     rotate_left
     ·(intro w hSw;(try dsimp only at hSw);go_simp;try with_reducible rfl)
     try simp only[LY]
     refine cz 22 ?_ ?_ hH ?_
     rotate_left
     ·(intro w hSw;(try dsimp only at hSw);go_simp;try with_reducible rfl)
     try simp only[LY]
     refine cz 23 ?_ ?_ hH ?_
     rotate_left
     ·(intro w hSw;(try dsimp only at hSw);go_simp;try with_reducible rfl)
     try simp only[LY]
     refine cz 24 ?_ ?_ hH ?_
     rotate_left
     ·(intro w hSw;(try dsimp only at hSw);go_simp;try with_reducible rfl)
     try simp only[LY]
     refine cz 25 ?_ ?_ hH ?_
     rotate_left
     ·(intro w hSw;(try dsimp only at hSw);go_simp;try with_reducible rfl)
     try simp only[LY]
     refine cz 26 ?_ ?_ hH ?_
     rotate_left
     ·(intro w hSw;(try dsimp only at hSw);go_simp;try with_reducible rfl)
     try simp only[LY]
     refine cz 27 ?_ ?_ hH ?_
     rotate_left
     ·(intro w hSw;(try dsimp only at hSw);go_simp;try with_reducible rfl)
     try simp only[LY]
     refine dq (i:=13) (j:=28) (by kernel_rfl) rfl rfl (fun K hK=>?_) (fun K hK=>?_)
     ·clear hH
      go_simp
      generalize hWn:(w24.alloc (.cells #[.int .i64 pe13.1,.int .i64 qe13.1] 3))=w25
      have hb:Below w24.heap.size w24 w25:=by rw[←hWn];exact (Below.refl _ _).alloc (ag _) _
      have Bf:Bx w25 (w24.heap.size) 3 #[.int .i64 pe13.1,.int .i64 qe13.1]:=by rw[←hWn];exact Bx.new _ _ _
      have nregion_ls:w.heap.size≠w24.heap.size:=by have:=B0.lt;omega
      have nk_ls:w.heap.size + 1≠w24.heap.size:=by have:=Blk.lt;omega
      have sz_ls:w3.heap.size≤w24.heap.size:=hs.size
      have Ap_ox_ls:=Oox.ap (g:=w24.heap.size) (ag _)
      have Ap_oy_ls:=Ooy.ap (g:=w24.heap.size) (ag _)
      replace hs:=ar hs hb
      revert B0 Blk;refine mo hb ?_;intro B0 Blk
      replace Oox:=Oox.mono IC.kept hb
      replace Ooy:=Ooy.mono IC.kept hb
      replace B2:=ah B2 hb
      replace B3:=ah B3 hb
      replace B4:=ah B4 hb
      replace B5:=ah B5 hb
      clear hb hWn
      refine hK.out _ _ ⟨B2,B3,B4,B5⟩ (fun hH=>?_)
      clear hK K
      try simp only[LY]
      refine dq (i:=14) (j:=28) (by kernel_rfl) rfl rfl (fun K hK=>?_) (fun K hK=>?_)
      ·clear hH
       obtain⟨css,ho1,ho2,ho3,hown0⟩:=Oox
       simp only[List.getElem_toArray,List.getElem_cons_succ,List.getElem_cons_zero]
       rw[if_pos (by rfl)]
       refine wp_append_lies _ _ _ _ (by rfl) w3.heap.size 3 i0 _ 1 8 Tryz.underlying53 hi hz0 hz1 hz2 (by rfl) (by omega) _ _ css.flatten (by rfl) hown0 ⟨w24.heap.size,0,none⟩ 2 2 [.int .i64 pe13.1,.int .i64 qe13.1] (by rfl) (by rfl) Bf.news ?_ (by omega) ?_ ?_ ?_ _ rfl ?_
       ·intro u hu;simp only[List.mem_cons,List.mem_nil_iff,or_false] at hu;rcases hu with rfl|rfl<;>rfl
       ·unfold maxLen;(have:=exX_len L a;omega)
       ·(have:=exX_len L a;omega)
       ·exact hs.size
       intro gox capox w26 hown1 hgrow hat hlt
       have hk:=aw.owns hown0 hgrow (by decide)
       have ho:=iu hown0 hgrow
       replace B2:=hgrow.cell B2 (fun e=>by have:=(hown0.lt _ e.symm).1;simp only at this;omega)
       replace B3:=hgrow.cell B3 (fun e=>by have:=(hown0.lt _ e.symm).1;simp only at this;omega)
       replace B4:=hgrow.cell B4 (fun e=>by have:=(hown0.lt _ e.symm).1;simp only at this;omega)
       replace B5:=hgrow.cell B5 (fun e=>by have:=(hown0.lt _ e.symm).1;simp only at this;omega)
       replace hs:=hs.grown hgrow hs.size (fun k hk=>(hown0.lt k hk).1)
       replace Oox:=cw.pushTwo IC.kept ho1 ho2 ho3 (x:=pe13.1) (y:=qe13.1) (cs:=[.int .i64 pe13.1]) (ds:=[.int .i64 qe13.1]) rfl rfl rfl rfl hown1 hk
       replace B0:=B0.only ho (by decide)
       replace Blk:=Blk.only ho (by decide)
       have Aq1:=Aq_ox_oy.app hat Ooy (ag _)
       replace Ooy:=Ooy.grown IC.kept hgrow Aq_ox_oy.or hk
       replace Aq_ox_oy:=Aq1
       clear Aq1
       clear hk ho ho1 ho2 ho3 hown0 hown1 hgrow Bf
       refine hK.out _ _ ⟨B2,B3,B4,B5⟩ (fun hH=>?_)
       clear hK K
       try simp only[LY]
       clear hH
       refine U_on 28 fun K hK=>?_
       go_simp
       generalize hWn:(w26.alloc (.cells #[.int .i64 pe13.2,.int .i64 qe13.2] 3))=w27
       have hb:Below w26.heap.size w26 w27:=by rw[←hWn];exact (Below.refl _ _).alloc (ag _) _
       have Be:Bx w27 (w26.heap.size) 3 #[.int .i64 pe13.2,.int .i64 qe13.2]:=by rw[←hWn];exact Bx.new _ _ _
       have nregion_ls0:w.heap.size≠w26.heap.size:=by have:=B0.lt;omega
       have nk_ls0:w.heap.size + 1≠w26.heap.size:=by have:=Blk.lt;omega
       have sz_ls0:w3.heap.size≤w26.heap.size:=hs.size
       have Ap_ox_ls0:=Oox.ap (g:=w26.heap.size) (ag _)
       have Ap_oy_ls0:=Ooy.ap (g:=w26.heap.size) (ag _)
       replace hs:=ar hs hb
       revert B0 Blk;refine mo hb ?_;intro B0 Blk
       replace Oox:=Oox.mono IC.kept hb
       replace Ooy:=Ooy.mono IC.kept hb
       replace B2:=ah B2 hb
       replace B3:=ah B3 hb
       replace B4:=ah B4 hb
       replace B5:=ah B5 hb
       clear hb hWn
       refine hK.out _ _ ⟨B2,B3,B4,B5⟩ (fun hH=>?_)
       clear hK K
       try simp only[LY]
       clear hH
       refine U_on 29 fun K hK=>?_
       obtain⟨css,ho1,ho2,ho3,hown0⟩:=Ooy
       simp only[List.getElem_toArray,List.getElem_cons_succ,List.getElem_cons_zero]
       rw[if_pos (by rfl)]
       refine wp_append_lies _ _ _ _ (by rfl) w3.heap.size 3 i0 _ 1 8 Tryz.underlying53 hi hz0 hz1 hz2 (by rfl) (by omega) _ _ css.flatten (by rfl) hown0 ⟨w26.heap.size,0,none⟩ 2 2 [.int .i64 pe13.2,.int .i64 qe13.2] (by rfl) (by rfl) Be.news ?_ (by omega) ?_ ?_ ?_ _ rfl ?_
       ·intro u hu;simp only[List.mem_cons,List.mem_nil_iff,or_false] at hu;rcases hu with rfl|rfl<;>rfl
       ·unfold maxLen;(have:=exY_len L a;omega)
       ·(have:=exY_len L a;omega)
       ·exact hs.size
       intro goy capoy w28 hown1 hgrow hat hlt
       have hk:=aw.owns hown0 hgrow (by decide)
       have ho:=iu hown0 hgrow
       replace B2:=hgrow.cell B2 (fun e=>by have:=(hown0.lt _ e.symm).1;simp only at this;omega)
       replace B3:=hgrow.cell B3 (fun e=>by have:=(hown0.lt _ e.symm).1;simp only at this;omega)
       replace B4:=hgrow.cell B4 (fun e=>by have:=(hown0.lt _ e.symm).1;simp only at this;omega)
       replace B5:=hgrow.cell B5 (fun e=>by have:=(hown0.lt _ e.symm).1;simp only at this;omega)
       replace hs:=hs.grown hgrow hs.size (fun k hk=>(hown0.lt k hk).1)
       replace Ooy:=cw.pushTwo IC.kept ho1 ho2 ho3 (x:=pe13.2) (y:=qe13.2) (cs:=[.int .i64 pe13.2]) (ds:=[.int .i64 qe13.2]) rfl rfl rfl rfl hown1 hk
       replace B0:=B0.only ho (by decide)
       replace Blk:=Blk.only ho (by decide)
       have Aq1:=(Aq_ox_oy.symm.app hat Oox (ag _)).symm
       replace Oox:=Oox.grown IC.kept hgrow Aq_ox_oy.symm.or hk
       replace Aq_ox_oy:=Aq1
       clear Aq1
       clear hk ho ho1 ho2 ho3 hown0 hown1 hgrow Be
       refine hK.out _ _ ⟨B2,B3,B4,B5⟩ (fun hH=>?_)
       clear hK K
       try simp only[LY]
       refine cz 30 ?_ ?_ hH ?_
       rotate_left
       ·(intro w hSw;(try dsimp only at hSw);go_simp;try with_reducible rfl)
       try simp only[LY]
       clear hH
       refine dr (by kernel_rfl) rfl (by kernel_rfl) (fun K hK=>?_)
       go_simp
       refine hK.out _ _ ?_
       clear hK K
       intro wl hW
       rw[hW]
       clear hW wl
       try simp only[LY]
       clear B2 B3 B4 B5
       have AX14:IntKind.i64.wrap ((a:Int) + 1)=(a:Int) + 1:=IntWalk.i64_in _ (by omega)
       go_wp2
       go_roundw
       case rel=>exact⟨a + 1,by omega,by go_num,hs,B0,Blk,(by rw[show exX L (a + 1)=exX L a ++ [(bxZ L a).1.1] ++ [(bxZ L a).2.1] from rfl,show (bxZ L a).1=pe13 from Hpe13.out.symm,show (bxZ L a).2=qe13 from Hqe13.out.symm];exact Oox),(by rw[show exY L (a + 1)=exY L a ++ [(bxZ L a).1.2] ++ [(bxZ L a).2.2] from rfl,show (bxZ L a).1=pe13 from Hpe13.out.symm,show (bxZ L a).2=qe13 from Hqe13.out.symm];exact Ooy),Aq_ox_oy⟩
       all_goals first|(simp[intOf];done)|(simp[intOf];omega)
      clear hH
      go_simp
      generalize hWn:(w25.alloc (.cells #[.int .i64 pe13.2,.int .i64 qe13.2] 3))=w26
      have hb:Below w25.heap.size w25 w26:=by rw[←hWn];exact (Below.refl _ _).alloc (ag _) _
      have Be:Bx w26 (w25.heap.size) 3 #[.int .i64 pe13.2,.int .i64 qe13.2]:=by rw[←hWn];exact Bx.new _ _ _
      have nregion_ls0:w.heap.size≠w25.heap.size:=by have:=B0.lt;omega
      have nk_ls0:w.heap.size + 1≠w25.heap.size:=by have:=Blk.lt;omega
      have nls_ls0:w24.heap.size≠w25.heap.size:=by have:=Bf.lt;omega
      have sz_ls0:w3.heap.size≤w25.heap.size:=hs.size
      have Ap_ox_ls0:=Oox.ap (g:=w25.heap.size) (ag _)
      have Ap_oy_ls0:=Ooy.ap (g:=w25.heap.size) (ag _)
      replace hs:=ar hs hb
      revert Bf B0 Blk;refine mo hb ?_;intro Bf B0 Blk
      replace Oox:=Oox.mono IC.kept hb
      replace Ooy:=Ooy.mono IC.kept hb
      replace B2:=ah B2 hb
      replace B3:=ah B3 hb
      replace B4:=ah B4 hb
      replace B5:=ah B5 hb
      clear hb hWn
      refine hK.out _ _ ⟨B2,B3,B4,B5⟩ (fun hH=>?_)
      clear hK K
      try simp only[LY]
      clear hH
      refine U_on 14 fun K hK=>?_
      obtain⟨css,ho1,ho2,ho3,hown0⟩:=Oox
      simp only[List.getElem_toArray,List.getElem_cons_succ,List.getElem_cons_zero]
      rw[if_pos (by rfl)]
      refine wp_append_lies _ _ _ _ (by rfl) w3.heap.size 3 i0 _ 1 8 Tryz.underlying53 hi hz0 hz1 hz2 (by rfl) (by omega) _ _ css.flatten (by rfl) hown0 ⟨w24.heap.size,0,none⟩ 2 2 [.int .i64 pe13.1,.int .i64 qe13.1] (by rfl) (by rfl) Bf.news ?_ (by omega) ?_ ?_ ?_ _ rfl ?_
      ·intro u hu;simp only[List.mem_cons,List.mem_nil_iff,or_false] at hu;rcases hu with rfl|rfl<;>rfl
      ·unfold maxLen;(have:=exX_len L a;omega)
      ·(have:=exX_len L a;omega)
      ·exact hs.size
      intro gox capox w27 hown1 hgrow hat hlt
      have hk:=aw.owns hown0 hgrow (by decide)
      have ho:=iu hown0 hgrow
      replace B2:=hgrow.cell B2 (fun e=>by have:=(hown0.lt _ e.symm).1;simp only at this;omega)
      replace B3:=hgrow.cell B3 (fun e=>by have:=(hown0.lt _ e.symm).1;simp only at this;omega)
      replace B4:=hgrow.cell B4 (fun e=>by have:=(hown0.lt _ e.symm).1;simp only at this;omega)
      replace B5:=hgrow.cell B5 (fun e=>by have:=(hown0.lt _ e.symm).1;simp only at this;omega)
      replace hs:=hs.grown hgrow hs.size (fun k hk=>(hown0.lt k hk).1)
      replace Oox:=cw.pushTwo IC.kept ho1 ho2 ho3 (x:=pe13.1) (y:=qe13.1) (cs:=[.int .i64 pe13.1]) (ds:=[.int .i64 qe13.1]) rfl rfl rfl rfl hown1 hk
      replace B0:=B0.only ho (by decide)
      replace Blk:=Blk.only ho (by decide)
      have Ap_ox_ls01:=Ap_ox_ls0.app hat Be.lt
      replace Be:=Be.grown hgrow Ap_ox_ls0.ne
      replace Ap_ox_ls0:=Ap_ox_ls01
      clear Ap_ox_ls01
      have Aq1:=Aq_ox_oy.app hat Ooy (ag _)
      replace Ooy:=Ooy.grown IC.kept hgrow Aq_ox_oy.or hk
      replace Aq_ox_oy:=Aq1
      clear Aq1
      clear hk ho ho1 ho2 ho3 hown0 hown1 hgrow Bf
      refine hK.out _ _ ⟨B2,B3,B4,B5⟩ (fun hH=>?_)
      clear hK K
      try simp only[LY]
      clear hH
      refine U_on 29 fun K hK=>?_
      obtain⟨css,ho1,ho2,ho3,hown0⟩:=Ooy
      simp only[List.getElem_toArray,List.getElem_cons_succ,List.getElem_cons_zero]
      rw[if_pos (by rfl)]
      refine wp_append_lies _ _ _ _ (by rfl) w3.heap.size 3 i0 _ 1 8 Tryz.underlying53 hi hz0 hz1 hz2 (by rfl) (by omega) _ _ css.flatten (by rfl) hown0 ⟨w25.heap.size,0,none⟩ 2 2 [.int .i64 pe13.2,.int .i64 qe13.2] (by rfl) (by rfl) Be.news ?_ (by omega) ?_ ?_ ?_ _ rfl ?_
      ·intro u hu;simp only[List.mem_cons,List.mem_nil_iff,or_false] at hu;rcases hu with rfl|rfl<;>rfl
      ·unfold maxLen;(have:=exY_len L a;omega)
      ·(have:=exY_len L a;omega)
      ·exact hs.size
      intro goy capoy w28 hown1 hgrow hat hlt
      have hk:=aw.owns hown0 hgrow (by decide)
      have ho:=iu hown0 hgrow
      replace B2:=hgrow.cell B2 (fun e=>by have:=(hown0.lt _ e.symm).1;simp only at this;omega)
      replace B3:=hgrow.cell B3 (fun e=>by have:=(hown0.lt _ e.symm).1;simp only at this;omega)
      replace B4:=hgrow.cell B4 (fun e=>by have:=(hown0.lt _ e.symm).1;simp only at this;omega)
      replace B5:=hgrow.cell B5 (fun e=>by have:=(hown0.lt _ e.symm).1;simp only at this;omega)
      replace hs:=hs.grown hgrow hs.size (fun k hk=>(hown0.lt k hk).1)
      replace Ooy:=cw.pushTwo IC.kept ho1 ho2 ho3 (x:=pe13.2) (y:=qe13.2) (cs:=[.int .i64 pe13.2]) (ds:=[.int .i64 qe13.2]) rfl rfl rfl rfl hown1 hk
      replace B0:=B0.only ho (by decide)
      replace Blk:=Blk.only ho (by decide)
      have Aq1:=(Aq_ox_oy.symm.app hat Oox (ag _)).symm
      replace Oox:=Oox.grown IC.kept hgrow Aq_ox_oy.symm.or hk
      replace Aq_ox_oy:=Aq1
      clear Aq1
      clear hk ho ho1 ho2 ho3 hown0 hown1 hgrow Be
      refine hK.out _ _ ⟨B2,B3,B4,B5⟩ (fun hH=>?_)
      clear hK K
      try simp only[LY]
      refine cz 30 ?_ ?_ hH ?_
      rotate_left
      ·(intro w hSw;(try dsimp only at hSw);go_simp;try with_reducible rfl)
      try simp only[LY]
      clear hH
      refine dr (by kernel_rfl) rfl (by kernel_rfl) (fun K hK=>?_)
      go_simp
      refine hK.out _ _ ?_
      clear hK K
      intro wl hW
      rw[hW]
      clear hW wl
      try simp only[LY]
      clear B2 B3 B4 B5
      have AX14:IntKind.i64.wrap ((a:Int) + 1)=(a:Int) + 1:=IntWalk.i64_in _ (by omega)
      go_wp2
      go_roundw
      case rel=>exact⟨a + 1,by omega,by go_num,hs,B0,Blk,(by rw[show exX L (a + 1)=exX L a ++ [(bxZ L a).1.1] ++ [(bxZ L a).2.1] from rfl,show (bxZ L a).1=pe13 from Hpe13.out.symm,show (bxZ L a).2=qe13 from Hqe13.out.symm];exact Oox),(by rw[show exY L (a + 1)=exY L a ++ [(bxZ L a).1.2] ++ [(bxZ L a).2.2] from rfl,show (bxZ L a).1=pe13 from Hpe13.out.symm,show (bxZ L a).2=qe13 from Hqe13.out.symm];exact Ooy),Aq_ox_oy⟩
      all_goals first|(simp[intOf];done)|(simp[intOf];omega)
     clear hH
     go_simp
     generalize hWn:(w24.alloc (.cells #[.int .i64 pe13.2,.int .i64 qe13.2] 3))=w25
     have hb:Below w24.heap.size w24 w25:=by rw[←hWn];exact (Below.refl _ _).alloc (ag _) _
     have Be:Bx w25 (w24.heap.size) 3 #[.int .i64 pe13.2,.int .i64 qe13.2]:=by rw[←hWn];exact Bx.new _ _ _
     have nregion_ls0:w.heap.size≠w24.heap.size:=by have:=B0.lt;omega
     have nk_ls0:w.heap.size + 1≠w24.heap.size:=by have:=Blk.lt;omega
     have sz_ls0:w3.heap.size≤w24.heap.size:=hs.size
     have Ap_ox_ls0:=Oox.ap (g:=w24.heap.size) (ag _)
     have Ap_oy_ls0:=Ooy.ap (g:=w24.heap.size) (ag _)
     replace hs:=ar hs hb
     revert B0 Blk;refine mo hb ?_;intro B0 Blk
     replace Oox:=Oox.mono IC.kept hb
     replace Ooy:=Ooy.mono IC.kept hb
     replace B2:=ah B2 hb
     replace B3:=ah B3 hb
     replace B4:=ah B4 hb
     replace B5:=ah B5 hb
     clear hb hWn
     refine hK.out _ _ ⟨B2,B3,B4,B5⟩ (fun hH=>?_)
     clear hK K
     try simp only[LY]
     clear hH
     refine U_on 13 fun K hK=>?_
     go_simp
     generalize hWn:(w25.alloc (.cells #[.int .i64 pe13.1,.int .i64 qe13.1] 3))=w26
     have hb:Below w25.heap.size w25 w26:=by rw[←hWn];exact (Below.refl _ _).alloc (ag _) _
     have Bf:Bx w26 (w25.heap.size) 3 #[.int .i64 pe13.1,.int .i64 qe13.1]:=by rw[←hWn];exact Bx.new _ _ _
     have nregion_ls:w.heap.size≠w25.heap.size:=by have:=B0.lt;omega
     have nk_ls:w.heap.size + 1≠w25.heap.size:=by have:=Blk.lt;omega
     have nls0_ls:w24.heap.size≠w25.heap.size:=by have:=Be.lt;omega
     have sz_ls:w3.heap.size≤w25.heap.size:=hs.size
     have Ap_ox_ls:=Oox.ap (g:=w25.heap.size) (ag _)
     have Ap_oy_ls:=Ooy.ap (g:=w25.heap.size) (ag _)
     replace hs:=ar hs hb
     revert Be B0 Blk;refine mo hb ?_;intro Be B0 Blk
     replace Oox:=Oox.mono IC.kept hb
     replace Ooy:=Ooy.mono IC.kept hb
     replace B2:=ah B2 hb
     replace B3:=ah B3 hb
     replace B4:=ah B4 hb
     replace B5:=ah B5 hb
     clear hb hWn
     refine hK.out _ _ ⟨B2,B3,B4,B5⟩ (fun hH=>?_)
     clear hK K
     try simp only[LY]
     clear hH
     refine U_on 14 fun K hK=>?_
     obtain⟨css,ho1,ho2,ho3,hown0⟩:=Oox
     simp only[List.getElem_toArray,List.getElem_cons_succ,List.getElem_cons_zero]
     rw[if_pos (by rfl)]
     refine wp_append_lies _ _ _ _ (by rfl) w3.heap.size 3 i0 _ 1 8 Tryz.underlying53 hi hz0 hz1 hz2 (by rfl) (by omega) _ _ css.flatten (by rfl) hown0 ⟨w25.heap.size,0,none⟩ 2 2 [.int .i64 pe13.1,.int .i64 qe13.1] (by rfl) (by rfl) Bf.news ?_ (by omega) ?_ ?_ ?_ _ rfl ?_
     ·intro u hu;simp only[List.mem_cons,List.mem_nil_iff,or_false] at hu;rcases hu with rfl|rfl<;>rfl
     ·unfold maxLen;(have:=exX_len L a;omega)
     ·(have:=exX_len L a;omega)
     ·exact hs.size
     intro gox capox w27 hown1 hgrow hat hlt
     have hk:=aw.owns hown0 hgrow (by decide)
     have ho:=iu hown0 hgrow
     replace B2:=hgrow.cell B2 (fun e=>by have:=(hown0.lt _ e.symm).1;simp only at this;omega)
     replace B3:=hgrow.cell B3 (fun e=>by have:=(hown0.lt _ e.symm).1;simp only at this;omega)
     replace B4:=hgrow.cell B4 (fun e=>by have:=(hown0.lt _ e.symm).1;simp only at this;omega)
     replace B5:=hgrow.cell B5 (fun e=>by have:=(hown0.lt _ e.symm).1;simp only at this;omega)
     replace hs:=hs.grown hgrow hs.size (fun k hk=>(hown0.lt k hk).1)
     replace Oox:=cw.pushTwo IC.kept ho1 ho2 ho3 (x:=pe13.1) (y:=qe13.1) (cs:=[.int .i64 pe13.1]) (ds:=[.int .i64 qe13.1]) rfl rfl rfl rfl hown1 hk
     replace B0:=B0.only ho (by decide)
     replace Blk:=Blk.only ho (by decide)
     have Ap_ox_ls01:=Ap_ox_ls0.app hat Be.lt
     replace Be:=Be.grown hgrow Ap_ox_ls0.ne
     replace Ap_ox_ls0:=Ap_ox_ls01
     clear Ap_ox_ls01
     have Aq1:=Aq_ox_oy.app hat Ooy (ag _)
     replace Ooy:=Ooy.grown IC.kept hgrow Aq_ox_oy.or hk
     replace Aq_ox_oy:=Aq1
     clear Aq1
     clear hk ho ho1 ho2 ho3 hown0 hown1 hgrow Bf
     refine hK.out _ _ ⟨B2,B3,B4,B5⟩ (fun hH=>?_)
     clear hK K
     try simp only[LY]
     clear hH
     refine U_on 29 fun K hK=>?_
     obtain⟨css,ho1,ho2,ho3,hown0⟩:=Ooy
     simp only[List.getElem_toArray,List.getElem_cons_succ,List.getElem_cons_zero]
     rw[if_pos (by rfl)]
     refine wp_append_lies _ _ _ _ (by rfl) w3.heap.size 3 i0 _ 1 8 Tryz.underlying53 hi hz0 hz1 hz2 (by rfl) (by omega) _ _ css.flatten (by rfl) hown0 ⟨w24.heap.size,0,none⟩ 2 2 [.int .i64 pe13.2,.int .i64 qe13.2] (by rfl) (by rfl) Be.news ?_ (by omega) ?_ ?_ ?_ _ rfl ?_
     ·intro u hu;simp only[List.mem_cons,List.mem_nil_iff,or_false] at hu;rcases hu with rfl|rfl<;>rfl
     ·unfold maxLen;(have:=exY_len L a;omega)
     ·(have:=exY_len L a;omega)
     ·exact hs.size
     intro goy capoy w28 hown1 hgrow hat hlt
     have hk:=aw.owns hown0 hgrow (by decide)
     have ho:=iu hown0 hgrow
     replace B2:=hgrow.cell B2 (fun e=>by have:=(hown0.lt _ e.symm).1;simp only at this;omega)
     replace B3:=hgrow.cell B3 (fun e=>by have:=(hown0.lt _ e.symm).1;simp only at this;omega)
     replace B4:=hgrow.cell B4 (fun e=>by have:=(hown0.lt _ e.symm).1;simp only at this;omega)
     replace B5:=hgrow.cell B5 (fun e=>by have:=(hown0.lt _ e.symm).1;simp only at this;omega)
     replace hs:=hs.grown hgrow hs.size (fun k hk=>(hown0.lt k hk).1)
     replace Ooy:=cw.pushTwo IC.kept ho1 ho2 ho3 (x:=pe13.2) (y:=qe13.2) (cs:=[.int .i64 pe13.2]) (ds:=[.int .i64 qe13.2]) rfl rfl rfl rfl hown1 hk
     replace B0:=B0.only ho (by decide)
     replace Blk:=Blk.only ho (by decide)
     have Aq1:=(Aq_ox_oy.symm.app hat Oox (ag _)).symm
     replace Oox:=Oox.grown IC.kept hgrow Aq_ox_oy.symm.or hk
     replace Aq_ox_oy:=Aq1
     clear Aq1
     clear hk ho ho1 ho2 ho3 hown0 hown1 hgrow Be
     refine hK.out _ _ ⟨B2,B3,B4,B5⟩ (fun hH=>?_)
     clear hK K
     try simp only[LY]
     refine cz 30 ?_ ?_ hH ?_
     rotate_left
     ·(intro w hSw;(try dsimp only at hSw);go_simp;try with_reducible rfl)
     try simp only[LY]
     clear hH
     refine dr (by kernel_rfl) rfl (by kernel_rfl) (fun K hK=>?_)
     go_simp
     refine hK.out _ _ ?_
     clear hK K
     intro wl hW
     rw[hW]
     clear hW wl
     try simp only[LY]
     clear B2 B3 B4 B5
     have AX14:IntKind.i64.wrap ((a:Int) + 1)=(a:Int) + 1:=IntWalk.i64_in _ (by omega)
     go_wp2
     go_roundw
     case rel=>exact⟨a + 1,by omega,by go_num,hs,B0,Blk,(by rw[show exX L (a + 1)=exX L a ++ [(bxZ L a).1.1] ++ [(bxZ L a).2.1] from rfl,show (bxZ L a).1=pe13 from Hpe13.out.symm,show (bxZ L a).2=qe13 from Hqe13.out.symm];exact Oox),(by rw[show exY L (a + 1)=exY L a ++ [(bxZ L a).1.2] ++ [(bxZ L a).2.2] from rfl,show (bxZ L a).1=pe13 from Hpe13.out.symm,show (bxZ L a).2=qe13 from Hqe13.out.symm];exact Ooy),Aq_ox_oy⟩
     all_goals first|(simp[intOf];done)|(simp[intOf];omega)
    have q12d:((a:Int) < (L.length:Int))=False:=eq_false (by omega)
    have HWE:=ae (show wnE L rp rq ww hh=0 from we_5 HEA.out HEB.out (by omega) (by omega))
    rw[show a=L.length from by omega] at Oox Ooy
    obtain⟨EX,HEX⟩:∃z,z=exX L L.length:=⟨_,rfl⟩
    rw[←HEX] at Oox
    have hEXl:EX.length≤8:=by rw[HEX,exX_len];omega
    have HXB:=ae (show ∀j,j < EX.length→ -4000000≤nthI EX j∧nthI EX j≤4000000 from fun j hj=>by have h:=exX_bd HEA.out L.length (nthI EX j) (by rw[←HEX];exact nth_in hj);unfold Wn at h;omega)
    replace HEX:=ae HEX
    have hRX:=Oox.rows
    obtain⟨aEX,kEX,hvX, -, -, -⟩:=hRX.slice
    subst hvX
    have HRX:=ae hRX
    clear hRX Oox
    obtain⟨EY,HEY⟩:∃z,z=exY L L.length:=⟨_,rfl⟩
    rw[←HEY] at Ooy
    have hEYl:EY.length≤8:=by rw[HEY,exY_len];omega
    have HYB:=ae (show ∀j,j < EY.length→ -4000000≤nthI EY j∧nthI EY j≤4000000 from fun j hj=>by have h:=exY_bd HEA.out L.length (nthI EY j) (by rw[←HEY];exact nth_in hj);unfold Wn at h;omega)
    replace HEY:=ae HEY
    have hRY:=Ooy.rows
    obtain⟨aEY,kEY,hvY, -, -, -⟩:=hRY.slice
    subst hvY
    have HRY:=ae hRY
    clear hRY Ooy
    have HB1_13:=ae hs
    clear hs
    have hs:=Below.refl wl0.heap.size wl0
    have nb_region:=B0.lt
    have nb_k:=Blk.lt
    go_upto_region 16 with fail
    go_cut [13,14,98,99,100,101,102,103,104,105,106,107,108,109,110,111,112,113,114,115] (fun k13 k14 k98 k99 k100 k101 k102 k103 k104 k105 k106 k107 k108 k109 k110 k111 k112 k113 k114 k115 wz=>Below wl0.heap.size wl0 wz∧Bx wz (w.heap.size) 26 #[.int .i64 rp.1,.int .i64 rp.2,.int .i64 rq.1,.int .i64 rq.2]∧Bx wz (w.heap.size + 1) 26 #[.int .i64 0,.int .i64 0,.int .i64 0,.int .i64 0]∧Rows 1 3 IC wz k13 (crtK EX ww rp.1 rq.1)∧Rows 1 3 IC wz k14 (crtK EY hh rp.2 rq.2))
    case first=>
     go_upto_region 16 with fail
     refine bw (S:=fun w'=>w'.cell? ⟨w.heap.size,0,none⟩=some (.int .i64 rp.1)∧w'.cell? ⟨w.heap.size,1,none⟩=some (.int .i64 rp.2)∧w'.cell? ⟨w.heap.size,2,none⟩=some (.int .i64 rq.1)∧w'.cell? ⟨w.heap.size,3,none⟩=some (.int .i64 rq.2)) (by kernel_rfl) 19 ?_
     refine cq.abs ?_
     intro w24 hW
     have hb:Below wl0.heap.size wl0 w24:=by rw[hW];exact de _
     replace hs:=ar hs hb
     revert Blk;revert B0;refine mo hb ?_;intro B0 Blk
     clear hb hW
     refine B0.k4 fun B6 B7 B8 B9=>?_
     have hH:=(show w24.cell? ⟨w.heap.size,0,none⟩=some (.int .i64 rp.1)∧w24.cell? ⟨w.heap.size,1,none⟩=some (.int .i64 rp.2)∧w24.cell? ⟨w.heap.size,2,none⟩=some (.int .i64 rq.1)∧w24.cell? ⟨w.heap.size,3,none⟩=some (.int .i64 rq.2) from ⟨B6,B7,B8,B9⟩)
     refine cz 0 ?_ ?_ hH ?_
     rotate_left
     ·(intro w hSw;(try dsimp only at hSw);go_simp;try with_reducible rfl)
     try simp only[LY]
     refine cz 1 ?_ ?_ hH ?_
     rotate_left
     ·(intro w hSw;(try dsimp only at hSw);go_simp;try with_reducible rfl)
     try simp only[LY]
     refine cz 2 ?_ ?_ hH ?_
     rotate_left
     ·(intro w hSw;(try dsimp only at hSw);go_simp;try with_reducible rfl)
     try simp only[LY]
     refine cz 3 ?_ ?_ hH ?_
     rotate_left
     ·(intro w hSw;(try dsimp only at hSw);go_simp;try with_reducible rfl)
     try simp only[LY]
     refine cz 4 ?_ ?_ hH ?_
     rotate_left
     ·(intro w hSw;(try dsimp only at hSw);go_simp;try with_reducible rfl)
     try simp only[LY]
     refine cz 5 ?_ ?_ hH ?_
     rotate_left
     ·(intro w hSw;(try dsimp only at hSw);go_simp;try with_reducible rfl)
     try simp only[LY]
     refine cz 6 ?_ ?_ hH ?_
     rotate_left
     ·(intro w hSw;(try dsimp only at hSw);go_simp;try with_reducible rfl)
     try simp only[LY]
     refine cz 7 ?_ ?_ hH ?_
     rotate_left
     ·(intro w hSw;(try dsimp only at hSw);go_simp;try with_reducible rfl)
     try simp only[LY]
     refine cz 9 ?_ ?_ hH ?_
     rotate_left
     ·(intro w hSw;(try dsimp only at hSw);go_simp;try with_reducible rfl)
     try simp only[LY]
     refine cz 10 ?_ ?_ hH ?_
     rotate_left
     ·(intro w hSw;(try dsimp only at hSw);go_simp;try with_reducible rfl)
     try simp only[LY]
     refine cz 11 ?_ ?_ hH ?_
     rotate_left
     ·(intro w hSw;(try dsimp only at hSw);go_simp;try with_reducible rfl)
     try simp only[LY]
     refine cz 12 ?_ ?_ hH ?_
     rotate_left
     ·(intro w hSw;(try dsimp only at hSw);go_simp;try with_reducible rfl)
     try simp only[LY]
     refine cz 13 ?_ ?_ hH ?_
     rotate_left
     ·(intro w hSw;(try dsimp only at hSw);go_simp;try with_reducible rfl)
     try simp only[LY]
     refine cz 14 ?_ ?_ hH ?_
     rotate_left
     ·(intro w hSw;(try dsimp only at hSw);go_simp;try with_reducible rfl)
     try simp only[LY]
     refine cz 15 ?_ ?_ hH ?_
     rotate_left
     ·(intro w hSw;(try dsimp only at hSw);go_simp;try with_reducible rfl)
     try simp only[LY]
     refine cz 16 ?_ ?_ hH ?_
     rotate_left
     ·(intro w hSw;(try dsimp only at hSw);go_simp;try with_reducible rfl)
     try simp only[LY]
     clear hH
     refine U_on 8 fun K hK=>?_
     go_simp
     (with_reducible refine (r2_critical _ EX ww rp.1 rq.1 _ (HRX.out.mono IC.kept hs) (by omega) HXB.out (by omega) (by omega) (by omega) (by omega) (by omega) (by omega)).mono ?_)
     rintro e w25 ⟨_,rfl,hcX,hb⟩
     obtain⟨ahcX,khcX,rfl,hcX1,hcX2,hcX3⟩:=hcX.toI.slice
     replace hs:=ar hs hb
     revert Blk;revert B0;refine mo hb ?_;intro B0 Blk
     replace B6:=ah B6 hb
     replace B7:=ah B7 hb
     replace B8:=ah B8 hb
     replace B9:=ah B9 hb
     clear hb
     try go_wp2_with fail
     refine hK.out _ _ ⟨B6,B7,B8,B9⟩ (fun hH=>?_)
     clear hK K
     try simp only[LY]
     clear hH
     refine U_on 17 fun K hK=>?_
     go_simp
     (with_reducible refine (r2_critical _ EY hh rp.2 rq.2 _ (HRY.out.mono IC.kept hs) (by omega) HYB.out (by omega) (by omega) (by omega) (by omega) (by omega) (by omega)).mono ?_)
     rintro e w26 ⟨_,rfl,hcY,hb⟩
     obtain⟨ahcY,khcY,rfl,hcY1,hcY2,hcY3⟩:=hcY.toI.slice
     replace hs:=ar hs hb
     revert Blk;revert B0;refine mo hb ?_;intro B0 Blk
     replace hcX:=el IC.kept _ _ _ hcX hb
     replace B6:=ah B6 hb
     replace B7:=ah B7 hb
     replace B8:=ah B8 hb
     replace B9:=ah B9 hb
     clear hb
     try go_wp2_with fail
     refine hK.out _ _ ⟨B6,B7,B8,B9⟩ (fun hH=>?_)
     clear hK K
     try simp only[LY]
     refine cz 18 ?_ ?_ hH ?_
     rotate_left
     ·(intro w hSw;(try dsimp only at hSw);go_simp;try with_reducible rfl)
     try simp only[LY]
     clear hH
     refine dr (by kernel_rfl) rfl (by kernel_rfl) (fun K hK=>?_)
     go_simp
     refine hK.out _ _ ?_
     clear hK K
     intro wl hW
     rw[hW]
     clear hW wl
     try simp only[LY]
     clear B6 B7 B8 B9
     go_wp2_with fail
     go_meet
     exact⟨hs,B0,Blk,hcX,hcY⟩
    case rest=>
     clear hs B0 Blk
     obtain⟨hs,B0,Blk,hcX,hcY⟩:=hcut
     have hlb:=lb_wn HEA.out
     have HLB:=ae hlb
     clear hlb
     obtain⟨X,HX⟩:∃z,z=rfX L rp rq ww:=⟨_,rfl⟩
     rw[show crtK EX ww rp.1 rq.1=X from by rw[HX,HEX.out];rfl] at hcX
     have hX1:1≤X.length:=by rw[HX];exact (crt_len _ _ _ _).1
     have hX2:X.length≤18:=by have h:=(crt_len (exX L L.length) ww rp.1 rq.1).2;rw[exX_len] at h;rw[HX];exact Nat.le_trans h (by omega)
     have HXI:=ae (show ∀j,j < X.length→rp.1≤nthI X j∧nthI X j + ww≤rq.1 from fun j hj=>crt_in (E:=exX L L.length) (by omega) (by omega) (by rw[HX] at hj ⊢;exact nth_in hj))
     replace HX:=ae HX
     obtain⟨xb,xo,xc,hvX, -, -, -⟩:=hcX.open_ hX1
     subst hvX
     have HRX:=ae hcX
     clear hcX
     obtain⟨Y,HY⟩:∃z,z=rfY L rp rq hh:=⟨_,rfl⟩
     rw[show crtK EY hh rp.2 rq.2=Y from by rw[HY,HEY.out];rfl] at hcY
     have hY1:1≤Y.length:=by rw[HY];exact (crt_len _ _ _ _).1
     have hY2:Y.length≤18:=by have h:=(crt_len (exY L L.length) hh rp.2 rq.2).2;rw[exY_len] at h;rw[HY];exact Nat.le_trans h (by omega)
     have HYI:=ae (show ∀j,j < Y.length→rp.2≤nthI Y j∧nthI Y j + hh≤rq.2 from fun j hj=>crt_in (E:=exY L L.length) (by omega) (by omega) (by rw[HY] at hj ⊢;exact nth_in hj))
     replace HY:=ae HY
     obtain⟨yb,yo,yc,hvY, -, -, -⟩:=hcY.open_ hY1
     subst hvY
     have HRY:=ae hcY
     clear hcY
     have HB2_14:=ae hs
     clear hs
     have hs:=Below.refl wc.heap.size wc
     have nb_region:=B0.lt
     have nb_k:=Blk.lt
     go_upto_region 19 with fail
     refine Code.abs ?_
     intro w24 hW
     have hG:Gr [] wc w24:=by rw[hW];exact (Gr.refl _ _).alloc
     have hbw:Below wc.heap.size wc w24:=hG.below0 hs.size
     have sz_w24:wc.heap.size≤wc.heap.size:=hs.size
     have nregion_w24:=B0.lt
     have nk_w24:=Blk.lt
     have B1:Bx w24 (wc.heap.size) 26 #[.int .i64 0,.int .i64 0,.int .i64 0,.int .i64 0]:=by rw[hW];exact (Bx.new0 _ _ _)
     replace hs:=hs.trans hbw
     revert Blk;revert B0;refine g0 hG ?_;intro B0 Blk
     clear hW hG hbw
     have hz_w24:=B1.lt
     go_wp2
     go_loopw [17,18] (fun s17 s18 wq=>∃i:Nat,i≤X.length∧s18=.int .i64 i∧s17=.int .i64 ((wsS (gpA L ww hh) ww hh X Y i).2)∧Below wc.heap.size wc wq∧Bx wq (w.heap.size) 26 #[.int .i64 rp.1,.int .i64 rp.2,.int .i64 rq.1,.int .i64 rq.2]∧Bx wq (w.heap.size + 1) 26 #[.int .i64 0,.int .i64 0,.int .i64 0,.int .i64 0]∧(Bx wq (wc.heap.size) 26 #[.int .i64 (wsS (gpA L ww hh) ww hh X Y i).1.1.1,.int .i64 (wsS (gpA L ww hh) ww hh X Y i).1.1.2,.int .i64 (wsS (gpA L ww hh) ww hh X Y i).1.2.1,.int .i64 (wsS (gpA L ww hh) ww hh X Y i).1.2.2])) (fun s17 s18 _=>X.length - (intOf s18).toNat)
     case atStart=>exact⟨0,Nat.zero_le _,rfl,rfl,hs,B0,Blk,B1⟩
     case round=>
      clear B0 Blk hs
      obtain⟨i,k_le,rfl,rfl,hs,B0,Blk,HBX⟩:=hrel
      obtain⟨wl1,hwo⟩:∃x,x=wr:=⟨_,rfl⟩
      subst hwo
      replace HBX:=ae HBX
      obtain⟨st,Hst⟩:∃z:WSt,z=wsS (gpA L ww hh) ww hh X Y i:=⟨_,rfl⟩
      have B1:=HBX.out
      rw[←Hst] at B1 ⊢
      clear HBX
      replace Hst:=ae Hst
      by_cases q15:i < X.length
      ·have q15d:((i:Int) < (X.length:Int))=True:=eq_true (by omega)
       go_wp2
       go_loopw [17,19] (fun s17 s19 wq=>∃k:Nat,k≤Y.length∧s19=.int .i64 k∧s17=.int .i64 ((wsR (gpA L ww hh) ww hh X Y i st k).2)∧Below wc.heap.size wc wq∧Bx wq (w.heap.size) 26 #[.int .i64 rp.1,.int .i64 rp.2,.int .i64 rq.1,.int .i64 rq.2]∧Bx wq (w.heap.size + 1) 26 #[.int .i64 0,.int .i64 0,.int .i64 0,.int .i64 0]∧(Bx wq (wc.heap.size) 26 #[.int .i64 (wsR (gpA L ww hh) ww hh X Y i st k).1.1.1,.int .i64 (wsR (gpA L ww hh) ww hh X Y i st k).1.1.2,.int .i64 (wsR (gpA L ww hh) ww hh X Y i st k).1.2.1,.int .i64 (wsR (gpA L ww hh) ww hh X Y i st k).1.2.2])) (fun s17 s19 _=>Y.length - (intOf s19).toNat)
       case atStart=>exact⟨0,Nat.zero_le _,rfl,rfl,hs,B0,Blk,B1⟩
       case round=>
        clear B0 Blk hs
        obtain⟨k,k_le,rfl,rfl,hs,B0,Blk,HBX⟩:=hrel
        obtain⟨wl2,hwo⟩:∃x,x=wr:=⟨_,rfl⟩
        subst hwo
        replace HBX:=ae HBX
        obtain⟨su,Hsu⟩:∃z:WSt,z=wsR (gpA L ww hh) ww hh X Y i st k:=⟨_,rfl⟩
        have B1:=HBX.out
        rw[←Hsu] at B1 ⊢
        clear HBX
        replace Hsu:=ae Hsu
        by_cases q16:k < Y.length
        ·have q16d:((k:Int) < (Y.length:Int))=True:=eq_true (by omega)
         go_upto_region 25 with fail
         obtain⟨Bg,le17⟩:=rowI_at (HRX.out.mono IC.kept hs) (show i < X.length by omega)
         simp only[Nat.mul_one] at Bg
         obtain⟨ie17,Hie17⟩:∃z:Int,z=nthI X i:=⟨_,rfl⟩
         rw[←Hie17] at Bg
         have bie17:=HXI.out i (by omega)
         rw[←Hie17] at bie17
         replace Hie17:=ae Hie17
         obtain⟨Bh,le18⟩:=rowI_at (HRY.out.mono IC.kept hs) (show k < Y.length by omega)
         simp only[Nat.mul_one] at Bh
         obtain⟨ie18,Hie18⟩:∃z:Int,z=nthI Y k:=⟨_,rfl⟩
         rw[←Hie18] at Bh
         have bie18:=HYI.out k (by omega)
         rw[←Hie18] at bie18
         replace Hie18:=ae Hie18
         have AX19:IntKind.i64.wrap (ie17 + ww)=ie17 + ww:=IntWalk.i64_in _ (by omega)
         have AX20:IntKind.i64.wrap (ie18 + hh)=ie18 + hh:=IntWalk.i64_in _ (by omega)
         refine bw (S:=fun w'=>w'.cell? ⟨xb,xo + i,none⟩=some (.int .i64 ie17)∧w'.cell? ⟨yb,yo + k,none⟩=some (.int .i64 ie18)) (by kernel_rfl) 24 ?_
         refine cq.abs ?_
         intro w65 hW
         have hb:Below wl2.heap.size wl2 w65:=by rw[hW];exact de _
         replace hs:=ar hs hb
         revert Blk B1;revert B0;refine mo hb ?_;intro B0 Blk B1
         replace Bg:=ah Bg hb
         replace Bh:=ah Bh hb
         clear hb hW
         have hH:=(show w65.cell? ⟨xb,xo + i,none⟩=some (.int .i64 ie17)∧w65.cell? ⟨yb,yo + k,none⟩=some (.int .i64 ie18) from ⟨Bg,Bh⟩)
         refine cz 0 ?_ ?_ hH ?_
         rotate_left
         ·(intro w hSw;(try dsimp only at hSw);go_simp;try with_reducible rfl)
         try simp only[LY]
         refine cz 1 ?_ ?_ hH ?_
         rotate_left
         ·(intro w hSw;(try dsimp only at hSw);go_simp;try with_reducible rfl)
         try simp only[LY]
         refine cz 2 ?_ ?_ hH ?_
         rotate_left
         ·(intro w hSw;(try dsimp only at hSw);go_simp;try with_reducible rfl)
         try simp only[LY]
         refine cz 3 ?_ ?_ hH ?_
         rotate_left
         ·(intro w hSw;(try dsimp only at hSw);go_simp;try with_reducible rfl)
         try simp only[LY]
         refine cz 4 ?_ ?_ hH ?_
         rotate_left
         ·(intro w hSw;(try dsimp only at hSw);go_simp;try with_reducible rfl)
         try simp only[LY]
         refine cz 5 ?_ ?_ hH ?_
         rotate_left
         ·(intro w hSw;(try dsimp only at hSw);go_simp;try with_reducible rfl)
         try simp only[LY]
         refine cz 6 ?_ ?_ hH ?_
         rotate_left
         ·(intro w hSw;(try dsimp only at hSw);go_simp;try with_reducible rfl)
         try simp only[LY]
         refine cz 7 ?_ ?_ hH ?_
         rotate_left
         ·(intro w hSw;(try dsimp only at hSw);go_simp;try with_reducible rfl)
         try simp only[LY]
         refine cz 8 ?_ ?_ hH ?_
         rotate_left
         ·(intro w hSw;(try dsimp only at hSw);go_simp;try with_reducible rfl)
         try simp only[LY]
         refine cz 9 ?_ ?_ hH ?_
         rotate_left
         ·(intro w hSw;(try dsimp only at hSw);go_simp;try with_reducible rfl)
         try simp only[LY]
         refine cz 10 ?_ ?_ hH ?_
         rotate_left
         ·(intro w hSw;(try dsimp only at hSw);go_simp;try with_reducible rfl)
         try simp only[LY]
         refine cz 11 ?_ ?_ hH ?_
         rotate_left
         ·(intro w hSw;(try dsimp only at hSw);go_simp;try with_reducible rfl)
         try simp only[LY]
         refine cz 12 ?_ ?_ hH ?_
         rotate_left
         ·(intro w hSw;(try dsimp only at hSw);go_simp;try with_reducible rfl)
         try simp only[LY]
         refine cz 13 ?_ ?_ hH ?_
         rotate_left
         ·(intro w hSw;(try dsimp only at hSw);go_simp;try with_reducible rfl)
         try simp only[LY]
         refine cz 14 ?_ ?_ hH ?_
         rotate_left
         ·(intro w hSw;(try dsimp only at hSw);go_simp;try with_reducible rfl)
         try simp only[LY]
         refine cz 15 ?_ ?_ hH ?_
         rotate_left
         ·(intro w hSw;(try dsimp only at hSw);go_simp;try with_reducible rfl)
         try simp only[LY]
         refine cz 16 ?_ ?_ hH ?_
         rotate_left
         ·(intro w hSw;(try dsimp only at hSw);go_simp;try with_reducible rfl)
         try simp only[LY]
         refine cz 17 ?_ ?_ hH ?_
         rotate_left
         ·(intro w hSw;(try dsimp only at hSw);go_simp;try with_reducible rfl)
         try simp only[LY]
         refine cz 18 ?_ ?_ hH ?_
         rotate_left
         ·(intro w hSw;(try dsimp only at hSw);go_simp;try with_reducible rfl)
         try simp only[LY]
         refine cz 19 ?_ ?_ hH ?_
         rotate_left
         ·(intro w hSw;(try dsimp only at hSw);go_simp;try with_reducible rfl)
         try simp only[LY]
         refine cz 20 ?_ ?_ hH ?_
         rotate_left
         ·(intro w hSw;(try dsimp only at hSw);go_simp;try with_reducible rfl)
         try simp only[LY]
         refine cz 21 ?_ ?_ hH ?_
         rotate_left
         ·(intro w hSw;(try dsimp only at hSw);go_simp;try with_reducible rfl)
         try simp only[LY]
         refine cz 22 ?_ ?_ hH ?_
         rotate_left
         ·(intro w hSw;(try dsimp only at hSw);go_simp;try with_reducible rfl)
         try simp only[LY]
         clear hH
         refine U_on 23 fun K hK=>?_
         go_simp
         generalize hWn:(w65.alloc (.cells #[.int .i64 0,.int .i64 0,.int .i64 0,.int .i64 0] 26))=w66
         have hb:Below w65.heap.size w65 w66:=by rw[←hWn];exact (Below.refl _ _).alloc (ag _) _
         have Blb:Bx w66 (w65.heap.size) 26 #[.int .i64 0,.int .i64 0,.int .i64 0,.int .i64 0]:=by rw[←hWn];exact Bx.new _ _ _
         have nregion_b:w.heap.size≠w65.heap.size:=by have:=B0.lt;omega
         have nk_b:w.heap.size + 1≠w65.heap.size:=by have:=Blk.lt;omega
         have nbest_b:wc.heap.size≠w65.heap.size:=by have:=B1.lt;omega
         have sz_b:wc.heap.size≤w65.heap.size:=hs.size
         replace hs:=ar hs hb
         revert B0 Blk B1;refine mo hb ?_;intro B0 Blk B1
         replace Bg:=ah Bg hb
         replace Bh:=ah Bh hb
         clear hb hWn
         refine hK.out _ _ ⟨Bg,Bh⟩ (fun hH=>?_)
         clear hK K
         try simp only[LY]
         clear hH
         refine Blb.k4fl fun Bm Bn Bo Bp fb Lb=>?_
         refine dr (by kernel_rfl) rfl (by kernel_rfl) (fun K hK=>?_)
         go_simp
         refine hK.out _ _ ?_
         clear hK K
         intro w67 hW
         have hG:Gr [w65.heap.size] w66 w67:=by rw[hW];exact (Gr.refl _ _).set.set.set.set
         have hsz:=hs.size
         have lb:=Blb.lt
         have hbw:Below wc.heap.size w66 w67:=hG.d1 hs.size
         have Bl1b:Bx w67 (w65.heap.size) 26 #[.int .i64 ie17,.int .i64 ie18,.int .i64 (ie17 + ww),.int .i64 (ie18 + hh)]:=by rw[hW];exact (Bx.set (Bx.set (Bx.set (Bx.set Blb 0 _ rfl) 1 _ rfl) 2 _ rfl) 3 _ rfl)
         replace hs:=hs.trans hbw
         replace B0:=hG.b1 B0
         replace Blk:=hG.b1 Blk
         replace B1:=hG.b1 B1
         replace Blb:=Bl1b
         clear Bl1b
         clear hW hG hbw hsz lb
         try simp only[LY]
         clear Bg Bh
         refine Blb.k4l fun Bm Bn Bo Bp Lb=>?_
         go_wp2_with fail
         clear Bm Bn Bo Bp Lb
         with_reducible refine (r2_gaps _ L (ie17,ie18) (ie17 + ww,ie18 + hh) _ (be.mono IE.kept HO.out (ar HB0_11.out (ar HB1_13.out (ar HB2_14.out hs)))) (by omega) HLB.out ⟨⟨wnp (by omega) (by omega),wnp (by omega) (by omega)⟩,⟨wnp (by omega) (by omega),wnp (by omega) (by omega)⟩⟩).mono ?_
         rintro e w68 ⟨rfl,hb⟩
         revert B0 Blk B1 Blb;refine mS hs hb ?_;clear hs hb;intro hs B0 Blk B1 Blb
         obtain⟨gp21,Hgp21⟩:∃s:Int,s=gpZ L (ie17,ie18) (ie17 + ww,ie18 + hh):=⟨_,rfl⟩
         rw[←Hgp21]
         replace Hgp21:=ae Hgp21
         by_cases q22:su.2 < gp21
         ·have q22d:(su.2 < gp21)=True:=eq_true (by omega)
          refine Blb.k4l fun Bm Bn Bo Bp Lb=>?_
          refine B1.k4fl fun Bi Bj Bk Bl fbest Lbest=>?_
          go_upto_region 24 with fail
          clear Bm Bn Bo Bp Bi Bj Bk Bl fbest Lb Lbest
          refine Code.abs ?_
          intro w69 hW
          have hG:Gr [wc.heap.size] w68 w69:=by rw[hW];exact (Gr.refl _ _).set.set.set.set
          have hsz:=hs.size
          have lbest:=B1.lt
          have hbw:Below wc.heap.size w68 w69:=hG.d1 hs.size
          have Bl1best:Bx w69 (wc.heap.size) 26 #[.int .i64 ie17,.int .i64 ie18,.int .i64 (ie17 + ww),.int .i64 (ie18 + hh)]:=by rw[hW];exact (Bx.set (Bx.set (Bx.set (Bx.set B1 0 _ rfl) 1 _ rfl) 2 _ rfl) 3 _ rfl)
          replace hs:=hs.trans hbw
          replace B0:=hG.b1 B0
          replace Blk:=hG.b1 Blk
          replace Blb:=hG.b1 Blb
          replace B1:=Bl1best
          clear Bl1best
          clear hW hG hbw hsz lbest
          have AX23:IntKind.i64.wrap ((k:Int) + 1)=(k:Int) + 1:=IntWalk.i64_in _ (by omega)
          go_wp2
          go_roundw
          case rel=>exact⟨k + 1,by omega,by go_num,(by rw[show wsR (gpA L ww hh) ww hh X Y i st (k + 1)=stW (gpA L ww hh) ww hh (nthI X i) (nthI Y k) (wsR (gpA L ww hh) ww hh X Y i st k) from rfl,←Hsu.out,st_yes (show su.2 < gpA L ww hh (nthI X i) (nthI Y k) from by rw[←Hie17.out,←Hie18.out,show gpA L ww hh ie17 ie18=gp21 from Hgp21.out.symm];omega),←Hie17.out,←Hie18.out,show gpA L ww hh ie17 ie18=gp21 from Hgp21.out.symm]),hs,B0,Blk,(by rw[show wsR (gpA L ww hh) ww hh X Y i st (k + 1)=stW (gpA L ww hh) ww hh (nthI X i) (nthI Y k) (wsR (gpA L ww hh) ww hh X Y i st k) from rfl,←Hsu.out,st_yes (show su.2 < gpA L ww hh (nthI X i) (nthI Y k) from by rw[←Hie17.out,←Hie18.out,show gpA L ww hh ie17 ie18=gp21 from Hgp21.out.symm];omega),←Hie17.out,←Hie18.out,show gpA L ww hh ie17 ie18=gp21 from Hgp21.out.symm];exact B1)⟩
          all_goals first|(simp[intOf];done)|(simp[intOf];omega)
         have q22d:(su.2 < gp21)=False:=eq_false (by omega)
         have AX23:IntKind.i64.wrap ((k:Int) + 1)=(k:Int) + 1:=IntWalk.i64_in _ (by omega)
         go_wp2
         go_roundw
         case rel=>exact⟨k + 1,by omega,by go_num,(by rw[show wsR (gpA L ww hh) ww hh X Y i st (k + 1)=stW (gpA L ww hh) ww hh (nthI X i) (nthI Y k) (wsR (gpA L ww hh) ww hh X Y i st k) from rfl,←Hsu.out,st_no (show ¬ su.2 < gpA L ww hh (nthI X i) (nthI Y k) from by rw[←Hie17.out,←Hie18.out,show gpA L ww hh ie17 ie18=gp21 from Hgp21.out.symm];omega)]),hs,B0,Blk,(by rw[show wsR (gpA L ww hh) ww hh X Y i st (k + 1)=stW (gpA L ww hh) ww hh (nthI X i) (nthI Y k) (wsR (gpA L ww hh) ww hh X Y i st k) from rfl,←Hsu.out,st_no (show ¬ su.2 < gpA L ww hh (nthI X i) (nthI Y k) from by rw[←Hie17.out,←Hie18.out,show gpA L ww hh ie17 ie18=gp21 from Hgp21.out.symm];omega)];exact B1)⟩
         all_goals first|(simp[intOf];done)|(simp[intOf];omega)
        have q16d:((k:Int) < (Y.length:Int))=False:=eq_false (by omega)
        have AX17:IntKind.i64.wrap ((i:Int) + 1)=(i:Int) + 1:=IntWalk.i64_in _ (by omega)
        go_wp2
        go_roundw
        case rel=>exact⟨i + 1,by omega,by go_num,(by rw[show wsS (gpA L ww hh) ww hh X Y (i + 1)=wsR (gpA L ww hh) ww hh X Y i (wsS (gpA L ww hh) ww hh X Y i) Y.length from rfl,show Y.length=k from by omega,←Hst.out,←Hsu.out]),hs,B0,Blk,(by rw[show wsS (gpA L ww hh) ww hh X Y (i + 1)=wsR (gpA L ww hh) ww hh X Y i (wsS (gpA L ww hh) ww hh X Y i) Y.length from rfl,show Y.length=k from by omega,←Hst.out,←Hsu.out];exact B1)⟩
        all_goals first|(simp[intOf];done)|(simp[intOf];omega)
      have q15d:((i:Int) < (X.length:Int))=False:=eq_false (by omega)
      replace hs:=ar HB2_14.out hs
      replace hs:=ar HB1_13.out hs
      replace hs:=ar HB0_11.out hs
      refine B1.k4l fun Bi Bj Bk Bl Lbest=>?_
      refine Blk.k4fl fun Ba Bb Bc Bd fk Lk=>?_
      go_wp2
      clear Bi Bj Bk Bl Ba Bb Bc Bd fk Lbest Lk
      refine bodyPost.abs ?_
      intro w45 hW
      have hG:Gr [w.heap.size + 1] wl1 w45:=by rw[hW];exact (Gr.refl _ _).set.set.set.set
      have hsz:=hs.size
      have lk:=Blk.lt
      have Bl1k:Bx w45 (w.heap.size + 1) 26 #[.int .i64 st.1.1.1,.int .i64 st.1.1.2,.int .i64 st.1.2.1,.int .i64 st.1.2.2]:=by rw[hW];exact (Bx.set (Bx.set (Bx.set (Bx.set Blk 0 _ rfl) 1 _ rfl) 2 _ rfl) 3 _ rfl)
      replace hs:=hs.trans (hG.d1 hs.size)
      replace B0:=hG.b1 B0
      replace B1:=hG.b1 B1
      replace Blk:=Bl1k
      clear Bl1k
      clear hW hG hsz lk
      refine Blk.k4 fun Ba Bb Bc Bd=>?_
      exact bodyPost_ret (v:=.tuple #[.agg #[.int .i64 st.1.1.1,.int .i64 st.1.1.2,.int .i64 st.1.2.1,.int .i64 st.1.2.2],.int .i64 st.2,.int .i64 0]) (by simp[results,Tryz.results7,go_sem,Ba,Bb,Bc,Bd]) rfl ⟨by rw[show B=st.1 from by rw[HB.out,win_ok HWE.out,←HX.out,←HY.out,show X.length=i from by omega,←Hst.out],show n=st.2 from by rw[HN.out,win_ok HWE.out,←HX.out,←HY.out,show X.length=i from by omega,←Hst.out],show er_=0 from by rw[HE_.out,HWE.out]],hs⟩
  have q4b:(eb3 == 0)=false:=beq_eq_false_iff_ne.2 (by omega)
  have q4n:(eb3 != 0)=true:=bne_iff_ne.2 (by omega)
  have q4H:=ae q4
  clear q4
  have hWE:=ae (show wnE L rp rq ww hh=eb3 from (we_2 (Her1.out.symm.trans q2H.out) (fun h=>q4H.out (Heb3.out.trans h))).trans Heb3.out.symm)
  refine Blk.k4fl fun Ba Bb Bc Bd fk Lk=>?_
  go_wp2
  clear Ba Bb Bc Bd fk Lk
  refine bodyPost.abs ?_
  intro w4 hW
  have hG:Gr [w.heap.size + 1] w3 w4:=by rw[hW];exact (Gr.refl _ _).set.set.set.set
  have hsz:=hs.size
  have lk:=Blk.lt
  have Bl1k:Bx w4 (w.heap.size + 1) 26 #[.int .i64 0,.int .i64 0,.int .i64 0,.int .i64 0]:=by rw[hW];exact (Bx.set (Bx.set (Bx.set (Bx.set Blk 0 _ rfl) 1 _ rfl) 2 _ rfl) 3 _ rfl)
  replace hs:=hs.trans (hG.d1 hs.size)
  replace B0:=hG.b1 B0
  replace Blk:=Bl1k
  clear Bl1k
  clear hW hG hsz lk
  refine Blk.k4 fun Ba Bb Bc Bd=>?_
  exact bodyPost_ret (v:=.tuple #[.agg #[.int .i64 0,.int .i64 0,.int .i64 0,.int .i64 0],.int .i64 0,.int .i64 eb3]) (by simp[results,Tryz.results7,go_sem,Ba,Bb,Bc,Bd]) rfl ⟨by rw[show B=((0,0),(0,0)) from by rw[HB.out,win_err (by rw[hWE.out];exact q4H.out)],show n=0 from by rw[HN.out,win_err (by rw[hWE.out];exact q4H.out)],show er_=eb3 from by rw[HE_.out,hWE.out]],hs⟩
 have q2b:(er1 == 0)=false:=beq_eq_false_iff_ne.2 (by omega)
 have q2n:(er1 != 0)=true:=bne_iff_ne.2 (by omega)
 have q2H:=ae q2
 clear q2
 have hWE:=ae (show wnE L rp rq ww hh=er1 from (we_1 (fun h=>q2H.out (Her1.out.trans h))).trans Her1.out.symm)
 refine Blk.k4fl fun Ba Bb Bc Bd fk Lk=>?_
 go_wp2
 clear Ba Bb Bc Bd fk Lk
 refine bodyPost.abs ?_
 intro w3 hW
 have hG:Gr [w.heap.size + 1] w2 w3:=by rw[hW];exact (Gr.refl _ _).set.set.set.set
 have hsz:=hs.size
 have lk:=Blk.lt
 have Bl1k:Bx w3 (w.heap.size + 1) 26 #[.int .i64 0,.int .i64 0,.int .i64 0,.int .i64 0]:=by rw[hW];exact (Bx.set (Bx.set (Bx.set (Bx.set Blk 0 _ rfl) 1 _ rfl) 2 _ rfl) 3 _ rfl)
 replace hs:=hs.trans (hG.d1 hs.size)
 replace B0:=hG.b1 B0
 replace Blk:=Bl1k
 clear Bl1k
 clear hW hG hsz lk
 refine Blk.k4 fun Ba Bb Bc Bd=>?_
 exact bodyPost_ret (v:=.tuple #[.agg #[.int .i64 0,.int .i64 0,.int .i64 0,.int .i64 0],.int .i64 0,.int .i64 er1]) (by simp[results,Tryz.results7,go_sem,Ba,Bb,Bc,Bd]) rfl ⟨by rw[show B=((0,0),(0,0)) from by rw[HB.out,win_err (by rw[hWE.out];exact q2H.out)],show n=0 from by rw[HN.out,win_err (by rw[hWE.out];exact q2H.out)],show er_=er1 from by rw[HE_.out,hWE.out]],hs⟩
end Go.Proofs.YtidmjdmmpajooaaGreat
