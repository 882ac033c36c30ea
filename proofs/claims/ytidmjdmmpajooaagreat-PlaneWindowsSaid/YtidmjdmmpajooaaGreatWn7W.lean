/-
  plane: the window with the greatest area of gaps.
-/
import Derived.Test.YtidmjdmmpajooaaGreatWn6W
import Derived.WalkMore
set_option linter.unusedSimpArgs false
set_option linter.unusedVariables false
set_option maxRecDepth 100000
set_option maxHeartbeats 16000000
namespace Go.Proofs.YtidmjdmmpajooaaGreat
open Go.RowKit Dg
attribute [local go_sem ↓] Go.wp_at_zero Go.wp_at_succ
theorem pPX_rf {L:List Bxx} {p q:Pt} {ww:Int} (h0:0 < ww) (h1:p.1 + ww≤q.1):pPX L p q ww=rfX L p q ww:=plK2_crt h0 h1 (fun x=>(axZ_law _).2 x)
theorem pPY_rf {L:List Bxx} {p q:Pt} {hh:Int} (h0:0 < hh) (h1:p.2 + hh≤q.2):pPY L p q hh=rfY L p q hh:=plK2_crt h0 h1 (fun x=>(axZ_law _).2 x)
theorem wnl {x:Int} (h1: -2097152≤x) (h2:x≤2097152):Wn 2097152 x:=⟨h1,h2⟩
theorem pX_wn {L:List Bxx} (h:bxsE L=0):∀j,Wn 2097152 (nthI (pX L) j):=mem_wn (Wn.lit (by decide) (by decide)) (fun x hx=>exX_bd h _ x (((axZ_law _).2 x).1 hx))
theorem pY_wn {L:List Bxx} (h:bxsE L=0):∀j,Wn 2097152 (nthI (pY L) j):=mem_wn (Wn.lit (by decide) (by decide)) (fun x hx=>exY_bd h _ x (((axZ_law _).2 x).1 hx))
theorem ax_len (l:List Int):(axZ l).length≤l.length:=Nat.le_trans (cmp_le _) (by rw[List.length_mergeSort];exact ag _)
theorem win_fin {A:Int→Int→Int} {ww hh W:Int} (hA:∀x y,A x y≤W) {X Y:List Int} {a b:Nat} {st t:WSt} (hst:st=wsS A ww hh X Y a) (ht:t=wsR A ww hh X Y a st (b + 1)) (hb:b < Y.length) (ha:a < X.length) (h:t.2=W):wsS A ww hh X Y X.length=t:=by
 have e1:=wsR_from hA ht h Y.length hb
 refine wsS_from hA (i:=a + 1) ?_ h X.length ha
 show t=wsR A ww hh X Y a (wsS A ww hh X Y a) Y.length
 rw[←hst,e1]
theorem winP_ok {L:List Bxx} {p q:Pt} {ww hh:Int} (h:wnE L p q ww hh=0):winP L p q ww hh=wsS (pgA L ww hh) ww hh (pPX L p q ww) (pPY L p q hh) (pPX L p q ww).length:=if_pos h
theorem winP_err {L:List Bxx} {p q:Pt} {ww hh:Int} (h:¬ wnE L p q ww hh=0):winP L p q ww hh=(((0,0),(0,0)),0):=if_neg h
theorem noGoto_abs {P:Program} {fn:Func} {R:Ending→World→Prop} {a:Act} {w:World} (h:∀w',w'=w→bodyPost P fn R Exit.ret a w'):Exit.noGoto (bodyPost P fn R) Exit.ret a w:=h w rfl
theorem pt_in {C:List Pt} {j:Nat} (h:j < C.length):ptZ C j∈C:=List.mem_of_getElem? (jb0 h)
theorem pl_Window (v:Value) (L:List Bxx) (rp rq:Pt) (ww hh:Int) (w:World) (hl:Bxs w v L) (h4:L.length≤4∨24 < L.length) (hA:wnE L rp rq ww hh=0→∀x y,pgA L ww hh x y≤ww * hh) {B:Bxx} {n er_:Int} (hB:B=(winP L rp rq ww hh).1) (hn:n=(winP L rp rq ww hh).2) (he:er_=wnE L rp rq ww hh):
  Calls Tryz.prog 6 #[v,.agg #[.int .i64 rp.1,.int .i64 rp.2,.int .i64 rq.1,.int .i64 rq.2],.int .i64 ww,.int .i64 hh] w (fj w (.tuple #[.agg #[.int .i64 B.1.1,.int .i64 B.1.2,.int .i64 B.2.1,.int .i64 B.2.2],.int .i64 n,.int .i64 er_])):=by
 obtain⟨ao,cl,rfl, -, -, -⟩:=hl.slice
 have hs:=Below.refl w.heap.size w
 have HO:=ae hl
 have HA0:=ae hA
 have HB:=ae hB
 have HN:=ae hn
 have HE_:=ae he
 clear hl hB hn he hA
 obtain⟨p0,hp,hpz0,hpz1,hpz2⟩:=info_parts pair_info
 go_enter Tryz.func6,Tryz.ntmps6
 go_wp2
 refine Code.abs ?_
 intro w1 hW
 have hG:Gr [] w w1:=by rw[hW];exact (Gr.refl _ _).alloc.alloc.alloc
 have sz_w1:=hs.size
 have Bll:Bx w1 (w.heap.size) 22 #[.slice ao L.length cl]:=by rw[hW];exact (((Bx.new0 _ _ _).alloc _).alloc _)
 have B0:Bx w1 (w.heap.size + 1) 26 #[.int .i64 rp.1,.int .i64 rp.2,.int .i64 rq.1,.int .i64 rq.2]:=by rw[hW];exact ((Bx.new0 _ _ _).alloc _)
 have Blk:Bx w1 (w.heap.size + 1 + 1) 26 #[.int .i64 0,.int .i64 0,.int .i64 0,.int .i64 0]:=by rw[hW];exact (Bx.new0 _ _ _)
 replace hs:=hs.trans (hG.below0 hs.size)
 clear hW hG
 have hz_w1:=Blk.lt
 refine wp_scope_straight ?_
 refine Bll.k1l fun B3 Ll=>?_
 go_wp2_with fail
 clear B3 Ll
 with_reducible refine (pl_checkBoxes _ L _ (be.mono IE.kept HO.out hs)).mono ?_
 rintro e w2 ⟨rfl,hb⟩
 revert Bll B0 Blk;refine mS hs hb ?_;clear hs hb;intro hs Bll B0 Blk
 obtain⟨er1,Her1⟩:∃s:Int,s=bxsE L:=⟨_,rfl⟩
 rw[←Her1]
 replace Her1:=ae Her1
 by_cases q2:er1=0
 ·have q2b:(er1 == 0)=true:=beq_iff_eq.2 (by omega)
  have q2n:(er1 != 0)=false:=bne_eq_false_iff_eq.2 (by omega)
  have q2H:=ae q2
  clear q2
  refine B0.k4l fun B9 Ba Bb Bc Lregion=>?_
  go_wp2_with fail
  clear B9 Ba Bb Bc Lregion
  with_reducible refine (pl_checkBox rp rq _).mono ?_
  rintro e w3 ⟨rfl,hb⟩
  revert Bll B0 Blk;refine mS hs hb ?_;clear hs hb;intro hs Bll B0 Blk
  obtain⟨eb3,Heb3⟩:∃s:Int,s=bxE (rp,rq):=⟨_,rfl⟩
  rw[←Heb3]
  replace Heb3:=ae Heb3
  by_cases q4:eb3=0
  ·have q4b:(eb3 == 0)=true:=beq_iff_eq.2 (by omega)
   have q4n:(eb3 != 0)=false:=bne_eq_false_iff_eq.2 (by omega)
   have q4H:=ae q4
   clear q4
   by_cases q5:ww < 1
   ·have q5d:(ww < 1)=True:=eq_true (by omega)
    have hWE:=ae (show wnE L rp rq ww hh=1 from we_3 (Her1.out.symm.trans q2H.out) (Heb3.out.symm.trans q4H.out) (by omega))
    refine Blk.k4fl fun B5 B6 B7 B8 fk Lk=>?_
    go_wp2
    clear B5 B6 B7 B8 fk Lk
    first|refine bodyPost.abs ?_|refine noGoto_abs ?_
    intro w4 hW
    have hG:Gr [w.heap.size + 1 + 1] w3 w4:=by rw[hW];exact (Gr.refl _ _).set.set.set.set
    have hsz:=hs.size
    have lk:=Blk.lt
    have Bl1k:Bx w4 (w.heap.size + 1 + 1) 26 #[.int .i64 0,.int .i64 0,.int .i64 0,.int .i64 0]:=by rw[hW];exact (Bx.set (Bx.set (Bx.set (Bx.set Blk 0 _ rfl) 1 _ rfl) 2 _ rfl) 3 _ rfl)
    replace hs:=hs.trans (hG.d1 hs.size)
    replace Bll:=hG.b1 Bll
    replace B0:=hG.b1 B0
    replace Blk:=Bl1k
    clear Bl1k
    clear hW hG hsz lk
    refine Blk.k4 fun B5 B6 B7 B8=>?_
    exact bodyPost_ret (v:=.tuple #[.agg #[.int .i64 0,.int .i64 0,.int .i64 0,.int .i64 0],.int .i64 0,.int .i64 1]) (by simp[results,Tryz.results6,go_sem,B5,B6,B7,B8]) rfl ⟨by rw[show B=((0,0),(0,0)) from by rw[HB.out,winP_err (by rw[hWE.out];decide)],show n=0 from by rw[HN.out,winP_err (by rw[hWE.out];decide)],show er_=1 from by rw[HE_.out,hWE.out]],hs⟩
   have q5d:(ww < 1)=False:=eq_false (by omega)
   by_cases q6:hh < 1
   ·have q6d:(hh < 1)=True:=eq_true (by omega)
    have hWE:=ae (show wnE L rp rq ww hh=1 from we_3 (Her1.out.symm.trans q2H.out) (Heb3.out.symm.trans q4H.out) (by omega))
    refine Blk.k4fl fun B5 B6 B7 B8 fk Lk=>?_
    go_wp2
    clear B5 B6 B7 B8 fk Lk
    first|refine bodyPost.abs ?_|refine noGoto_abs ?_
    intro w4 hW
    have hG:Gr [w.heap.size + 1 + 1] w3 w4:=by rw[hW];exact (Gr.refl _ _).set.set.set.set
    have hsz:=hs.size
    have lk:=Blk.lt
    have Bl1k:Bx w4 (w.heap.size + 1 + 1) 26 #[.int .i64 0,.int .i64 0,.int .i64 0,.int .i64 0]:=by rw[hW];exact (Bx.set (Bx.set (Bx.set (Bx.set Blk 0 _ rfl) 1 _ rfl) 2 _ rfl) 3 _ rfl)
    replace hs:=hs.trans (hG.d1 hs.size)
    replace Bll:=hG.b1 Bll
    replace B0:=hG.b1 B0
    replace Blk:=Bl1k
    clear Bl1k
    clear hW hG hsz lk
    refine Blk.k4 fun B5 B6 B7 B8=>?_
    exact bodyPost_ret (v:=.tuple #[.agg #[.int .i64 0,.int .i64 0,.int .i64 0,.int .i64 0],.int .i64 0,.int .i64 1]) (by simp[results,Tryz.results6,go_sem,B5,B6,B7,B8]) rfl ⟨by rw[show B=((0,0),(0,0)) from by rw[HB.out,winP_err (by rw[hWE.out];decide)],show n=0 from by rw[HN.out,winP_err (by rw[hWE.out];decide)],show er_=1 from by rw[HE_.out,hWE.out]],hs⟩
   have q6d:(hh < 1)=False:=eq_false (by omega)
   have HEA:=ae (Her1.out.symm.trans q2H.out)
   have HEB:=ae (Heb3.out.symm.trans q4H.out)
   have hrb:=bx_ok HEB.out
   have hb1:=hrb.1.1
   have hb2:=hrb.1.2
   have hb3:=hrb.2.1
   have hb4:=hrb.2.2
   unfold Wn at hb1 hb2 hb3 hb4
   simp only at hb1 hb2 hb3 hb4
   clear hrb
   have h44:L.length≤4:=by have:=(bxs_ok HEA.out).1;omega
   have AX7:IntKind.i64.wrap (rq.1 - rp.1)=rq.1 - rp.1:=IntWalk.i64_in _ (by omega)
   by_cases q8:rq.1 - rp.1 < ww
   ·have q8d:(rq.1 - rp.1 < ww)=True:=eq_true (by omega)
    have hWE:=ae (show wnE L rp rq ww hh=5 from we_4 HEA.out HEB.out (by omega) (by omega))
    refine B0.k4l fun B9 Ba Bb Bc Lregion=>?_
    refine Blk.k4fl fun B5 B6 B7 B8 fk Lk=>?_
    go_wp2
    clear B9 Ba Bb Bc B5 B6 B7 B8 fk Lregion Lk
    first|refine bodyPost.abs ?_|refine noGoto_abs ?_
    intro w4 hW
    have hG:Gr [w.heap.size + 1 + 1] w3 w4:=by rw[hW];exact (Gr.refl _ _).set.set.set.set
    have hsz:=hs.size
    have lk:=Blk.lt
    have Bl1k:Bx w4 (w.heap.size + 1 + 1) 26 #[.int .i64 0,.int .i64 0,.int .i64 0,.int .i64 0]:=by rw[hW];exact (Bx.set (Bx.set (Bx.set (Bx.set Blk 0 _ rfl) 1 _ rfl) 2 _ rfl) 3 _ rfl)
    replace hs:=hs.trans (hG.d1 hs.size)
    replace Bll:=hG.b1 Bll
    replace B0:=hG.b1 B0
    replace Blk:=Bl1k
    clear Bl1k
    clear hW hG hsz lk
    refine Blk.k4 fun B5 B6 B7 B8=>?_
    exact bodyPost_ret (v:=.tuple #[.agg #[.int .i64 0,.int .i64 0,.int .i64 0,.int .i64 0],.int .i64 0,.int .i64 5]) (by simp[results,Tryz.results6,go_sem,B5,B6,B7,B8]) rfl ⟨by rw[show B=((0,0),(0,0)) from by rw[HB.out,winP_err (by rw[hWE.out];decide)],show n=0 from by rw[HN.out,winP_err (by rw[hWE.out];decide)],show er_=5 from by rw[HE_.out,hWE.out]],hs⟩
   have q8d:(rq.1 - rp.1 < ww)=False:=eq_false (by omega)
   have AX9:IntKind.i64.wrap (rq.2 - rp.2)=rq.2 - rp.2:=IntWalk.i64_in _ (by omega)
   by_cases q10:rq.2 - rp.2 < hh
   ·have q10d:(rq.2 - rp.2 < hh)=True:=eq_true (by omega)
    have hWE:=ae (show wnE L rp rq ww hh=5 from we_4 HEA.out HEB.out (by omega) (by omega))
    refine B0.k4l fun B9 Ba Bb Bc Lregion=>?_
    refine Blk.k4fl fun B5 B6 B7 B8 fk Lk=>?_
    go_wp2
    clear B9 Ba Bb Bc B5 B6 B7 B8 fk Lregion Lk
    first|refine bodyPost.abs ?_|refine noGoto_abs ?_
    intro w4 hW
    have hG:Gr [w.heap.size + 1 + 1] w3 w4:=by rw[hW];exact (Gr.refl _ _).set.set.set.set
    have hsz:=hs.size
    have lk:=Blk.lt
    have Bl1k:Bx w4 (w.heap.size + 1 + 1) 26 #[.int .i64 0,.int .i64 0,.int .i64 0,.int .i64 0]:=by rw[hW];exact (Bx.set (Bx.set (Bx.set (Bx.set Blk 0 _ rfl) 1 _ rfl) 2 _ rfl) 3 _ rfl)
    replace hs:=hs.trans (hG.d1 hs.size)
    replace Bll:=hG.b1 Bll
    replace B0:=hG.b1 B0
    replace Blk:=Bl1k
    clear Bl1k
    clear hW hG hsz lk
    refine Blk.k4 fun B5 B6 B7 B8=>?_
    exact bodyPost_ret (v:=.tuple #[.agg #[.int .i64 0,.int .i64 0,.int .i64 0,.int .i64 0],.int .i64 0,.int .i64 5]) (by simp[results,Tryz.results6,go_sem,B5,B6,B7,B8]) rfl ⟨by rw[show B=((0,0),(0,0)) from by rw[HB.out,winP_err (by rw[hWE.out];decide)],show n=0 from by rw[HN.out,winP_err (by rw[hWE.out];decide)],show er_=5 from by rw[HE_.out,hWE.out]],hs⟩
   have q10d:(rq.2 - rp.2 < hh)=False:=eq_false (by omega)
   have HWE:=ae (show wnE L rp rq ww hh=0 from we_5 HEA.out HEB.out (by omega) (by omega))
   have HAL:=ae (HA0.out HWE.out)
   have HWn:=ae (show Wn 2097152 ww∧Wn 2097152 hh from ⟨wnl (by omega) (by omega),wnl (by omega) (by omega)⟩)
   obtain⟨X,HX⟩:∃z,z=pX L:=⟨_,rfl⟩
   obtain⟨Y,HY⟩:∃z,z=pY L:=⟨_,rfl⟩
   have hX2:X.length≤8:=by have h:=ax_len (exX L L.length);rw[exX_len] at h;rw[HX];exact Nat.le_trans h (by omega)
   have hY2:Y.length≤8:=by have h:=ax_len (exY L L.length);rw[exY_len] at h;rw[HY];exact Nat.le_trans h (by omega)
   have HXW:=ae (show ∀j,Wn 2097152 (nthI X j) from by rw[HX];exact pX_wn HEA.out)
   have HYW:=ae (show ∀j,Wn 2097152 (nthI Y j) from by rw[HY];exact pY_wn HEA.out)
   have HXB:=ae (show ∀j,j < X.length→ -4000000≤nthI X j∧nthI X j≤4000000 from fun j _=>by have h:=HXW.out j;unfold Wn at h;omega)
   have HYB:=ae (show ∀j,j < Y.length→ -4000000≤nthI Y j∧nthI Y j≤4000000 from fun j _=>by have h:=HYW.out j;unfold Wn at h;omega)
   replace HX:=ae HX
   replace HY:=ae HY
   obtain⟨PX,HPX⟩:∃z,z=pPX L rp rq ww:=⟨_,rfl⟩
   obtain⟨PY,HPY⟩:∃z,z=pPY L rp rq hh:=⟨_,rfl⟩
   have ePX:PX=rfX L rp rq ww:=by rw[HPX];exact pPX_rf (by omega) (by omega)
   have ePY:PY=rfY L rp rq hh:=by rw[HPY];exact pPY_rf (by omega) (by omega)
   have hPX1:1≤PX.length:=by rw[ePX];exact (crt_len _ _ _ _).1
   have hPX2:PX.length≤18:=by have h:=(crt_len (exX L L.length) ww rp.1 rq.1).2;rw[exX_len] at h;rw[ePX];exact Nat.le_trans h (by omega)
   have HPXI:=ae (show ∀j,j < PX.length→rp.1≤nthI PX j∧nthI PX j + ww≤rq.1 from fun j hj=>crt_in (E:=exX L L.length) (by omega) (by omega) (by rw[ePX] at hj ⊢;exact nth_in hj))
   have hPY1:1≤PY.length:=by rw[ePY];exact (crt_len _ _ _ _).1
   have hPY2:PY.length≤18:=by have h:=(crt_len (exY L L.length) hh rp.2 rq.2).2;rw[exY_len] at h;rw[ePY];exact Nat.le_trans h (by omega)
   have HPYI:=ae (show ∀j,j < PY.length→rp.2≤nthI PY j∧nthI PY j + hh≤rq.2 from fun j hj=>crt_in (E:=exY L L.length) (by omega) (by omega) (by rw[ePY] at hj ⊢;exact nth_in hj))
   clear ePX ePY
   replace HPX:=ae HPX
   replace HPY:=ae HPY
   refine B0.k4l fun B9 Ba Bb Bc Lregion=>?_
   go_upto_region 11 with fail
   clear B9 Ba Bb Bc Lregion
   go_cut [13,14,72,73,74,75] (fun k13 k14 k72 k73 k74 k75 wz=>∃gX gY:Nat,∃aX aY:Option Addr,∃kX kY:Nat,k13=.pointer (some ⟨gX,0,none⟩)∧k14=.pointer (some ⟨gY,0,none⟩)∧gX≠gY∧w.heap.size≠gX∧w.heap.size≠gY∧(w.heap.size + 1)≠gX∧(w.heap.size + 1)≠gY∧(w.heap.size + 1 + 1)≠gX∧(w.heap.size + 1 + 1)≠gY∧Below w.heap.size w wz∧Bx wz (w.heap.size) 22 #[.slice ao L.length cl]∧Bx wz (w.heap.size + 1) 26 #[.int .i64 rp.1,.int .i64 rp.2,.int .i64 rq.1,.int .i64 rq.2]∧Bx wz (w.heap.size + 1 + 1) 26 #[.int .i64 0,.int .i64 0,.int .i64 0,.int .i64 0]∧Bx wz gX 53 #[.slice aX X.length kX]∧Bx wz gY 53 #[.slice aY Y.length kY]∧Rows 1 3 IC wz (.slice aX X.length kX) X∧Rows 1 3 IC wz (.slice aY Y.length kY) Y)
   case first=>
    go_upto_region 11 with fail
    refine bw (S:=fun w'=>w'.cell? ⟨w.heap.size,0,none⟩=some (.slice ao L.length cl)) (by kernel_rfl) 7 ?_
    refine cq.abs ?_
    intro w4 hW
    have hb:Below w3.heap.size w3 w4:=by rw[hW];exact de _
    replace hs:=ar hs hb
    revert Bll B0 Blk;refine mo hb ?_;intro Bll B0 Blk
    clear hb hW
    have B3:=Bll.a0
    have hH:=(show w4.cell? ⟨w.heap.size,0,none⟩=some (.slice ao L.length cl) from B3)
    refine cz 0 ?_ ?_ hH ?_
    rotate_left
    ·(intro w hSw;(try dsimp only at hSw);go_simp;try with_reducible rfl)
    try simp only[LY]
    refine cz 2 ?_ ?_ hH ?_
    rotate_left
    ·(intro w hSw;(try dsimp only at hSw);go_simp;try with_reducible rfl)
    try simp only[LY]
    refine jv (i:=1) (j:=4) (k:=5) (by kernel_rfl) rfl rfl rfl (fun K hK=>?_) (fun K hK=>?_) (fun K hK=>?_)
    ·clear hH
     go_simp
     (with_reducible refine (pl_axX _ L _ (be.mono IE.kept HO.out hs) (by omega)).mono ?_)
     rintro e w5 ⟨_,rfl,hcX,hb⟩
     rw[show axZ (exX L L.length)=X from HX.out.symm] at hcX
     obtain⟨ahcX,khcX,rfl,hcX1,hcX2,hcX3⟩:=hcX.toI.slice
     replace hs:=ar hs hb
     revert Blk;revert B0;revert Bll;refine mo hb ?_;intro Bll B0 Blk
     replace B3:=ah B3 hb
     clear hb
     try go_wp2_with fail
     refine hK.out _ _ B3 (fun hH=>?_)
     clear hK K
     try simp only[LY]
     refine jv (i:=3) (j:=4) (k:=5) (by kernel_rfl) rfl rfl rfl (fun K hK=>?_) (fun K hK=>?_) (fun K hK=>?_)
     ·clear hH
      go_simp
      (with_reducible refine (pl_axY _ L _ (be.mono IE.kept HO.out hs) (by omega)).mono ?_)
      rintro e w6 ⟨_,rfl,hcY,hb⟩
      rw[show axZ (exY L L.length)=Y from HY.out.symm] at hcY
      obtain⟨ahcY,khcY,rfl,hcY1,hcY2,hcY3⟩:=hcY.toI.slice
      replace hs:=ar hs hb
      revert Blk;revert B0;revert Bll;refine mo hb ?_;intro Bll B0 Blk
      replace hcX:=el IC.kept _ _ _ hcX hb
      replace B3:=ah B3 hb
      clear hb
      try go_wp2_with fail
      refine hK.out _ _ B3 (fun hH=>?_)
      clear hK K
      try simp only[LY]
      refine dq (i:=4) (j:=5) (by kernel_rfl) rfl rfl (fun K hK=>?_) (fun K hK=>?_)
      ·clear hH
       go_simp
       generalize hWn:(w6.alloc (.cells #[.slice none 0 0] 53))=w7
       have hb:Below w6.heap.size w6 w7:=by rw[←hWn];exact (Below.refl _ _).alloc (ag _) _
       have B1:Bx w7 (w6.heap.size) 53 #[.slice none 0 0]:=by rw[←hWn];exact Bx.new _ _ _
       have nl_xs:w.heap.size≠w6.heap.size:=by have:=Bll.lt;omega
       have nregion_xs:w.heap.size + 1≠w6.heap.size:=by have:=B0.lt;omega
       have nk_xs:w.heap.size + 1 + 1≠w6.heap.size:=by have:=Blk.lt;omega
       have sz_xs:=hs.size
       replace hs:=ar hs hb
       revert Bll B0 Blk;refine mo hb ?_;intro Bll B0 Blk
       replace hcX:=el IC.kept _ _ _ hcX hb
       replace hcY:=el IC.kept _ _ _ hcY hb
       replace B3:=ah B3 hb
       clear hb hWn
       refine hK.out _ _ B3 (fun hH=>?_)
       clear hK K
       try simp only[LY]
       clear hH
       refine U_on 5 fun K hK=>?_
       go_simp
       generalize hWn:(w7.alloc (.cells #[.slice none 0 0] 53))=w8
       have hb:Below w7.heap.size w7 w8:=by rw[←hWn];exact (Below.refl _ _).alloc (ag _) _
       have B2:Bx w8 (w7.heap.size) 53 #[.slice none 0 0]:=by rw[←hWn];exact Bx.new _ _ _
       have nl_ys:w.heap.size≠w7.heap.size:=by have:=Bll.lt;omega
       have nregion_ys:w.heap.size + 1≠w7.heap.size:=by have:=B0.lt;omega
       have nk_ys:w.heap.size + 1 + 1≠w7.heap.size:=by have:=Blk.lt;omega
       have nxs_ys:w6.heap.size≠w7.heap.size:=by have:=B1.lt;omega
       have sz_ys:=hs.size
       replace hs:=ar hs hb
       revert B1 Bll B0 Blk;refine mo hb ?_;intro B1 Bll B0 Blk
       replace hcX:=el IC.kept _ _ _ hcX hb
       replace hcY:=el IC.kept _ _ _ hcY hb
       replace B3:=ah B3 hb
       clear hb hWn
       refine hK.out _ _ B3 (fun hH=>?_)
       clear hK K
       try simp only[LY]
       clear hH
       refine B1.k1fl fun Bd fxs Lxs=>?_
       refine U_on 6 fun K hK=>?_
       go_simp
       generalize hW_:(w8.setCell ⟨w6.heap.size,0,none⟩ (.slice ahcX X.length khcX))=w9
       have hW:=hW_.symm
       clear hW_
       have hG:Gr [w6.heap.size] w8 w9:=by rw[hW];exact (Gr.refl _ _).set
       have hsz:=hs.size
       have lxs:=B1.lt
       have Bl1xs:Bx w9 (w6.heap.size) 53 #[.slice ahcX X.length khcX]:=by rw[hW];exact (Bx.set B1 0 _ rfl)
       replace hs:=hs.trans (hG.d1 hs.size)
       replace hcX:=hcX.onlyT IC.kept (hG.onlyT (by intro g hg;simp only[List.mem_cons,List.mem_nil_iff,or_false] at hg;rcases hg with rfl<;>first|exact B1.ty)) (by decide) (by decide)
       replace hcY:=hcY.onlyT IC.kept (hG.onlyT (by intro g hg;simp only[List.mem_cons,List.mem_nil_iff,or_false] at hg;rcases hg with rfl<;>first|exact B1.ty)) (by decide) (by decide)
       replace Bll:=hG.b1 Bll
       replace B0:=hG.b1 B0
       replace Blk:=hG.b1 Blk
       replace B2:=hG.b1 B2
       replace B1:=Bl1xs
       clear Bl1xs
       replace B3:=hG.c1 B3
       clear hW hG hsz lxs
       refine hK.out _ _ B3 (fun hH=>?_)
       clear hK K
       try simp only[LY]
       clear hH
       refine B2.k1fl fun Be fys Lys=>?_
       refine dr (by kernel_rfl) rfl (by kernel_rfl) (fun K hK=>?_)
       go_simp
       refine hK.out _ _ ?_
       clear hK K
       intro w10 hW
       have hG:Gr [w7.heap.size] w9 w10:=by rw[hW];exact (Gr.refl _ _).set
       have hsz:=hs.size
       have lys:=B2.lt
       have Bl1ys:Bx w10 (w7.heap.size) 53 #[.slice ahcY Y.length khcY]:=by rw[hW];exact (Bx.set B2 0 _ rfl)
       replace hs:=hs.trans (hG.d1 hs.size)
       replace hcX:=hcX.onlyT IC.kept (hG.onlyT (by intro g hg;simp only[List.mem_cons,List.mem_nil_iff,or_false] at hg;rcases hg with rfl<;>first|exact B2.ty)) (by decide) (by decide)
       replace hcY:=hcY.onlyT IC.kept (hG.onlyT (by intro g hg;simp only[List.mem_cons,List.mem_nil_iff,or_false] at hg;rcases hg with rfl<;>first|exact B2.ty)) (by decide) (by decide)
       replace Bll:=hG.b1 Bll
       replace B0:=hG.b1 B0
       replace Blk:=hG.b1 Blk
       replace B1:=hG.b1 B1
       replace B2:=Bl1ys
       clear Bl1ys
       clear hW hG hsz lys
       try simp only[LY]
       clear B3
       go_wp2_with fail
       go_meet
       exact⟨w6.heap.size,w7.heap.size,_,_,_,_,rfl,rfl,by omega,by omega,by omega,by omega,by omega,by omega,by omega,hs,Bll,B0,Blk,B1,B2,hcX,hcY⟩
      clear hH
      go_simp
      generalize hWn:(w6.alloc (.cells #[.slice none 0 0] 53))=w7
      have hb:Below w6.heap.size w6 w7:=by rw[←hWn];exact (Below.refl _ _).alloc (ag _) _
      have B2:Bx w7 (w6.heap.size) 53 #[.slice none 0 0]:=by rw[←hWn];exact Bx.new _ _ _
      have nl_ys:w.heap.size≠w6.heap.size:=by have:=Bll.lt;omega
      have nregion_ys:w.heap.size + 1≠w6.heap.size:=by have:=B0.lt;omega
      have nk_ys:w.heap.size + 1 + 1≠w6.heap.size:=by have:=Blk.lt;omega
      have sz_ys:=hs.size
      replace hs:=ar hs hb
      revert Bll B0 Blk;refine mo hb ?_;intro Bll B0 Blk
      replace hcX:=el IC.kept _ _ _ hcX hb
      replace hcY:=el IC.kept _ _ _ hcY hb
      replace B3:=ah B3 hb
      clear hb hWn
      refine hK.out _ _ B3 (fun hH=>?_)
      clear hK K
      try simp only[LY]
      clear hH
      refine U_on 4 fun K hK=>?_
      go_simp
      generalize hWn:(w7.alloc (.cells #[.slice none 0 0] 53))=w8
      have hb:Below w7.heap.size w7 w8:=by rw[←hWn];exact (Below.refl _ _).alloc (ag _) _
      have B1:Bx w8 (w7.heap.size) 53 #[.slice none 0 0]:=by rw[←hWn];exact Bx.new _ _ _
      have nl_xs:w.heap.size≠w7.heap.size:=by have:=Bll.lt;omega
      have nregion_xs:w.heap.size + 1≠w7.heap.size:=by have:=B0.lt;omega
      have nk_xs:w.heap.size + 1 + 1≠w7.heap.size:=by have:=Blk.lt;omega
      have nys_xs:w6.heap.size≠w7.heap.size:=by have:=B2.lt;omega
      have sz_xs:=hs.size
      replace hs:=ar hs hb
      revert B2 Bll B0 Blk;refine mo hb ?_;intro B2 Bll B0 Blk
      replace hcX:=el IC.kept _ _ _ hcX hb
      replace hcY:=el IC.kept _ _ _ hcY hb
      replace B3:=ah B3 hb
      clear hb hWn
      refine hK.out _ _ B3 (fun hH=>?_)
      clear hK K
      try simp only[LY]
      clear hH
      refine B1.k1fl fun Bd fxs Lxs=>?_
      refine U_on 6 fun K hK=>?_
      go_simp
      generalize hW_:(w8.setCell ⟨w7.heap.size,0,none⟩ (.slice ahcX X.length khcX))=w9
      have hW:=hW_.symm
      clear hW_
      have hG:Gr [w7.heap.size] w8 w9:=by rw[hW];exact (Gr.refl _ _).set
      have hsz:=hs.size
      have lxs:=B1.lt
      have Bl1xs:Bx w9 (w7.heap.size) 53 #[.slice ahcX X.length khcX]:=by rw[hW];exact (Bx.set B1 0 _ rfl)
      replace hs:=hs.trans (hG.d1 hs.size)
      replace hcX:=hcX.onlyT IC.kept (hG.onlyT (by intro g hg;simp only[List.mem_cons,List.mem_nil_iff,or_false] at hg;rcases hg with rfl<;>first|exact B1.ty)) (by decide) (by decide)
      replace hcY:=hcY.onlyT IC.kept (hG.onlyT (by intro g hg;simp only[List.mem_cons,List.mem_nil_iff,or_false] at hg;rcases hg with rfl<;>first|exact B1.ty)) (by decide) (by decide)
      replace Bll:=hG.b1 Bll
      replace B0:=hG.b1 B0
      replace Blk:=hG.b1 Blk
      replace B2:=hG.b1 B2
      replace B1:=Bl1xs
      clear Bl1xs
      replace B3:=hG.c1 B3
      clear hW hG hsz lxs
      refine hK.out _ _ B3 (fun hH=>?_)
      clear hK K
      try simp only[LY]
      clear hH
      refine B2.k1fl fun Be fys Lys=>?_
      refine dr (by kernel_rfl) rfl (by kernel_rfl) (fun K hK=>?_)
      go_simp
      refine hK.out _ _ ?_
      clear hK K
      intro w10 hW
      have hG:Gr [w6.heap.size] w9 w10:=by rw[hW];exact (Gr.refl _ _).set
      have hsz:=hs.size
      have lys:=B2.lt
      have Bl1ys:Bx w10 (w6.heap.size) 53 #[.slice ahcY Y.length khcY]:=by rw[hW];exact (Bx.set B2 0 _ rfl)
      replace hs:=hs.trans (hG.d1 hs.size)
      replace hcX:=hcX.onlyT IC.kept (hG.onlyT (by intro g hg;simp only[List.mem_cons,List.mem_nil_iff,or_false] at hg;rcases hg with rfl<;>first|exact B2.ty)) (by decide) (by decide)
      replace hcY:=hcY.onlyT IC.kept (hG.onlyT (by intro g hg;simp only[List.mem_cons,List.mem_nil_iff,or_false] at hg;rcases hg with rfl<;>first|exact B2.ty)) (by decide) (by decide)
      replace Bll:=hG.b1 Bll
      replace B0:=hG.b1 B0
      replace Blk:=hG.b1 Blk
      replace B1:=hG.b1 B1
      replace B2:=Bl1ys
      clear Bl1ys
      clear hW hG hsz lys
      try simp only[LY]
      clear B3
      go_wp2_with fail
      go_meet
      exact⟨w7.heap.size,w6.heap.size,_,_,_,_,rfl,rfl,by omega,by omega,by omega,by omega,by omega,by omega,by omega,hs,Bll,B0,Blk,B1,B2,hcX,hcY⟩
     ·clear hH
      go_simp
      generalize hWn:(w5.alloc (.cells #[.slice none 0 0] 53))=w6
      have hb:Below w5.heap.size w5 w6:=by rw[←hWn];exact (Below.refl _ _).alloc (ag _) _
      have B1:Bx w6 (w5.heap.size) 53 #[.slice none 0 0]:=by rw[←hWn];exact Bx.new _ _ _
      have nl_xs:w.heap.size≠w5.heap.size:=by have:=Bll.lt;omega
      have nregion_xs:w.heap.size + 1≠w5.heap.size:=by have:=B0.lt;omega
      have nk_xs:w.heap.size + 1 + 1≠w5.heap.size:=by have:=Blk.lt;omega
      have sz_xs:=hs.size
      replace hs:=ar hs hb
      revert Bll B0 Blk;refine mo hb ?_;intro Bll B0 Blk
      replace hcX:=el IC.kept _ _ _ hcX hb
      replace B3:=ah B3 hb
      clear hb hWn
      refine hK.out _ _ B3 (fun hH=>?_)
      clear hK K
      try simp only[LY]
      refine dq (i:=3) (j:=5) (by kernel_rfl) rfl rfl (fun K hK=>?_) (fun K hK=>?_)
      ·clear hH
       go_simp
       (with_reducible refine (pl_axY _ L _ (be.mono IE.kept HO.out hs) (by omega)).mono ?_)
       rintro e w7 ⟨_,rfl,hcY,hb⟩
       rw[show axZ (exY L L.length)=Y from HY.out.symm] at hcY
       obtain⟨ahcY,khcY,rfl,hcY1,hcY2,hcY3⟩:=hcY.toI.slice
       replace hs:=ar hs hb
       revert Blk;revert B0;revert Bll;revert B1;refine mo hb ?_;intro B1 Bll B0 Blk
       replace hcX:=el IC.kept _ _ _ hcX hb
       replace B3:=ah B3 hb
       clear hb
       try go_wp2_with fail
       refine hK.out _ _ B3 (fun hH=>?_)
       clear hK K
       try simp only[LY]
       clear hH
       refine U_on 5 fun K hK=>?_
       go_simp
       generalize hWn:(w7.alloc (.cells #[.slice none 0 0] 53))=w8
       have hb:Below w7.heap.size w7 w8:=by rw[←hWn];exact (Below.refl _ _).alloc (ag _) _
       have B2:Bx w8 (w7.heap.size) 53 #[.slice none 0 0]:=by rw[←hWn];exact Bx.new _ _ _
       have nl_ys:w.heap.size≠w7.heap.size:=by have:=Bll.lt;omega
       have nregion_ys:w.heap.size + 1≠w7.heap.size:=by have:=B0.lt;omega
       have nk_ys:w.heap.size + 1 + 1≠w7.heap.size:=by have:=Blk.lt;omega
       have nxs_ys:w5.heap.size≠w7.heap.size:=by have:=B1.lt;omega
       have sz_ys:=hs.size
       replace hs:=ar hs hb
       revert B1 Bll B0 Blk;refine mo hb ?_;intro B1 Bll B0 Blk
       replace hcX:=el IC.kept _ _ _ hcX hb
       replace hcY:=el IC.kept _ _ _ hcY hb
       replace B3:=ah B3 hb
       clear hb hWn
       refine hK.out _ _ B3 (fun hH=>?_)
       clear hK K
       try simp only[LY]
       clear hH
       refine B1.k1fl fun Bd fxs Lxs=>?_
       refine U_on 6 fun K hK=>?_
       go_simp
       generalize hW_:(w8.setCell ⟨w5.heap.size,0,none⟩ (.slice ahcX X.length khcX))=w9
       have hW:=hW_.symm
       clear hW_
       have hG:Gr [w5.heap.size] w8 w9:=by rw[hW];exact (Gr.refl _ _).set
       have hsz:=hs.size
       have lxs:=B1.lt
       have Bl1xs:Bx w9 (w5.heap.size) 53 #[.slice ahcX X.length khcX]:=by rw[hW];exact (Bx.set B1 0 _ rfl)
       replace hs:=hs.trans (hG.d1 hs.size)
       replace hcX:=hcX.onlyT IC.kept (hG.onlyT (by intro g hg;simp only[List.mem_cons,List.mem_nil_iff,or_false] at hg;rcases hg with rfl<;>first|exact B1.ty)) (by decide) (by decide)
       replace hcY:=hcY.onlyT IC.kept (hG.onlyT (by intro g hg;simp only[List.mem_cons,List.mem_nil_iff,or_false] at hg;rcases hg with rfl<;>first|exact B1.ty)) (by decide) (by decide)
       replace Bll:=hG.b1 Bll
       replace B0:=hG.b1 B0
       replace Blk:=hG.b1 Blk
       replace B2:=hG.b1 B2
       replace B1:=Bl1xs
       clear Bl1xs
       replace B3:=hG.c1 B3
       clear hW hG hsz lxs
       refine hK.out _ _ B3 (fun hH=>?_)
       clear hK K
       try simp only[LY]
       clear hH
       refine B2.k1fl fun Be fys Lys=>?_
       refine dr (by kernel_rfl) rfl (by kernel_rfl) (fun K hK=>?_)
       go_simp
       refine hK.out _ _ ?_
       clear hK K
       intro w10 hW
       have hG:Gr [w7.heap.size] w9 w10:=by rw[hW];exact (Gr.refl _ _).set
       have hsz:=hs.size
       have lys:=B2.lt
       have Bl1ys:Bx w10 (w7.heap.size) 53 #[.slice ahcY Y.length khcY]:=by rw[hW];exact (Bx.set B2 0 _ rfl)
       replace hs:=hs.trans (hG.d1 hs.size)
       replace hcX:=hcX.onlyT IC.kept (hG.onlyT (by intro g hg;simp only[List.mem_cons,List.mem_nil_iff,or_false] at hg;rcases hg with rfl<;>first|exact B2.ty)) (by decide) (by decide)
       replace hcY:=hcY.onlyT IC.kept (hG.onlyT (by intro g hg;simp only[List.mem_cons,List.mem_nil_iff,or_false] at hg;rcases hg with rfl<;>first|exact B2.ty)) (by decide) (by decide)
       replace Bll:=hG.b1 Bll
       replace B0:=hG.b1 B0
       replace Blk:=hG.b1 Blk
       replace B1:=hG.b1 B1
       replace B2:=Bl1ys
       clear Bl1ys
       clear hW hG hsz lys
       try simp only[LY]
       clear B3
       go_wp2_with fail
       go_meet
       exact⟨w5.heap.size,w7.heap.size,_,_,_,_,rfl,rfl,by omega,by omega,by omega,by omega,by omega,by omega,by omega,hs,Bll,B0,Blk,B1,B2,hcX,hcY⟩
      clear hH
      go_simp
      generalize hWn:(w6.alloc (.cells #[.slice none 0 0] 53))=w7
      have hb:Below w6.heap.size w6 w7:=by rw[←hWn];exact (Below.refl _ _).alloc (ag _) _
      have B2:Bx w7 (w6.heap.size) 53 #[.slice none 0 0]:=by rw[←hWn];exact Bx.new _ _ _
      have nl_ys:w.heap.size≠w6.heap.size:=by have:=Bll.lt;omega
      have nregion_ys:w.heap.size + 1≠w6.heap.size:=by have:=B0.lt;omega
      have nk_ys:w.heap.size + 1 + 1≠w6.heap.size:=by have:=Blk.lt;omega
      have nxs_ys:w5.heap.size≠w6.heap.size:=by have:=B1.lt;omega
      have sz_ys:=hs.size
      replace hs:=ar hs hb
      revert B1 Bll B0 Blk;refine mo hb ?_;intro B1 Bll B0 Blk
      replace hcX:=el IC.kept _ _ _ hcX hb
      replace B3:=ah B3 hb
      clear hb hWn
      refine hK.out _ _ B3 (fun hH=>?_)
      clear hK K
      try simp only[LY]
      clear hH
      refine U_on 3 fun K hK=>?_
      go_simp
      (with_reducible refine (pl_axY _ L _ (be.mono IE.kept HO.out hs) (by omega)).mono ?_)
      rintro e w8 ⟨_,rfl,hcY,hb⟩
      rw[show axZ (exY L L.length)=Y from HY.out.symm] at hcY
      obtain⟨ahcY,khcY,rfl,hcY1,hcY2,hcY3⟩:=hcY.toI.slice
      replace hs:=ar hs hb
      revert Blk;revert B0;revert Bll;revert B1;revert B2;refine mo hb ?_;intro B2 B1 Bll B0 Blk
      replace hcX:=el IC.kept _ _ _ hcX hb
      replace B3:=ah B3 hb
      clear hb
      try go_wp2_with fail
      refine hK.out _ _ B3 (fun hH=>?_)
      clear hK K
      try simp only[LY]
      clear hH
      refine B1.k1fl fun Bd fxs Lxs=>?_
      refine U_on 6 fun K hK=>?_
      go_simp
      generalize hW_:(w8.setCell ⟨w5.heap.size,0,none⟩ (.slice ahcX X.length khcX))=w9
      have hW:=hW_.symm
      clear hW_
      have hG:Gr [w5.heap.size] w8 w9:=by rw[hW];exact (Gr.refl _ _).set
      have hsz:=hs.size
      have lxs:=B1.lt
      have Bl1xs:Bx w9 (w5.heap.size) 53 #[.slice ahcX X.length khcX]:=by rw[hW];exact (Bx.set B1 0 _ rfl)
      replace hs:=hs.trans (hG.d1 hs.size)
      replace hcX:=hcX.onlyT IC.kept (hG.onlyT (by intro g hg;simp only[List.mem_cons,List.mem_nil_iff,or_false] at hg;rcases hg with rfl<;>first|exact B1.ty)) (by decide) (by decide)
      replace hcY:=hcY.onlyT IC.kept (hG.onlyT (by intro g hg;simp only[List.mem_cons,List.mem_nil_iff,or_false] at hg;rcases hg with rfl<;>first|exact B1.ty)) (by decide) (by decide)
      replace Bll:=hG.b1 Bll
      replace B0:=hG.b1 B0
      replace Blk:=hG.b1 Blk
      replace B2:=hG.b1 B2
      replace B1:=Bl1xs
      clear Bl1xs
      replace B3:=hG.c1 B3
      clear hW hG hsz lxs
      refine hK.out _ _ B3 (fun hH=>?_)
      clear hK K
      try simp only[LY]
      clear hH
      refine B2.k1fl fun Be fys Lys=>?_
      refine dr (by kernel_rfl) rfl (by kernel_rfl) (fun K hK=>?_)
      go_simp
      refine hK.out _ _ ?_
      clear hK K
      intro w10 hW
      have hG:Gr [w6.heap.size] w9 w10:=by rw[hW];exact (Gr.refl _ _).set
      have hsz:=hs.size
      have lys:=B2.lt
      have Bl1ys:Bx w10 (w6.heap.size) 53 #[.slice ahcY Y.length khcY]:=by rw[hW];exact (Bx.set B2 0 _ rfl)
      replace hs:=hs.trans (hG.d1 hs.size)
      replace hcX:=hcX.onlyT IC.kept (hG.onlyT (by intro g hg;simp only[List.mem_cons,List.mem_nil_iff,or_false] at hg;rcases hg with rfl<;>first|exact B2.ty)) (by decide) (by decide)
      replace hcY:=hcY.onlyT IC.kept (hG.onlyT (by intro g hg;simp only[List.mem_cons,List.mem_nil_iff,or_false] at hg;rcases hg with rfl<;>first|exact B2.ty)) (by decide) (by decide)
      replace Bll:=hG.b1 Bll
      replace B0:=hG.b1 B0
      replace Blk:=hG.b1 Blk
      replace B1:=hG.b1 B1
      replace B2:=Bl1ys
      clear Bl1ys
      clear hW hG hsz lys
      try simp only[LY]
      clear B3
      go_wp2_with fail
      go_meet
      exact⟨w5.heap.size,w6.heap.size,_,_,_,_,rfl,rfl,by omega,by omega,by omega,by omega,by omega,by omega,by omega,hs,Bll,B0,Blk,B1,B2,hcX,hcY⟩
     clear hH
     go_simp
     generalize hWn:(w5.alloc (.cells #[.slice none 0 0] 53))=w6
     have hb:Below w5.heap.size w5 w6:=by rw[←hWn];exact (Below.refl _ _).alloc (ag _) _
     have B2:Bx w6 (w5.heap.size) 53 #[.slice none 0 0]:=by rw[←hWn];exact Bx.new _ _ _
     have nl_ys:w.heap.size≠w5.heap.size:=by have:=Bll.lt;omega
     have nregion_ys:w.heap.size + 1≠w5.heap.size:=by have:=B0.lt;omega
     have nk_ys:w.heap.size + 1 + 1≠w5.heap.size:=by have:=Blk.lt;omega
     have sz_ys:=hs.size
     replace hs:=ar hs hb
     revert Bll B0 Blk;refine mo hb ?_;intro Bll B0 Blk
     replace hcX:=el IC.kept _ _ _ hcX hb
     replace B3:=ah B3 hb
     clear hb hWn
     refine hK.out _ _ B3 (fun hH=>?_)
     clear hK K
     try simp only[LY]
     refine dq (i:=3) (j:=4) (by kernel_rfl) rfl rfl (fun K hK=>?_) (fun K hK=>?_)
     ·clear hH
      go_simp
      (with_reducible refine (pl_axY _ L _ (be.mono IE.kept HO.out hs) (by omega)).mono ?_)
      rintro e w7 ⟨_,rfl,hcY,hb⟩
      rw[show axZ (exY L L.length)=Y from HY.out.symm] at hcY
      obtain⟨ahcY,khcY,rfl,hcY1,hcY2,hcY3⟩:=hcY.toI.slice
      replace hs:=ar hs hb
      revert Blk;revert B0;revert Bll;revert B2;refine mo hb ?_;intro B2 Bll B0 Blk
      replace hcX:=el IC.kept _ _ _ hcX hb
      replace B3:=ah B3 hb
      clear hb
      try go_wp2_with fail
      refine hK.out _ _ B3 (fun hH=>?_)
      clear hK K
      try simp only[LY]
      clear hH
      refine U_on 4 fun K hK=>?_
      go_simp
      generalize hWn:(w7.alloc (.cells #[.slice none 0 0] 53))=w8
      have hb:Below w7.heap.size w7 w8:=by rw[←hWn];exact (Below.refl _ _).alloc (ag _) _
      have B1:Bx w8 (w7.heap.size) 53 #[.slice none 0 0]:=by rw[←hWn];exact Bx.new _ _ _
      have nl_xs:w.heap.size≠w7.heap.size:=by have:=Bll.lt;omega
      have nregion_xs:w.heap.size + 1≠w7.heap.size:=by have:=B0.lt;omega
      have nk_xs:w.heap.size + 1 + 1≠w7.heap.size:=by have:=Blk.lt;omega
      have nys_xs:w5.heap.size≠w7.heap.size:=by have:=B2.lt;omega
      have sz_xs:=hs.size
      replace hs:=ar hs hb
      revert B2 Bll B0 Blk;refine mo hb ?_;intro B2 Bll B0 Blk
      replace hcX:=el IC.kept _ _ _ hcX hb
      replace hcY:=el IC.kept _ _ _ hcY hb
      replace B3:=ah B3 hb
      clear hb hWn
      refine hK.out _ _ B3 (fun hH=>?_)
      clear hK K
      try simp only[LY]
      clear hH
      refine B1.k1fl fun Bd fxs Lxs=>?_
      refine U_on 6 fun K hK=>?_
      go_simp
      generalize hW_:(w8.setCell ⟨w7.heap.size,0,none⟩ (.slice ahcX X.length khcX))=w9
      have hW:=hW_.symm
      clear hW_
      have hG:Gr [w7.heap.size] w8 w9:=by rw[hW];exact (Gr.refl _ _).set
      have hsz:=hs.size
      have lxs:=B1.lt
      have Bl1xs:Bx w9 (w7.heap.size) 53 #[.slice ahcX X.length khcX]:=by rw[hW];exact (Bx.set B1 0 _ rfl)
      replace hs:=hs.trans (hG.d1 hs.size)
      replace hcX:=hcX.onlyT IC.kept (hG.onlyT (by intro g hg;simp only[List.mem_cons,List.mem_nil_iff,or_false] at hg;rcases hg with rfl<;>first|exact B1.ty)) (by decide) (by decide)
      replace hcY:=hcY.onlyT IC.kept (hG.onlyT (by intro g hg;simp only[List.mem_cons,List.mem_nil_iff,or_false] at hg;rcases hg with rfl<;>first|exact B1.ty)) (by decide) (by decide)
      replace Bll:=hG.b1 Bll
      replace B0:=hG.b1 B0
      replace Blk:=hG.b1 Blk
      replace B2:=hG.b1 B2
      replace B1:=Bl1xs
      clear Bl1xs
      replace B3:=hG.c1 B3
      clear hW hG hsz lxs
      refine hK.out _ _ B3 (fun hH=>?_)
      clear hK K
      try simp only[LY]
      clear hH
      refine B2.k1fl fun Be fys Lys=>?_
      refine dr (by kernel_rfl) rfl (by kernel_rfl) (fun K hK=>?_)
      go_simp
      refine hK.out _ _ ?_
      clear hK K
      intro w10 hW
      have hG:Gr [w5.heap.size] w9 w10:=by rw[hW];exact (Gr.refl _ _).set
      have hsz:=hs.size
      have lys:=B2.lt
      have Bl1ys:Bx w10 (w5.heap.size) 53 #[.slice ahcY Y.length khcY]:=by rw[hW];exact (Bx.set B2 0 _ rfl)
      replace hs:=hs.trans (hG.d1 hs.size)
      replace hcX:=hcX.onlyT IC.kept (hG.onlyT (by intro g hg;simp only[List.mem_cons,List.mem_nil_iff,or_false] at hg;rcases hg with rfl<;>first|exact B2.ty)) (by decide) (by decide)
      replace hcY:=hcY.onlyT IC.kept (hG.onlyT (by intro g hg;simp only[List.mem_cons,List.mem_nil_iff,or_false] at hg;rcases hg with rfl<;>first|exact B2.ty)) (by decide) (by decide)
      replace Bll:=hG.b1 Bll
      replace B0:=hG.b1 B0
      replace Blk:=hG.b1 Blk
      replace B1:=hG.b1 B1
      replace B2:=Bl1ys
      clear Bl1ys
      clear hW hG hsz lys
      try simp only[LY]
      clear B3
      go_wp2_with fail
      go_meet
      exact⟨w7.heap.size,w5.heap.size,_,_,_,_,rfl,rfl,by omega,by omega,by omega,by omega,by omega,by omega,by omega,hs,Bll,B0,Blk,B1,B2,hcX,hcY⟩
     clear hH
     go_simp
     generalize hWn:(w6.alloc (.cells #[.slice none 0 0] 53))=w7
     have hb:Below w6.heap.size w6 w7:=by rw[←hWn];exact (Below.refl _ _).alloc (ag _) _
     have B1:Bx w7 (w6.heap.size) 53 #[.slice none 0 0]:=by rw[←hWn];exact Bx.new _ _ _
     have nl_xs:w.heap.size≠w6.heap.size:=by have:=Bll.lt;omega
     have nregion_xs:w.heap.size + 1≠w6.heap.size:=by have:=B0.lt;omega
     have nk_xs:w.heap.size + 1 + 1≠w6.heap.size:=by have:=Blk.lt;omega
     have nys_xs:w5.heap.size≠w6.heap.size:=by have:=B2.lt;omega
     have sz_xs:=hs.size
     replace hs:=ar hs hb
     revert B2 Bll B0 Blk;refine mo hb ?_;intro B2 Bll B0 Blk
     replace hcX:=el IC.kept _ _ _ hcX hb
     replace B3:=ah B3 hb
     clear hb hWn
     refine hK.out _ _ B3 (fun hH=>?_)
     clear hK K
     try simp only[LY]
     clear hH
     refine U_on 3 fun K hK=>?_
     go_simp
     (with_reducible refine (pl_axY _ L _ (be.mono IE.kept HO.out hs) (by omega)).mono ?_)
     rintro e w8 ⟨_,rfl,hcY,hb⟩
     rw[show axZ (exY L L.length)=Y from HY.out.symm] at hcY
     obtain⟨ahcY,khcY,rfl,hcY1,hcY2,hcY3⟩:=hcY.toI.slice
     replace hs:=ar hs hb
     revert Blk;revert B0;revert Bll;revert B2;revert B1;refine mo hb ?_;intro B1 B2 Bll B0 Blk
     replace hcX:=el IC.kept _ _ _ hcX hb
     replace B3:=ah B3 hb
     clear hb
     try go_wp2_with fail
     refine hK.out _ _ B3 (fun hH=>?_)
     clear hK K
     try simp only[LY]
     clear hH
     refine B1.k1fl fun Bd fxs Lxs=>?_
     refine U_on 6 fun K hK=>?_
     go_simp
     generalize hW_:(w8.setCell ⟨w6.heap.size,0,none⟩ (.slice ahcX X.length khcX))=w9
     have hW:=hW_.symm
     clear hW_
     have hG:Gr [w6.heap.size] w8 w9:=by rw[hW];exact (Gr.refl _ _).set
     have hsz:=hs.size
     have lxs:=B1.lt
     have Bl1xs:Bx w9 (w6.heap.size) 53 #[.slice ahcX X.length khcX]:=by rw[hW];exact (Bx.set B1 0 _ rfl)
     replace hs:=hs.trans (hG.d1 hs.size)
     replace hcX:=hcX.onlyT IC.kept (hG.onlyT (by intro g hg;simp only[List.mem_cons,List.mem_nil_iff,or_false] at hg;rcases hg with rfl<;>first|exact B1.ty)) (by decide) (by decide)
     replace hcY:=hcY.onlyT IC.kept (hG.onlyT (by intro g hg;simp only[List.mem_cons,List.mem_nil_iff,or_false] at hg;rcases hg with rfl<;>first|exact B1.ty)) (by decide) (by decide)
     replace Bll:=hG.b1 Bll
     replace B0:=hG.b1 B0
     replace Blk:=hG.b1 Blk
     replace B2:=hG.b1 B2
     replace B1:=Bl1xs
     clear Bl1xs
     replace B3:=hG.c1 B3
     clear hW hG hsz lxs
     refine hK.out _ _ B3 (fun hH=>?_)
     clear hK K
     try simp only[LY]
     clear hH
     refine B2.k1fl fun Be fys Lys=>?_
     refine dr (by kernel_rfl) rfl (by kernel_rfl) (fun K hK=>?_)
     go_simp
     refine hK.out _ _ ?_
     clear hK K
     intro w10 hW
     have hG:Gr [w5.heap.size] w9 w10:=by rw[hW];exact (Gr.refl _ _).set
     have hsz:=hs.size
     have lys:=B2.lt
     have Bl1ys:Bx w10 (w5.heap.size) 53 #[.slice ahcY Y.length khcY]:=by rw[hW];exact (Bx.set B2 0 _ rfl)
     replace hs:=hs.trans (hG.d1 hs.size)
     replace hcX:=hcX.onlyT IC.kept (hG.onlyT (by intro g hg;simp only[List.mem_cons,List.mem_nil_iff,or_false] at hg;rcases hg with rfl<;>first|exact B2.ty)) (by decide) (by decide)
     replace hcY:=hcY.onlyT IC.kept (hG.onlyT (by intro g hg;simp only[List.mem_cons,List.mem_nil_iff,or_false] at hg;rcases hg with rfl<;>first|exact B2.ty)) (by decide) (by decide)
     replace Bll:=hG.b1 Bll
     replace B0:=hG.b1 B0
     replace Blk:=hG.b1 Blk
     replace B1:=hG.b1 B1
     replace B2:=Bl1ys
     clear Bl1ys
     clear hW hG hsz lys
     try simp only[LY]
     clear B3
     go_wp2_with fail
     go_meet
     exact⟨w6.heap.size,w5.heap.size,_,_,_,_,rfl,rfl,by omega,by omega,by omega,by omega,by omega,by omega,by omega,hs,Bll,B0,Blk,B1,B2,hcX,hcY⟩
    ·clear hH
     go_simp
     generalize hWn:(w4.alloc (.cells #[.slice none 0 0] 53))=w5
     have hb:Below w4.heap.size w4 w5:=by rw[←hWn];exact (Below.refl _ _).alloc (ag _) _
     have B1:Bx w5 (w4.heap.size) 53 #[.slice none 0 0]:=by rw[←hWn];exact Bx.new _ _ _
     have nl_xs:w.heap.size≠w4.heap.size:=by have:=Bll.lt;omega
     have nregion_xs:w.heap.size + 1≠w4.heap.size:=by have:=B0.lt;omega
     have nk_xs:w.heap.size + 1 + 1≠w4.heap.size:=by have:=Blk.lt;omega
     have sz_xs:=hs.size
     replace hs:=ar hs hb
     revert Bll B0 Blk;refine mo hb ?_;intro Bll B0 Blk
     replace B3:=ah B3 hb
     clear hb hWn
     refine hK.out _ _ B3 (fun hH=>?_)
     clear hK K
     try simp only[LY]
     refine dq (i:=1) (j:=5) (by kernel_rfl) rfl rfl (fun K hK=>?_) (fun K hK=>?_)
     ·clear hH
      go_simp
      (with_reducible refine (pl_axX _ L _ (be.mono IE.kept HO.out hs) (by omega)).mono ?_)
      rintro e w6 ⟨_,rfl,hcX,hb⟩
      rw[show axZ (exX L L.length)=X from HX.out.symm] at hcX
      obtain⟨ahcX,khcX,rfl,hcX1,hcX2,hcX3⟩:=hcX.toI.slice
      replace hs:=ar hs hb
      revert Blk;revert B0;revert Bll;revert B1;refine mo hb ?_;intro B1 Bll B0 Blk
      replace B3:=ah B3 hb
      clear hb
      try go_wp2_with fail
      refine hK.out _ _ B3 (fun hH=>?_)
      clear hK K
      try simp only[LY]
      refine dq (i:=3) (j:=5) (by kernel_rfl) rfl rfl (fun K hK=>?_) (fun K hK=>?_)
      ·clear hH
       go_simp
       (with_reducible refine (pl_axY _ L _ (be.mono IE.kept HO.out hs) (by omega)).mono ?_)
       rintro e w7 ⟨_,rfl,hcY,hb⟩
       rw[show axZ (exY L L.length)=Y from HY.out.symm] at hcY
       obtain⟨ahcY,khcY,rfl,hcY1,hcY2,hcY3⟩:=hcY.toI.slice
       replace hs:=ar hs hb
       revert Blk;revert B0;revert Bll;revert B1;refine mo hb ?_;intro B1 Bll B0 Blk
       replace hcX:=el IC.kept _ _ _ hcX hb
       replace B3:=ah B3 hb
       clear hb
       try go_wp2_with fail
       refine hK.out _ _ B3 (fun hH=>?_)
       clear hK K
       try simp only[LY]
       clear hH
       refine U_on 5 fun K hK=>?_
       go_simp
       generalize hWn:(w7.alloc (.cells #[.slice none 0 0] 53))=w8
       have hb:Below w7.heap.size w7 w8:=by rw[←hWn];exact (Below.refl _ _).alloc (ag _) _
       have B2:Bx w8 (w7.heap.size) 53 #[.slice none 0 0]:=by rw[←hWn];exact Bx.new _ _ _
       have nl_ys:w.heap.size≠w7.heap.size:=by have:=Bll.lt;omega
       have nregion_ys:w.heap.size + 1≠w7.heap.size:=by have:=B0.lt;omega
       have nk_ys:w.heap.size + 1 + 1≠w7.heap.size:=by have:=Blk.lt;omega
       have nxs_ys:w4.heap.size≠w7.heap.size:=by have:=B1.lt;omega
       have sz_ys:=hs.size
       replace hs:=ar hs hb
       revert B1 Bll B0 Blk;refine mo hb ?_;intro B1 Bll B0 Blk
       replace hcX:=el IC.kept _ _ _ hcX hb
       replace hcY:=el IC.kept _ _ _ hcY hb
       replace B3:=ah B3 hb
       clear hb hWn
       refine hK.out _ _ B3 (fun hH=>?_)
       clear hK K
       try simp only[LY]
       clear hH
       refine B1.k1fl fun Bd fxs Lxs=>?_
       refine U_on 6 fun K hK=>?_
       go_simp
       generalize hW_:(w8.setCell ⟨w4.heap.size,0,none⟩ (.slice ahcX X.length khcX))=w9
       have hW:=hW_.symm
       clear hW_
       have hG:Gr [w4.heap.size] w8 w9:=by rw[hW];exact (Gr.refl _ _).set
       have hsz:=hs.size
       have lxs:=B1.lt
       have Bl1xs:Bx w9 (w4.heap.size) 53 #[.slice ahcX X.length khcX]:=by rw[hW];exact (Bx.set B1 0 _ rfl)
       replace hs:=hs.trans (hG.d1 hs.size)
       replace hcX:=hcX.onlyT IC.kept (hG.onlyT (by intro g hg;simp only[List.mem_cons,List.mem_nil_iff,or_false] at hg;rcases hg with rfl<;>first|exact B1.ty)) (by decide) (by decide)
       replace hcY:=hcY.onlyT IC.kept (hG.onlyT (by intro g hg;simp only[List.mem_cons,List.mem_nil_iff,or_false] at hg;rcases hg with rfl<;>first|exact B1.ty)) (by decide) (by decide)
       replace Bll:=hG.b1 Bll
       replace B0:=hG.b1 B0
       replace Blk:=hG.b1 Blk
       replace B2:=hG.b1 B2
       replace B1:=Bl1xs
       clear Bl1xs
       replace B3:=hG.c1 B3
       clear hW hG hsz lxs
       refine hK.out _ _ B3 (fun hH=>?_)
       clear hK K
       try simp only[LY]
       clear hH
       refine B2.k1fl fun Be fys Lys=>?_
       refine dr (by kernel_rfl) rfl (by kernel_rfl) (fun K hK=>?_)
       go_simp
       refine hK.out _ _ ?_
       clear hK K
       intro w10 hW
       have hG:Gr [w7.heap.size] w9 w10:=by rw[hW];exact (Gr.refl _ _).set
       have hsz:=hs.size
       have lys:=B2.lt
       have Bl1ys:Bx w10 (w7.heap.size) 53 #[.slice ahcY Y.length khcY]:=by rw[hW];exact (Bx.set B2 0 _ rfl)
       replace hs:=hs.trans (hG.d1 hs.size)
       replace hcX:=hcX.onlyT IC.kept (hG.onlyT (by intro g hg;simp only[List.mem_cons,List.mem_nil_iff,or_false] at hg;rcases hg with rfl<;>first|exact B2.ty)) (by decide) (by decide)
       replace hcY:=hcY.onlyT IC.kept (hG.onlyT (by intro g hg;simp only[List.mem_cons,List.mem_nil_iff,or_false] at hg;rcases hg with rfl<;>first|exact B2.ty)) (by decide) (by decide)
       replace Bll:=hG.b1 Bll
       replace B0:=hG.b1 B0
       replace Blk:=hG.b1 Blk
       replace B1:=hG.b1 B1
       replace B2:=Bl1ys
       clear Bl1ys
       clear hW hG hsz lys
       try simp only[LY]
       clear B3
       go_wp2_with fail
       go_meet
       exact⟨w4.heap.size,w7.heap.size,_,_,_,_,rfl,rfl,by omega,by omega,by omega,by omega,by omega,by omega,by omega,hs,Bll,B0,Blk,B1,B2,hcX,hcY⟩
      clear hH
      go_simp
      generalize hWn:(w6.alloc (.cells #[.slice none 0 0] 53))=w7
      have hb:Below w6.heap.size w6 w7:=by rw[←hWn];exact (Below.refl _ _).alloc (ag _) _
      have B2:Bx w7 (w6.heap.size) 53 #[.slice none 0 0]:=by rw[←hWn];exact Bx.new _ _ _
      have nl_ys:w.heap.size≠w6.heap.size:=by have:=Bll.lt;omega
      have nregion_ys:w.heap.size + 1≠w6.heap.size:=by have:=B0.lt;omega
      have nk_ys:w.heap.size + 1 + 1≠w6.heap.size:=by have:=Blk.lt;omega
      have nxs_ys:w4.heap.size≠w6.heap.size:=by have:=B1.lt;omega
      have sz_ys:=hs.size
      replace hs:=ar hs hb
      revert B1 Bll B0 Blk;refine mo hb ?_;intro B1 Bll B0 Blk
      replace hcX:=el IC.kept _ _ _ hcX hb
      replace B3:=ah B3 hb
      clear hb hWn
      refine hK.out _ _ B3 (fun hH=>?_)
      clear hK K
      try simp only[LY]
      clear hH
      refine U_on 3 fun K hK=>?_
      go_simp
      (with_reducible refine (pl_axY _ L _ (be.mono IE.kept HO.out hs) (by omega)).mono ?_)
      rintro e w8 ⟨_,rfl,hcY,hb⟩
      rw[show axZ (exY L L.length)=Y from HY.out.symm] at hcY
      obtain⟨ahcY,khcY,rfl,hcY1,hcY2,hcY3⟩:=hcY.toI.slice
      replace hs:=ar hs hb
      revert Blk;revert B0;revert Bll;revert B1;revert B2;refine mo hb ?_;intro B2 B1 Bll B0 Blk
      replace hcX:=el IC.kept _ _ _ hcX hb
      replace B3:=ah B3 hb
      clear hb
      try go_wp2_with fail
      refine hK.out _ _ B3 (fun hH=>?_)
      clear hK K
      try simp only[LY]
      clear hH
      refine B1.k1fl fun Bd fxs Lxs=>?_
      refine U_on 6 fun K hK=>?_
      go_simp
      generalize hW_:(w8.setCell ⟨w4.heap.size,0,none⟩ (.slice ahcX X.length khcX))=w9
      have hW:=hW_.symm
      clear hW_
      have hG:Gr [w4.heap.size] w8 w9:=by rw[hW];exact (Gr.refl _ _).set
      have hsz:=hs.size
      have lxs:=B1.lt
      have Bl1xs:Bx w9 (w4.heap.size) 53 #[.slice ahcX X.length khcX]:=by rw[hW];exact (Bx.set B1 0 _ rfl)
      replace hs:=hs.trans (hG.d1 hs.size)
      replace hcX:=hcX.onlyT IC.kept (hG.onlyT (by intro g hg;simp only[List.mem_cons,List.mem_nil_iff,or_false] at hg;rcases hg with rfl<;>first|exact B1.ty)) (by decide) (by decide)
      replace hcY:=hcY.onlyT IC.kept (hG.onlyT (by intro g hg;simp only[List.mem_cons,List.mem_nil_iff,or_false] at hg;rcases hg with rfl<;>first|exact B1.ty)) (by decide) (by decide)
      replace Bll:=hG.b1 Bll
      replace B0:=hG.b1 B0
      replace Blk:=hG.b1 Blk
      replace B2:=hG.b1 B2
      replace B1:=Bl1xs
      clear Bl1xs
      replace B3:=hG.c1 B3
      clear hW hG hsz lxs
      refine hK.out _ _ B3 (fun hH=>?_)
      clear hK K
      try simp only[LY]
      clear hH
      refine B2.k1fl fun Be fys Lys=>?_
      refine dr (by kernel_rfl) rfl (by kernel_rfl) (fun K hK=>?_)
      go_simp
      refine hK.out _ _ ?_
      clear hK K
      intro w10 hW
      have hG:Gr [w6.heap.size] w9 w10:=by rw[hW];exact (Gr.refl _ _).set
      have hsz:=hs.size
      have lys:=B2.lt
      have Bl1ys:Bx w10 (w6.heap.size) 53 #[.slice ahcY Y.length khcY]:=by rw[hW];exact (Bx.set B2 0 _ rfl)
      replace hs:=hs.trans (hG.d1 hs.size)
      replace hcX:=hcX.onlyT IC.kept (hG.onlyT (by intro g hg;simp only[List.mem_cons,List.mem_nil_iff,or_false] at hg;rcases hg with rfl<;>first|exact B2.ty)) (by decide) (by decide)
      replace hcY:=hcY.onlyT IC.kept (hG.onlyT (by intro g hg;simp only[List.mem_cons,List.mem_nil_iff,or_false] at hg;rcases hg with rfl<;>first|exact B2.ty)) (by decide) (by decide)
      replace Bll:=hG.b1 Bll
      replace B0:=hG.b1 B0
      replace Blk:=hG.b1 Blk
      replace B1:=hG.b1 B1
      replace B2:=Bl1ys
      clear Bl1ys
      clear hW hG hsz lys
      try simp only[LY]
      clear B3
      go_wp2_with fail
      go_meet
      exact⟨w4.heap.size,w6.heap.size,_,_,_,_,rfl,rfl,by omega,by omega,by omega,by omega,by omega,by omega,by omega,hs,Bll,B0,Blk,B1,B2,hcX,hcY⟩
     clear hH
     go_simp
     generalize hWn:(w5.alloc (.cells #[.slice none 0 0] 53))=w6
     have hb:Below w5.heap.size w5 w6:=by rw[←hWn];exact (Below.refl _ _).alloc (ag _) _
     have B2:Bx w6 (w5.heap.size) 53 #[.slice none 0 0]:=by rw[←hWn];exact Bx.new _ _ _
     have nl_ys:w.heap.size≠w5.heap.size:=by have:=Bll.lt;omega
     have nregion_ys:w.heap.size + 1≠w5.heap.size:=by have:=B0.lt;omega
     have nk_ys:w.heap.size + 1 + 1≠w5.heap.size:=by have:=Blk.lt;omega
     have nxs_ys:w4.heap.size≠w5.heap.size:=by have:=B1.lt;omega
     have sz_ys:=hs.size
     replace hs:=ar hs hb
     revert B1 Bll B0 Blk;refine mo hb ?_;intro B1 Bll B0 Blk
     replace B3:=ah B3 hb
     clear hb hWn
     refine hK.out _ _ B3 (fun hH=>?_)
     clear hK K
     try simp only[LY]
     clear hH
     refine U_on 1 fun K hK=>?_
     go_simp
     (with_reducible refine (pl_axX _ L _ (be.mono IE.kept HO.out hs) (by omega)).mono ?_)
     rintro e w7 ⟨_,rfl,hcX,hb⟩
     rw[show axZ (exX L L.length)=X from HX.out.symm] at hcX
     obtain⟨ahcX,khcX,rfl,hcX1,hcX2,hcX3⟩:=hcX.toI.slice
     replace hs:=ar hs hb
     revert Blk;revert B0;revert Bll;revert B1;revert B2;refine mo hb ?_;intro B2 B1 Bll B0 Blk
     replace B3:=ah B3 hb
     clear hb
     try go_wp2_with fail
     refine hK.out _ _ B3 (fun hH=>?_)
     clear hK K
     try simp only[LY]
     clear hH
     refine U_on 3 fun K hK=>?_
     go_simp
     (with_reducible refine (pl_axY _ L _ (be.mono IE.kept HO.out hs) (by omega)).mono ?_)
     rintro e w8 ⟨_,rfl,hcY,hb⟩
     rw[show axZ (exY L L.length)=Y from HY.out.symm] at hcY
     obtain⟨ahcY,khcY,rfl,hcY1,hcY2,hcY3⟩:=hcY.toI.slice
     replace hs:=ar hs hb
     revert Blk;revert B0;revert Bll;revert B1;revert B2;refine mo hb ?_;intro B2 B1 Bll B0 Blk
     replace hcX:=el IC.kept _ _ _ hcX hb
     replace B3:=ah B3 hb
     clear hb
     try go_wp2_with fail
     refine hK.out _ _ B3 (fun hH=>?_)
     clear hK K
     try simp only[LY]
     clear hH
     refine B1.k1fl fun Bd fxs Lxs=>?_
     refine U_on 6 fun K hK=>?_
     go_simp
     generalize hW_:(w8.setCell ⟨w4.heap.size,0,none⟩ (.slice ahcX X.length khcX))=w9
     have hW:=hW_.symm
     clear hW_
     have hG:Gr [w4.heap.size] w8 w9:=by rw[hW];exact (Gr.refl _ _).set
     have hsz:=hs.size
     have lxs:=B1.lt
     have Bl1xs:Bx w9 (w4.heap.size) 53 #[.slice ahcX X.length khcX]:=by rw[hW];exact (Bx.set B1 0 _ rfl)
     replace hs:=hs.trans (hG.d1 hs.size)
     replace hcX:=hcX.onlyT IC.kept (hG.onlyT (by intro g hg;simp only[List.mem_cons,List.mem_nil_iff,or_false] at hg;rcases hg with rfl<;>first|exact B1.ty)) (by decide) (by decide)
     replace hcY:=hcY.onlyT IC.kept (hG.onlyT (by intro g hg;simp only[List.mem_cons,List.mem_nil_iff,or_false] at hg;rcases hg with rfl<;>first|exact B1.ty)) (by decide) (by decide)
     replace Bll:=hG.b1 Bll
     replace B0:=hG.b1 B0
     replace Blk:=hG.b1 Blk
     replace B2:=hG.b1 B2
     replace B1:=Bl1xs
     clear Bl1xs
     replace B3:=hG.c1 B3
     clear hW hG hsz lxs
     refine hK.out _ _ B3 (fun hH=>?_)
     clear hK K
     try simp only[LY]
     clear hH
     refine B2.k1fl fun Be fys Lys=>?_
     refine dr (by kernel_rfl) rfl (by kernel_rfl) (fun K hK=>?_)
     go_simp
     refine hK.out _ _ ?_
     clear hK K
     intro w10 hW
     have hG:Gr [w5.heap.size] w9 w10:=by rw[hW];exact (Gr.refl _ _).set
     have hsz:=hs.size
     have lys:=B2.lt
     have Bl1ys:Bx w10 (w5.heap.size) 53 #[.slice ahcY Y.length khcY]:=by rw[hW];exact (Bx.set B2 0 _ rfl)
     replace hs:=hs.trans (hG.d1 hs.size)
     replace hcX:=hcX.onlyT IC.kept (hG.onlyT (by intro g hg;simp only[List.mem_cons,List.mem_nil_iff,or_false] at hg;rcases hg with rfl<;>first|exact B2.ty)) (by decide) (by decide)
     replace hcY:=hcY.onlyT IC.kept (hG.onlyT (by intro g hg;simp only[List.mem_cons,List.mem_nil_iff,or_false] at hg;rcases hg with rfl<;>first|exact B2.ty)) (by decide) (by decide)
     replace Bll:=hG.b1 Bll
     replace B0:=hG.b1 B0
     replace Blk:=hG.b1 Blk
     replace B1:=hG.b1 B1
     replace B2:=Bl1ys
     clear Bl1ys
     clear hW hG hsz lys
     try simp only[LY]
     clear B3
     go_wp2_with fail
     go_meet
     exact⟨w4.heap.size,w5.heap.size,_,_,_,_,rfl,rfl,by omega,by omega,by omega,by omega,by omega,by omega,by omega,hs,Bll,B0,Blk,B1,B2,hcX,hcY⟩
    clear hH
    go_simp
    generalize hWn:(w4.alloc (.cells #[.slice none 0 0] 53))=w5
    have hb:Below w4.heap.size w4 w5:=by rw[←hWn];exact (Below.refl _ _).alloc (ag _) _
    have B2:Bx w5 (w4.heap.size) 53 #[.slice none 0 0]:=by rw[←hWn];exact Bx.new _ _ _
    have nl_ys:w.heap.size≠w4.heap.size:=by have:=Bll.lt;omega
    have nregion_ys:w.heap.size + 1≠w4.heap.size:=by have:=B0.lt;omega
    have nk_ys:w.heap.size + 1 + 1≠w4.heap.size:=by have:=Blk.lt;omega
    have sz_ys:=hs.size
    replace hs:=ar hs hb
    revert Bll B0 Blk;refine mo hb ?_;intro Bll B0 Blk
    replace B3:=ah B3 hb
    clear hb hWn
    refine hK.out _ _ B3 (fun hH=>?_)
    clear hK K
    try simp only[LY]
    refine dq (i:=1) (j:=4) (by kernel_rfl) rfl rfl (fun K hK=>?_) (fun K hK=>?_)
    ·clear hH
     go_simp
     (with_reducible refine (pl_axX _ L _ (be.mono IE.kept HO.out hs) (by omega)).mono ?_)
     rintro e w6 ⟨_,rfl,hcX,hb⟩
     rw[show axZ (exX L L.length)=X from HX.out.symm] at hcX
     obtain⟨ahcX,khcX,rfl,hcX1,hcX2,hcX3⟩:=hcX.toI.slice
     replace hs:=ar hs hb
     revert Blk;revert B0;revert Bll;revert B2;refine mo hb ?_;intro B2 Bll B0 Blk
     replace B3:=ah B3 hb
     clear hb
     try go_wp2_with fail
     refine hK.out _ _ B3 (fun hH=>?_)
     clear hK K
     try simp only[LY]
     refine dq (i:=3) (j:=4) (by kernel_rfl) rfl rfl (fun K hK=>?_) (fun K hK=>?_)
     ·clear hH
      go_simp
      (with_reducible refine (pl_axY _ L _ (be.mono IE.kept HO.out hs) (by omega)).mono ?_)
      rintro e w7 ⟨_,rfl,hcY,hb⟩
      rw[show axZ (exY L L.length)=Y from HY.out.symm] at hcY
      obtain⟨ahcY,khcY,rfl,hcY1,hcY2,hcY3⟩:=hcY.toI.slice
      replace hs:=ar hs hb
      revert Blk;revert B0;revert Bll;revert B2;refine mo hb ?_;intro B2 Bll B0 Blk
      replace hcX:=el IC.kept _ _ _ hcX hb
      replace B3:=ah B3 hb
      clear hb
      try go_wp2_with fail
      refine hK.out _ _ B3 (fun hH=>?_)
      clear hK K
      try simp only[LY]
      clear hH
      refine U_on 4 fun K hK=>?_
      go_simp
      generalize hWn:(w7.alloc (.cells #[.slice none 0 0] 53))=w8
      have hb:Below w7.heap.size w7 w8:=by rw[←hWn];exact (Below.refl _ _).alloc (ag _) _
      have B1:Bx w8 (w7.heap.size) 53 #[.slice none 0 0]:=by rw[←hWn];exact Bx.new _ _ _
      have nl_xs:w.heap.size≠w7.heap.size:=by have:=Bll.lt;omega
      have nregion_xs:w.heap.size + 1≠w7.heap.size:=by have:=B0.lt;omega
      have nk_xs:w.heap.size + 1 + 1≠w7.heap.size:=by have:=Blk.lt;omega
      have nys_xs:w4.heap.size≠w7.heap.size:=by have:=B2.lt;omega
      have sz_xs:=hs.size
      replace hs:=ar hs hb
      revert B2 Bll B0 Blk;refine mo hb ?_;intro B2 Bll B0 Blk
      replace hcX:=el IC.kept _ _ _ hcX hb
      replace hcY:=el IC.kept _ _ _ hcY hb
      replace B3:=ah B3 hb
      clear hb hWn
      refine hK.out _ _ B3 (fun hH=>?_)
      clear hK K
      try simp only[LY]
      clear hH
      refine B1.k1fl fun Bd fxs Lxs=>?_
      refine U_on 6 fun K hK=>?_
      go_simp
      generalize hW_:(w8.setCell ⟨w7.heap.size,0,none⟩ (.slice ahcX X.length khcX))=w9
      have hW:=hW_.symm
      clear hW_
      have hG:Gr [w7.heap.size] w8 w9:=by rw[hW];exact (Gr.refl _ _).set
      have hsz:=hs.size
      have lxs:=B1.lt
      have Bl1xs:Bx w9 (w7.heap.size) 53 #[.slice ahcX X.length khcX]:=by rw[hW];exact (Bx.set B1 0 _ rfl)
      replace hs:=hs.trans (hG.d1 hs.size)
      replace hcX:=hcX.onlyT IC.kept (hG.onlyT (by intro g hg;simp only[List.mem_cons,List.mem_nil_iff,or_false] at hg;rcases hg with rfl<;>first|exact B1.ty)) (by decide) (by decide)
      replace hcY:=hcY.onlyT IC.kept (hG.onlyT (by intro g hg;simp only[List.mem_cons,List.mem_nil_iff,or_false] at hg;rcases hg with rfl<;>first|exact B1.ty)) (by decide) (by decide)
      replace Bll:=hG.b1 Bll
      replace B0:=hG.b1 B0
      replace Blk:=hG.b1 Blk
      replace B2:=hG.b1 B2
      replace B1:=Bl1xs
      clear Bl1xs
      replace B3:=hG.c1 B3
      clear hW hG hsz lxs
      refine hK.out _ _ B3 (fun hH=>?_)
      clear hK K
      try simp only[LY]
      clear hH
      refine B2.k1fl fun Be fys Lys=>?_
      refine dr (by kernel_rfl) rfl (by kernel_rfl) (fun K hK=>?_)
      go_simp
      refine hK.out _ _ ?_
      clear hK K
      intro w10 hW
      have hG:Gr [w4.heap.size] w9 w10:=by rw[hW];exact (Gr.refl _ _).set
      have hsz:=hs.size
      have lys:=B2.lt
      have Bl1ys:Bx w10 (w4.heap.size) 53 #[.slice ahcY Y.length khcY]:=by rw[hW];exact (Bx.set B2 0 _ rfl)
      replace hs:=hs.trans (hG.d1 hs.size)
      replace hcX:=hcX.onlyT IC.kept (hG.onlyT (by intro g hg;simp only[List.mem_cons,List.mem_nil_iff,or_false] at hg;rcases hg with rfl<;>first|exact B2.ty)) (by decide) (by decide)
      replace hcY:=hcY.onlyT IC.kept (hG.onlyT (by intro g hg;simp only[List.mem_cons,List.mem_nil_iff,or_false] at hg;rcases hg with rfl<;>first|exact B2.ty)) (by decide) (by decide)
      replace Bll:=hG.b1 Bll
      replace B0:=hG.b1 B0
      replace Blk:=hG.b1 Blk
      replace B1:=hG.b1 B1
      replace B2:=Bl1ys
      clear Bl1ys
      clear hW hG hsz lys
      try simp only[LY]
      clear B3
      go_wp2_with fail
      go_meet
      exact⟨w7.heap.size,w4.heap.size,_,_,_,_,rfl,rfl,by omega,by omega,by omega,by omega,by omega,by omega,by omega,hs,Bll,B0,Blk,B1,B2,hcX,hcY⟩
     clear hH
     go_simp
     generalize hWn:(w6.alloc (.cells #[.slice none 0 0] 53))=w7
     have hb:Below w6.heap.size w6 w7:=by rw[←hWn];exact (Below.refl _ _).alloc (ag _) _
     have B1:Bx w7 (w6.heap.size) 53 #[.slice none 0 0]:=by rw[←hWn];exact Bx.new _ _ _
     have nl_xs:w.heap.size≠w6.heap.size:=by have:=Bll.lt;omega
     have nregion_xs:w.heap.size + 1≠w6.heap.size:=by have:=B0.lt;omega
     have nk_xs:w.heap.size + 1 + 1≠w6.heap.size:=by have:=Blk.lt;omega
     have nys_xs:w4.heap.size≠w6.heap.size:=by have:=B2.lt;omega
     have sz_xs:=hs.size
     replace hs:=ar hs hb
     revert B2 Bll B0 Blk;refine mo hb ?_;intro B2 Bll B0 Blk
     replace hcX:=el IC.kept _ _ _ hcX hb
     replace B3:=ah B3 hb
     clear hb hWn
     refine hK.out _ _ B3 (fun hH=>?_)
     clear hK K
     try simp only[LY]
     clear hH
     refine U_on 3 fun K hK=>?_
     go_simp
     (with_reducible refine (pl_axY _ L _ (be.mono IE.kept HO.out hs) (by omega)).mono ?_)
     rintro e w8 ⟨_,rfl,hcY,hb⟩
     rw[show axZ (exY L L.length)=Y from HY.out.symm] at hcY
     obtain⟨ahcY,khcY,rfl,hcY1,hcY2,hcY3⟩:=hcY.toI.slice
     replace hs:=ar hs hb
     revert Blk;revert B0;revert Bll;revert B2;revert B1;refine mo hb ?_;intro B1 B2 Bll B0 Blk
     replace hcX:=el IC.kept _ _ _ hcX hb
     replace B3:=ah B3 hb
     clear hb
     try go_wp2_with fail
     refine hK.out _ _ B3 (fun hH=>?_)
     clear hK K
     try simp only[LY]
     clear hH
     refine B1.k1fl fun Bd fxs Lxs=>?_
     refine U_on 6 fun K hK=>?_
     go_simp
     generalize hW_:(w8.setCell ⟨w6.heap.size,0,none⟩ (.slice ahcX X.length khcX))=w9
     have hW:=hW_.symm
     clear hW_
     have hG:Gr [w6.heap.size] w8 w9:=by rw[hW];exact (Gr.refl _ _).set
     have hsz:=hs.size
     have lxs:=B1.lt
     have Bl1xs:Bx w9 (w6.heap.size) 53 #[.slice ahcX X.length khcX]:=by rw[hW];exact (Bx.set B1 0 _ rfl)
     replace hs:=hs.trans (hG.d1 hs.size)
     replace hcX:=hcX.onlyT IC.kept (hG.onlyT (by intro g hg;simp only[List.mem_cons,List.mem_nil_iff,or_false] at hg;rcases hg with rfl<;>first|exact B1.ty)) (by decide) (by decide)
     replace hcY:=hcY.onlyT IC.kept (hG.onlyT (by intro g hg;simp only[List.mem_cons,List.mem_nil_iff,or_false] at hg;rcases hg with rfl<;>first|exact B1.ty)) (by decide) (by decide)
     replace Bll:=hG.b1 Bll
     replace B0:=hG.b1 B0
     replace Blk:=hG.b1 Blk
     replace B2:=hG.b1 B2
     replace B1:=Bl1xs
     clear Bl1xs
     replace B3:=hG.c1 B3
     clear hW hG hsz lxs
     refine hK.out _ _ B3 (fun hH=>?_)
     clear hK K
     try simp only[LY]
     clear hH
     refine B2.k1fl fun Be fys Lys=>?_
     refine dr (by kernel_rfl) rfl (by kernel_rfl) (fun K hK=>?_)
     go_simp
     refine hK.out _ _ ?_
     clear hK K
     intro w10 hW
     have hG:Gr [w4.heap.size] w9 w10:=by rw[hW];exact (Gr.refl _ _).set
     have hsz:=hs.size
     have lys:=B2.lt
     have Bl1ys:Bx w10 (w4.heap.size) 53 #[.slice ahcY Y.length khcY]:=by rw[hW];exact (Bx.set B2 0 _ rfl)
     replace hs:=hs.trans (hG.d1 hs.size)
     replace hcX:=hcX.onlyT IC.kept (hG.onlyT (by intro g hg;simp only[List.mem_cons,List.mem_nil_iff,or_false] at hg;rcases hg with rfl<;>first|exact B2.ty)) (by decide) (by decide)
     replace hcY:=hcY.onlyT IC.kept (hG.onlyT (by intro g hg;simp only[List.mem_cons,List.mem_nil_iff,or_false] at hg;rcases hg with rfl<;>first|exact B2.ty)) (by decide) (by decide)
     replace Bll:=hG.b1 Bll
     replace B0:=hG.b1 B0
     replace Blk:=hG.b1 Blk
     replace B1:=hG.b1 B1
     replace B2:=Bl1ys
     clear Bl1ys
     clear hW hG hsz lys
     try simp only[LY]
     clear B3
     go_wp2_with fail
     go_meet
     exact⟨w6.heap.size,w4.heap.size,_,_,_,_,rfl,rfl,by omega,by omega,by omega,by omega,by omega,by omega,by omega,hs,Bll,B0,Blk,B1,B2,hcX,hcY⟩
    clear hH
    go_simp
    generalize hWn:(w5.alloc (.cells #[.slice none 0 0] 53))=w6
    have hb:Below w5.heap.size w5 w6:=by rw[←hWn];exact (Below.refl _ _).alloc (ag _) _
    have B1:Bx w6 (w5.heap.size) 53 #[.slice none 0 0]:=by rw[←hWn];exact Bx.new _ _ _
    have nl_xs:w.heap.size≠w5.heap.size:=by have:=Bll.lt;omega
    have nregion_xs:w.heap.size + 1≠w5.heap.size:=by have:=B0.lt;omega
    have nk_xs:w.heap.size + 1 + 1≠w5.heap.size:=by have:=Blk.lt;omega
    have nys_xs:w4.heap.size≠w5.heap.size:=by have:=B2.lt;omega
    have sz_xs:=hs.size
    replace hs:=ar hs hb
    revert B2 Bll B0 Blk;refine mo hb ?_;intro B2 Bll B0 Blk
    replace B3:=ah B3 hb
    clear hb hWn
    refine hK.out _ _ B3 (fun hH=>?_)
    clear hK K
    try simp only[LY]
    clear hH
    refine U_on 1 fun K hK=>?_
    go_simp
    (with_reducible refine (pl_axX _ L _ (be.mono IE.kept HO.out hs) (by omega)).mono ?_)
    rintro e w7 ⟨_,rfl,hcX,hb⟩
    rw[show axZ (exX L L.length)=X from HX.out.symm] at hcX
    obtain⟨ahcX,khcX,rfl,hcX1,hcX2,hcX3⟩:=hcX.toI.slice
    replace hs:=ar hs hb
    revert Blk;revert B0;revert Bll;revert B2;revert B1;refine mo hb ?_;intro B1 B2 Bll B0 Blk
    replace B3:=ah B3 hb
    clear hb
    try go_wp2_with fail
    refine hK.out _ _ B3 (fun hH=>?_)
    clear hK K
    try simp only[LY]
    clear hH
    refine U_on 3 fun K hK=>?_
    go_simp
    (with_reducible refine (pl_axY _ L _ (be.mono IE.kept HO.out hs) (by omega)).mono ?_)
    rintro e w8 ⟨_,rfl,hcY,hb⟩
    rw[show axZ (exY L L.length)=Y from HY.out.symm] at hcY
    obtain⟨ahcY,khcY,rfl,hcY1,hcY2,hcY3⟩:=hcY.toI.slice
    replace hs:=ar hs hb
    revert Blk;revert B0;revert Bll;revert B2;revert B1;refine mo hb ?_;intro B1 B2 Bll B0 Blk
    replace hcX:=el IC.kept _ _ _ hcX hb
    replace B3:=ah B3 hb
    clear hb
    try go_wp2_with fail
    refine hK.out _ _ B3 (fun hH=>?_)
    clear hK K
    try simp only[LY]
    clear hH
    refine B1.k1fl fun Bd fxs Lxs=>?_
    refine U_on 6 fun K hK=>?_
    go_simp
    generalize hW_:(w8.setCell ⟨w5.heap.size,0,none⟩ (.slice ahcX X.length khcX))=w9
    have hW:=hW_.symm
    clear hW_
    have hG:Gr [w5.heap.size] w8 w9:=by rw[hW];exact (Gr.refl _ _).set
    have hsz:=hs.size
    have lxs:=B1.lt
    have Bl1xs:Bx w9 (w5.heap.size) 53 #[.slice ahcX X.length khcX]:=by rw[hW];exact (Bx.set B1 0 _ rfl)
    replace hs:=hs.trans (hG.d1 hs.size)
    replace hcX:=hcX.onlyT IC.kept (hG.onlyT (by intro g hg;simp only[List.mem_cons,List.mem_nil_iff,or_false] at hg;rcases hg with rfl<;>first|exact B1.ty)) (by decide) (by decide)
    replace hcY:=hcY.onlyT IC.kept (hG.onlyT (by intro g hg;simp only[List.mem_cons,List.mem_nil_iff,or_false] at hg;rcases hg with rfl<;>first|exact B1.ty)) (by decide) (by decide)
    replace Bll:=hG.b1 Bll
    replace B0:=hG.b1 B0
    replace Blk:=hG.b1 Blk
    replace B2:=hG.b1 B2
    replace B1:=Bl1xs
    clear Bl1xs
    replace B3:=hG.c1 B3
    clear hW hG hsz lxs
    refine hK.out _ _ B3 (fun hH=>?_)
    clear hK K
    try simp only[LY]
    clear hH
    refine B2.k1fl fun Be fys Lys=>?_
    refine dr (by kernel_rfl) rfl (by kernel_rfl) (fun K hK=>?_)
    go_simp
    refine hK.out _ _ ?_
    clear hK K
    intro w10 hW
    have hG:Gr [w4.heap.size] w9 w10:=by rw[hW];exact (Gr.refl _ _).set
    have hsz:=hs.size
    have lys:=B2.lt
    have Bl1ys:Bx w10 (w4.heap.size) 53 #[.slice ahcY Y.length khcY]:=by rw[hW];exact (Bx.set B2 0 _ rfl)
    replace hs:=hs.trans (hG.d1 hs.size)
    replace hcX:=hcX.onlyT IC.kept (hG.onlyT (by intro g hg;simp only[List.mem_cons,List.mem_nil_iff,or_false] at hg;rcases hg with rfl<;>first|exact B2.ty)) (by decide) (by decide)
    replace hcY:=hcY.onlyT IC.kept (hG.onlyT (by intro g hg;simp only[List.mem_cons,List.mem_nil_iff,or_false] at hg;rcases hg with rfl<;>first|exact B2.ty)) (by decide) (by decide)
    replace Bll:=hG.b1 Bll
    replace B0:=hG.b1 B0
    replace Blk:=hG.b1 Blk
    replace B1:=hG.b1 B1
    replace B2:=Bl1ys
    clear Bl1ys
    clear hW hG hsz lys
    try simp only[LY]
    clear B3
    go_wp2_with fail
    go_meet
    exact⟨w5.heap.size,w4.heap.size,_,_,_,_,rfl,rfl,by omega,by omega,by omega,by omega,by omega,by omega,by omega,hs,Bll,B0,Blk,B1,B2,hcX,hcY⟩
   case rest=>
    clear hs Bll B0 Blk
    obtain⟨gX,gY,aX,aY,kX,kY,rfl,rfl,ngXY,nX_l,nY_l,nX_region,nY_region,nX_k,nY_k,hs,Bll,B0,Blk,B1,B2,hcX,hcY⟩:=hcut
    have HRX:=ae hcX
    have HRY:=ae hcY
    clear hcX hcY
    have HB0_11:=ae hs
    clear hs
    have hs:=Below.refl wc.heap.size wc
    have nb_l:=Bll.lt
    have nb_region:=B0.lt
    have nb_k:=Blk.lt
    go_wp2
    go_loopw [16,17] (fun s16 s17 wq=>∃i:Nat,i≤(X.length - 1)∧s17=.int .i64 i∧Below wc.heap.size wc wq∧Bx wq (w.heap.size) 22 #[.slice ao L.length cl]∧Bx wq (w.heap.size + 1) 26 #[.int .i64 rp.1,.int .i64 rp.2,.int .i64 rq.1,.int .i64 rq.2]∧Bx wq (w.heap.size + 1 + 1) 26 #[.int .i64 0,.int .i64 0,.int .i64 0,.int .i64 0]∧Bx wq (gX) 53 #[.slice aX X.length kX]∧Bx wq (gY) 53 #[.slice aY Y.length kY]∧cw wc.heap.size 60 2 IP wq s16 (clS X Y L i)) (fun s16 s17 _=>(X.length - 1) - (intOf s17).toNat)
    case atStart=>exact⟨0,Nat.zero_le _,rfl,hs,Bll,B0,Blk,B1,B2,cw.nil _ _ _ _ _⟩
    case round=>
     clear Bll B0 Blk B1 B2 hs
     obtain⟨i,k_le,rfl,hs,Bll,B0,Blk,B1,B2,Ocl⟩:=hrel
     obtain⟨wl0,hwo⟩:∃x,x=wr:=⟨_,rfl⟩
     subst hwo
     have AX12:IntKind.i64.wrap ((i:Int) + 1)=(i:Int) + 1:=IntWalk.i64_in _ (by omega)
     by_cases q13:(i:Int) + 1 < (X.length:Int)
     ·have q13d:((i:Int) + 1 < (X.length:Int))=True:=eq_true (by omega)
      refine B1.k1l fun Bd Lxs=>?_
      go_wp2
      clear Bd Lxs
      go_loopw [16,18] (fun s16 s18 wq=>∃k:Nat,k≤(Y.length - 1)∧s18=.int .i64 k∧Below wc.heap.size wc wq∧Bx wq (w.heap.size) 22 #[.slice ao L.length cl]∧Bx wq (w.heap.size + 1) 26 #[.int .i64 rp.1,.int .i64 rp.2,.int .i64 rq.1,.int .i64 rq.2]∧Bx wq (w.heap.size + 1 + 1) 26 #[.int .i64 0,.int .i64 0,.int .i64 0,.int .i64 0]∧Bx wq (gX) 53 #[.slice aX X.length kX]∧Bx wq (gY) 53 #[.slice aY Y.length kY]∧cw wc.heap.size 60 2 IP wq s16 (clR X Y L (clS X Y L i) i k)) (fun s16 s18 _=>(Y.length - 1) - (intOf s18).toNat)
      case atStart=>exact⟨0,Nat.zero_le _,rfl,hs,Bll,B0,Blk,B1,B2,Ocl⟩
      case round=>
       clear Bll B0 Blk B1 B2 hs
       obtain⟨k,k_le,rfl,hs,Bll,B0,Blk,B1,B2,Ocm⟩:=hrel
       obtain⟨wl1,hwo⟩:∃x,x=wr:=⟨_,rfl⟩
       subst hwo
       have AX14:IntKind.i64.wrap ((k:Int) + 1)=(k:Int) + 1:=IntWalk.i64_in _ (by omega)
       by_cases q15:(k:Int) + 1 < (Y.length:Int)
       ·have q15d:((k:Int) + 1 < (Y.length:Int))=True:=eq_true (by omega)
        obtain⟨xb,xo,xc,hv_,hx1,hx2, -⟩:=HRX.out.open_ (by omega)
        obtain⟨rfl,rfl⟩:=yk hv_
        clear hv_
        obtain⟨yb,yo,yc,hv_,hy1,hy2, -⟩:=HRY.out.open_ (by omega)
        obtain⟨rfl,rfl⟩:=yk hv_
        clear hv_
        refine B2.k1l fun Be Lys=>?_
        go_wp2_with fail
        clear Be Lys
        with_reducible refine (pl_cov L X Y i k (w.heap.size) gX gY xb xo kX yb yo kY cl ao _ (be.mono IE.kept HO.out (ar HB0_11.out hs)) (by omega) Bll B1 B2 (HRX.out.mono IC.kept hs) (HRY.out.mono IC.kept hs) (by omega) (by omega) (by omega) (by omega)).mono ?_
        rintro e w44 ⟨rfl,hb⟩
        replace hs:=ar hs hb
        revert B2;revert B1;revert Blk;revert B0;revert Bll;refine mo hb ?_;intro Bll B0 Blk B1 B2
        replace Ocm:=Ocm.mono IP.kept hb
        clear hb
        obtain⟨cv,Hcv⟩:∃b:Bool,b=inK X Y L i k L.length:=⟨_,rfl⟩
        rw[←Hcv]
        replace Hcv:=ae Hcv
        by_cases q16:inK X Y L i k L.length=true
        ·obtain rfl:cv=true:=by rw[Hcv.out];exact q16
         have q16H:=ae q16
         clear q16
         go_wp2_with (at_builtin;refine wpList.stop ?_)
         refine⟨?_⟩
         refine wpList.abs ?_
         intro w45 hW
         have hG:Gr [] w44 w45:=by rw[hW];exact (Gr.refl _ _).alloc
         have hbw:Below wc.heap.size w44 w45:=hG.below0 hs.size
         have sz_w45:wc.heap.size≤w44.heap.size:=hs.size
         have nl_w45:=Bll.lt
         have nregion_w45:=B0.lt
         have nk_w45:=Blk.lt
         have nxs_w45:=B1.lt
         have nys_w45:=B2.lt
         have Bl:Bx w45 (w44.heap.size) 60 #[.int .i64 ((i:Int)),.int .i64 ((k:Int))]:=by rw[hW];exact (Bx.new0 _ _ _)
         replace hs:=hs.trans hbw
         revert B2;revert B1;revert Blk;revert B0;revert Bll;refine g0 hG ?_;intro Bll B0 Blk B1 B2
         replace Ocm:=Ocm.mono IP.kept (hG.below0 (ag _))
         clear hW hG hbw
         have hz_w45:=Bl.lt
         obtain⟨css,ho1,ho2,ho3,hown0⟩:=Ocm
         refine wpList_append_lies _ rfl _ _ _ rfl wc.heap.size 60 p0 _ 2 16 Tryz.underlying59 hp hpz0 hpz1 hpz2 rfl (by omega) _ _ css.flatten rfl hown0 ⟨w44.heap.size,0,none⟩ 1 1 [.int .i64 ((i:Int)),.int .i64 ((k:Int))] rfl rfl Bl.news ?_ (by omega) ?_ ?_ ?_ _ rfl ?_
         ·intro u hu;simp only[List.mem_cons,List.mem_nil_iff,or_false] at hu;rcases hu with rfl|rfl<;>rfl
         ·unfold maxLen;(have:=clS_len X Y L (by omega) i;have:=clR_len X Y L (clS X Y L i) i k;omega)
         ·(have:=clS_len X Y L (by omega) i;have:=clR_len X Y L (clS X Y L i) i k;omega)
         ·exact hs.size
         intro gcm capcm w46 hown1 hgrow hat hlt_
         have hk_:=aw.owns hown0 hgrow (by decide)
         have ho:=iu hown0 hgrow
         replace hs:=hs.grown hgrow hs.size (fun k hk=>(hown0.lt k hk).1)
         replace Ocm:=cw.push' IP.kept ho1 ho2 ho3 (x:=((i:Int),(k:Int))) rfl rfl (by simp) hown1 hk_
         replace Bll:=Bll.only ho (by decide)
         replace B0:=B0.only ho (by decide)
         replace Blk:=Blk.only ho (by decide)
         replace B1:=B1.only ho (by decide)
         replace B2:=B2.only ho (by decide)
         clear hk_ ho ho1 ho2 ho3 hown0 hown1 hgrow hat hlt_ Bl
         have AX17:IntKind.i64.wrap ((k:Int) + 1)=(k:Int) + 1:=IntWalk.i64_in _ (by omega)
         go_wp2
         go_roundw
         case rel=>exact⟨k + 1,by omega,by go_num,hs,Bll,B0,Blk,B1,B2,(by rw[show clR X Y L (clS X Y L i) i (k + 1)=clR X Y L (clS X Y L i) i k ++ [((i:Int),(k:Int))] from if_pos q16H.out];exact Ocm)⟩
         all_goals first|(simp[intOf];done)|(simp[intOf];omega)
        obtain rfl:cv=false:=by rw[Hcv.out];simpa using q16
        have q16H:=ae q16
        clear q16
        have AX17:IntKind.i64.wrap ((k:Int) + 1)=(k:Int) + 1:=IntWalk.i64_in _ (by omega)
        go_wp2
        go_roundw
        case rel=>exact⟨k + 1,by omega,by go_num,hs,Bll,B0,Blk,B1,B2,(by rw[show clR X Y L (clS X Y L i) i (k + 1)=clR X Y L (clS X Y L i) i k from if_neg q16H.out];exact Ocm)⟩
        all_goals first|(simp[intOf];done)|(simp[intOf];omega)
       have q15d:((k:Int) + 1 < (Y.length:Int))=False:=eq_false (by omega)
       have AX16:IntKind.i64.wrap ((i:Int) + 1)=(i:Int) + 1:=IntWalk.i64_in _ (by omega)
       refine B2.k1l fun Be Lys=>?_
       go_wp2
       go_roundw
       case rel=>exact⟨i + 1,by omega,by go_num,hs,Bll,B0,Blk,B1,B2,(by rw[show clS X Y L (i + 1)=clR X Y L (clS X Y L i) i (Y.length - 1) from rfl,show Y.length - 1=k from by omega];exact Ocm)⟩
       all_goals first|(simp[intOf];done)|(simp[intOf];omega)
     have q13d:((i:Int) + 1 < (X.length:Int))=False:=eq_false (by omega)
     rw[show i=X.length - 1 from by omega] at Ocl
     obtain⟨C,HC⟩:∃z,z=clS X Y L (X.length - 1):=⟨_,rfl⟩
     rw[←HC] at Ocl
     have hC2:C.length≤119:=by have:=clS_len X Y L (by omega) (X.length - 1);rw[HC];omega
     have HCK:=ae (show ∀c∈C,okC (X.length - 1) (Y.length - 1) c from by rw[HC];exact clS_ok X Y L _ (ag _))
     replace HC:=ae HC
     have hCr:=Ocl.rows
     obtain⟨aC,kC,hvC, -, -, -⟩:=hCr.slice
     subst hvC
     have HRC:=ae hCr.toI
     clear hCr Ocl
     have HB1_14:=ae hs
     clear hs
     have hs:=Below.refl wl0.heap.size wl0
     have nb_l:=Bll.lt
     have nb_region:=B0.lt
     have nb_k:=Blk.lt
     have nb_xs:=B1.lt
     have nb_ys:=B2.lt
     refine B1.k1l fun Bd Lxs=>?_
     go_wp2
     clear Bd Lxs
     refine Code.abs ?_
     intro w24 hW
     have hG:Gr [] wl0 w24:=by rw[hW];exact (Gr.refl _ _).alloc
     have hbw:Below wl0.heap.size wl0 w24:=hG.below0 hs.size
     have sz_w24:wl0.heap.size≤wl0.heap.size:=hs.size
     have nl_w24:=Bll.lt
     have nregion_w24:=B0.lt
     have nk_w24:=Blk.lt
     have nxs_w24:=B1.lt
     have nys_w24:=B2.lt
     have B4:Bx w24 (wl0.heap.size) 26 #[.int .i64 0,.int .i64 0,.int .i64 0,.int .i64 0]:=by rw[hW];exact (Bx.new0 _ _ _)
     replace hs:=hs.trans hbw
     revert B2;revert B1;revert Blk;revert B0;revert Bll;refine g0 hG ?_;intro Bll B0 Blk B1 B2
     clear hW hG hbw
     have hz_w24:=B4.lt
     refine wp_label ?_
     refine B1.k1l fun Bd Lxs=>?_
     refine B0.k4l fun B9 Ba Bb Bc Lregion=>?_
     go_wp2_with fail
     clear Bd B9 Ba Bb Bc Lxs Lregion
     with_reducible refine (pl_places _ X rp.1 rq.1 ww _ (HRX.out.mono IC.kept (ar HB1_14.out hs)) (by omega) HXB.out (by omega) (by omega) (by omega) (by omega) (by omega) (by omega)).mono ?_
     rintro e w25 ⟨_,rfl,hPX,hb⟩
     rw[show plK2 X rp.1 rq.1 ww=PX from by rw[HPX.out,HX.out];rfl] at hPX
     obtain⟨ahPX,khPX,rfl,hPX1,hPX2,hPX3⟩:=hPX.toI.slice
     revert B2;revert B1;revert Blk;revert B0;revert Bll;revert B4;refine mS hs hb ?_;clear hs hb;intro hs B4 Bll B0 Blk B1 B2
     go_wp2
     go_loopw [20,111] (fun s20 s111 wq=>∃a:Nat,a≤PX.length∧s111=.int .i64 a∧s20=.int .i64 ((wsS (pgA L ww hh) ww hh PX PY a).2)∧Below wl0.heap.size wl0 wq∧Bx wq (w.heap.size) 22 #[.slice ao L.length cl]∧Bx wq (w.heap.size + 1) 26 #[.int .i64 rp.1,.int .i64 rp.2,.int .i64 rq.1,.int .i64 rq.2]∧Bx wq (w.heap.size + 1 + 1) 26 #[.int .i64 0,.int .i64 0,.int .i64 0,.int .i64 0]∧Bx wq (gX) 53 #[.slice aX X.length kX]∧Bx wq (gY) 53 #[.slice aY Y.length kY]∧Rows 1 3 IC wq (.slice ahPX PX.length khPX) PX∧(Bx wq (wl0.heap.size) 26 #[.int .i64 (wsS (pgA L ww hh) ww hh PX PY a).1.1.1,.int .i64 (wsS (pgA L ww hh) ww hh PX PY a).1.1.2,.int .i64 (wsS (pgA L ww hh) ww hh PX PY a).1.2.1,.int .i64 (wsS (pgA L ww hh) ww hh PX PY a).1.2.2])) (fun s20 s111 _=>PX.length - (intOf s111).toNat)
     case atStart=>exact⟨0,Nat.zero_le _,rfl,rfl,hs,Bll,B0,Blk,B1,B2,hPX,B4⟩
     case round=>as_aux_lemma=>
      clear Bll B0 Blk B1 B2 hPX hs
      obtain⟨a,k_le,rfl,rfl,hs,Bll,B0,Blk,B1,B2,hPX,HBX⟩:=hrel
      obtain⟨wl2,hwo⟩:∃x,x=wr:=⟨_,rfl⟩
      subst hwo
      replace HBX:=ae HBX
      obtain⟨st,Hst⟩:∃z:WSt,z=wsS (pgA L ww hh) ww hh PX PY a:=⟨_,rfl⟩
      have B4:=HBX.out
      rw[←Hst] at B4 ⊢
      clear HBX
      replace Hst:=ae Hst
      by_cases q15:a < PX.length
      ·have q15d:((a:Int) < (PX.length:Int))=True:=eq_true (by omega)
       obtain⟨pxb,pxo,pxc,hv_, -, -, -⟩:=hPX.open_ (by omega)
       obtain⟨rfl,rfl⟩:=yk hv_
       clear hv_
       obtain⟨Bm,le16⟩:=rowI_at hPX (show a < PX.length by omega)
       simp only[Nat.mul_one] at Bm
       obtain⟨ie16,Hie16⟩:∃z:Int,z=nthI PX a:=⟨_,rfl⟩
       rw[←Hie16] at Bm
       have bie16:=HPXI.out a (by omega)
       rw[←Hie16] at bie16
       replace Hie16:=ae Hie16
       have AX17:IntKind.i64.wrap (ie16 + ww)=ie16 + ww:=IntWalk.i64_in _ (by omega)
       refine B1.k1l fun Bd Lxs=>?_
       go_wp2_with fail
       clear Bd Lxs le16 Bm
       with_reducible refine (pl_parts _ X ie16 (ie16 + ww) _ (HRX.out.mono IC.kept (ar HB1_14.out hs)) (by omega) HXB.out (by omega) (by omega) (by omega) (by omega)).mono ?_
       rintro e w46 ⟨_,rfl,hWd,hb⟩
       obtain⟨Wd,HWd⟩:∃z,z=prL X ie16 (ie16 + ww) (X.length - 1):=⟨_,rfl⟩
       rw[←HWd] at hWd
       have hlWd:Wd.length=X.length - 1:=by rw[HWd];exact prL_len _ _ _ _
       have HWW:=ae (show ∀j,Wn 4194304 (nthI Wd j) from mem_wn (Wn.lit (by decide) (by decide)) (by rw[HWd];exact prL_wn (by omega) (by omega) (by omega) HXW.out _))
       replace HWd:=ae HWd
       obtain⟨ahWd,khWd,rfl,hWd1,hWd2,hWd3⟩:=hWd.toI.slice
       replace hs:=ar hs hb
       revert B4;revert B2;revert B1;revert Blk;revert B0;revert Bll;refine mo hb ?_;intro Bll B0 Blk B1 B2 B4
       replace hPX:=el IC.kept _ _ _ hPX hb
       clear hb
       refine B2.k1l fun Be Lys=>?_
       refine B0.k4l fun B9 Ba Bb Bc Lregion=>?_
       go_wp2_with fail
       clear Be B9 Ba Bb Bc Lys Lregion
       with_reducible refine (pl_places _ Y rp.2 rq.2 hh _ (HRY.out.mono IC.kept (ar HB1_14.out hs)) (by omega) HYB.out (by omega) (by omega) (by omega) (by omega) (by omega) (by omega)).mono ?_
       rintro e w47 ⟨_,rfl,hPY,hb⟩
       rw[show plK2 Y rp.2 rq.2 hh=PY from by rw[HPY.out,HY.out];rfl] at hPY
       obtain⟨ahPY,khPY,rfl,hPY1,hPY2,hPY3⟩:=hPY.toI.slice
       replace hs:=ar hs hb
       revert B4;revert B2;revert B1;revert Blk;revert B0;revert Bll;refine mo hb ?_;intro Bll B0 Blk B1 B2 B4
       replace hPX:=el IC.kept _ _ _ hPX hb
       replace hWd:=el IC.kept _ _ _ hWd hb
       clear hb
       go_wp2
       go_loopw [20,131] (fun s20 s131 wq=>∃b:Nat,b≤PY.length∧s131=.int .i64 b∧s20=.int .i64 ((wsR (pgA L ww hh) ww hh PX PY a st b).2)∧Below wl0.heap.size wl0 wq∧Bx wq (w.heap.size) 22 #[.slice ao L.length cl]∧Bx wq (w.heap.size + 1) 26 #[.int .i64 rp.1,.int .i64 rp.2,.int .i64 rq.1,.int .i64 rq.2]∧Bx wq (w.heap.size + 1 + 1) 26 #[.int .i64 0,.int .i64 0,.int .i64 0,.int .i64 0]∧Bx wq (gX) 53 #[.slice aX X.length kX]∧Bx wq (gY) 53 #[.slice aY Y.length kY]∧Rows 1 3 IC wq (.slice (some ⟨pxb,pxo,none⟩) PX.length khPX) PX∧Rows 1 3 IC wq (.slice ahWd Wd.length khWd) Wd∧Rows 1 3 IC wq (.slice ahPY PY.length khPY) PY∧(Bx wq (wl0.heap.size) 26 #[.int .i64 (wsR (pgA L ww hh) ww hh PX PY a st b).1.1.1,.int .i64 (wsR (pgA L ww hh) ww hh PX PY a st b).1.1.2,.int .i64 (wsR (pgA L ww hh) ww hh PX PY a st b).1.2.1,.int .i64 (wsR (pgA L ww hh) ww hh PX PY a st b).1.2.2])) (fun s20 s131 _=>PY.length - (intOf s131).toNat)
       case atStart=>exact⟨0,Nat.zero_le _,rfl,rfl,hs,Bll,B0,Blk,B1,B2,hPX,hWd,hPY,B4⟩
       case round=>as_aux_lemma=>
        clear Bll B0 Blk B1 B2 hPX hWd hPY hs
        obtain⟨b,k_le,rfl,rfl,hs,Bll,B0,Blk,B1,B2,hPX,hWd,hPY,HBX⟩:=hrel
        obtain⟨wl3,hwo⟩:∃x,x=wr:=⟨_,rfl⟩
        subst hwo
        replace HBX:=ae HBX
        obtain⟨su,Hsu⟩:∃z:WSt,z=wsR (pgA L ww hh) ww hh PX PY a st b:=⟨_,rfl⟩
        have B4:=HBX.out
        rw[←Hsu] at B4 ⊢
        clear HBX
        replace Hsu:=ae Hsu
        by_cases q18:b < PY.length
        ·have q18d:((b:Int) < (PY.length:Int))=True:=eq_true (by omega)
         obtain⟨pyb,pyo,pyc,hv_, -, -, -⟩:=hPY.open_ (by omega)
         obtain⟨rfl,rfl⟩:=yk hv_
         clear hv_
         obtain⟨Bn,le19⟩:=rowI_at hPY (show b < PY.length by omega)
         simp only[Nat.mul_one] at Bn
         obtain⟨ie19,Hie19⟩:∃z:Int,z=nthI PY b:=⟨_,rfl⟩
         rw[←Hie19] at Bn
         have bie19:=HPYI.out b (by omega)
         rw[←Hie19] at bie19
         replace Hie19:=ae Hie19
         have AX20:IntKind.i64.wrap (ie19 + hh)=ie19 + hh:=IntWalk.i64_in _ (by omega)
         refine B2.k1l fun Be Lys=>?_
         go_wp2_with fail
         clear Be Lys le19 Bn
         with_reducible refine (pl_parts _ Y ie19 (ie19 + hh) _ (HRY.out.mono IC.kept (ar HB1_14.out hs)) (by omega) HYB.out (by omega) (by omega) (by omega) (by omega)).mono ?_
         rintro e w68 ⟨_,rfl,hHi,hb⟩
         obtain⟨Hi,HHi⟩:∃z,z=prL Y ie19 (ie19 + hh) (Y.length - 1):=⟨_,rfl⟩
         rw[←HHi] at hHi
         have hlHi:Hi.length=Y.length - 1:=by rw[HHi];exact prL_len _ _ _ _
         have HHW:=ae (show ∀j,Wn 4194304 (nthI Hi j) from mem_wn (Wn.lit (by decide) (by decide)) (by rw[HHi];exact prL_wn (by omega) (by omega) (by omega) HYW.out _))
         replace HHi:=ae HHi
         obtain⟨ahHi,khHi,rfl,hHi1,hHi2,hHi3⟩:=hHi.toI.slice
         replace hs:=ar hs hb
         revert B4;revert B2;revert B1;revert Blk;revert B0;revert Bll;refine mo hb ?_;intro Bll B0 Blk B1 B2 B4
         replace hPX:=el IC.kept _ _ _ hPX hb
         replace hWd:=el IC.kept _ _ _ hWd hb
         replace hPY:=el IC.kept _ _ _ hPY hb
         clear hb
         go_wp2
         go_loopw [27,143] (fun s27 s143 wq=>∃j:Nat,j≤C.length∧s143=.int .i64 j∧s27=.int .i64 (smC Wd Hi C j)∧Below wl0.heap.size wl0 wq∧Bx wq (w.heap.size) 22 #[.slice ao L.length cl]∧Bx wq (w.heap.size + 1) 26 #[.int .i64 rp.1,.int .i64 rp.2,.int .i64 rq.1,.int .i64 rq.2]∧Bx wq (w.heap.size + 1 + 1) 26 #[.int .i64 0,.int .i64 0,.int .i64 0,.int .i64 0]∧Bx wq (gX) 53 #[.slice aX X.length kX]∧Bx wq (gY) 53 #[.slice aY Y.length kY]∧Bx wq (wl0.heap.size) 26 #[.int .i64 su.1.1.1,.int .i64 su.1.1.2,.int .i64 su.1.2.1,.int .i64 su.1.2.2]∧Rows 1 3 IC wq (.slice (some ⟨pxb,pxo,none⟩) PX.length khPX) PX∧Rows 1 3 IC wq (.slice ahWd Wd.length khWd) Wd∧Rows 1 3 IC wq (.slice (some ⟨pyb,pyo,none⟩) PY.length khPY) PY∧Rows 1 3 IC wq (.slice ahHi Hi.length khHi) Hi) (fun s27 s143 _=>C.length - (intOf s143).toNat)
         case atStart=>exact⟨0,Nat.zero_le _,rfl,rfl,hs,Bll,B0,Blk,B1,B2,B4,hPX,hWd,hPY,hHi⟩
         case round=>
          clear Bll B0 Blk B1 B2 B4 hPX hWd hPY hHi hs
          obtain⟨j,k_le,rfl,rfl,hs,Bll,B0,Blk,B1,B2,B4,hPX,hWd,hPY,hHi⟩:=hrel
          obtain⟨wl4,hwo⟩:∃x,x=wr:=⟨_,rfl⟩
          subst hwo
          obtain⟨sm,Hsm⟩:∃z:Int,z=smC Wd Hi C j:=⟨_,rfl⟩
          rw[←Hsm]
          have Wsm:Wn 8000000000000000 sm:=by rw[Hsm];exact (smC_bd HWW.out HHW.out j).mono (by omega)
          replace Hsm:=ae Hsm
          by_cases q21:j < C.length
          ·have q21d:((j:Int) < (C.length:Int))=True:=eq_true (by omega)
           obtain⟨cb,co,cc,hv_, -, -⟩:=ep HRC.out (by omega)
           obtain⟨rfl,rfl⟩:=yk hv_
           clear hv_
           obtain⟨Bo,Bp,le22⟩:=ij (be.mono IP.kept HRC.out hs) (show j < C.length by omega)
           obtain⟨ci,ck,hcc,hci,hck⟩:=HCK.out _ (pt_in (show j < C.length by omega))
           rw[show (ptZ C j).1=(ci:Int) from by rw[hcc]] at Bo
           rw[show (ptZ C j).2=(ck:Int) from by rw[hcc]] at Bp
           replace hcc:=ae hcc
           have fca:(ci < Wd.length)=True:=eq_true (by omega)
           have fcb:(ck < Hi.length)=True:=eq_true (by omega)
           have fcc:((ci:Int) < (Wd.length:Int))=True:=eq_true (by omega)
           have fcd:((ck:Int) < (Hi.length:Int))=True:=eq_true (by omega)
           obtain⟨wdb,wdo,wdc,hv_, -, -, -⟩:=hWd.open_ (by omega)
           obtain⟨rfl,rfl⟩:=yk hv_
           clear hv_
           obtain⟨hi_b,hi_o,hi_c,hv_, -, -, -⟩:=hHi.open_ (by omega)
           obtain⟨rfl,rfl⟩:=yk hv_
           clear hv_
           go_upto_region 36 with fail
           clear le22 Bo Bp
           refine Code.abs ?_
           intro w89 hW
           have hG:Gr [] wl4 w89:=by rw[hW];exact (Gr.refl _ _).alloc
           have hbw:Below wl0.heap.size wl4 w89:=hG.below0 hs.size
           have sz_w89:wl0.heap.size≤wl4.heap.size:=hs.size
           have nl_w89:=Bll.lt
           have nregion_w89:=B0.lt
           have nk_w89:=Blk.lt
           have nxs_w89:=B1.lt
           have nys_w89:=B2.lt
           have nbest_w89:=B4.lt
           have Blc:Bx w89 (wl4.heap.size) 60 #[.int .i64 ((ci:Int)),.int .i64 ((ck:Int))]:=by rw[hW];exact (Bx.new0 _ _ _)
           replace hs:=hs.trans hbw
           replace hPX:=el IC.kept _ _ _ hPX (hG.below0 (ag _))
           replace hWd:=el IC.kept _ _ _ hWd (hG.below0 (ag _))
           replace hPY:=el IC.kept _ _ _ hPY (hG.below0 (ag _))
           replace hHi:=el IC.kept _ _ _ hHi (hG.below0 (ag _))
           revert B4;revert B2;revert B1;revert Blk;revert B0;revert Bll;refine g0 hG ?_;intro Bll B0 Blk B1 B2 B4
           clear hW hG hbw
           have hz_w89:=Blc.lt
           obtain⟨Bj,le23⟩:=rowI_at hWd (show ci < Wd.length by omega)
           simp only[Nat.mul_one] at Bj
           obtain⟨ie23,Hie23⟩:∃z:Int,z=nthI Wd ci:=⟨_,rfl⟩
           rw[←Hie23] at Bj
           replace Hie23:=ae Hie23
           obtain⟨Bk,le24⟩:=rowI_at hHi (show ck < Hi.length by omega)
           simp only[Nat.mul_one] at Bk
           obtain⟨ie24,Hie24⟩:∃z:Int,z=nthI Hi ck:=⟨_,rfl⟩
           rw[←Hie24] at Bk
           replace Hie24:=ae Hie24
           have AX25:IntKind.i64.wrap (ie23 * ie24)=ie23 * ie24:=Wn.wmul (show Wn 4194304 ie23 from by rw[Hie23.out];exact HWW.out _) (show Wn 4194304 ie24 from by rw[Hie24.out];exact HHW.out _) (by decide)
           have AX26:IntKind.i64.wrap (sm + ie23 * ie24)=sm + ie23 * ie24:=Wn.wadd Wsm (Wn.mul (show Wn 4194304 ie23 from by rw[Hie23.out];exact HWW.out _) (show Wn 4194304 ie24 from by rw[Hie24.out];exact HHW.out _)) (by decide)
           refine bw (S:=fun w'=>w'.cell? ⟨wl4.heap.size,0,none⟩=some (.int .i64 ((ci:Int)))∧w'.cell? ⟨wl4.heap.size,1,none⟩=some (.int .i64 ((ck:Int)))∧w'.cell? ⟨wdb,wdo + ci,none⟩=some (.int .i64 ie23)∧w'.cell? ⟨hi_b,hi_o + ck,none⟩=some (.int .i64 ie24)) (by kernel_rfl) 14 ?_
           refine cq.abs ?_
           intro w90 hW
           have hb:Below w89.heap.size w89 w90:=by rw[hW];exact de _
           replace hs:=ar hs hb
           revert Blc Bll B0 Blk B1 B2 B4;refine mo hb ?_;intro Blc Bll B0 Blk B1 B2 B4
           replace hPX:=el IC.kept _ _ _ hPX hb
           replace hWd:=el IC.kept _ _ _ hWd hb
           replace hPY:=el IC.kept _ _ _ hPY hb
           replace hHi:=el IC.kept _ _ _ hHi hb
           replace Bj:=ah Bj hb
           replace Bk:=ah Bk hb
           clear hb hW
           refine Blc.k2 fun Bq Br=>?_
           have hH:=(show w90.cell? ⟨wl4.heap.size,0,none⟩=some (.int .i64 ((ci:Int)))∧w90.cell? ⟨wl4.heap.size,1,none⟩=some (.int .i64 ((ck:Int)))∧w90.cell? ⟨wdb,wdo + ci,none⟩=some (.int .i64 ie23)∧w90.cell? ⟨hi_b,hi_o + ck,none⟩=some (.int .i64 ie24) from ⟨Bq,Br,Bj,Bk⟩)
           refine U_tq 0 147 hH ?_
           refine U_tq 1 148 hH ?_
           refine U_tq 2 149 hH ?_
           refine U_tq 3 150 hH ?_
           refine U_tq 4 151 hH ?_
           refine U_tq 5 152 hH ?_
           refine U_tq 6 153 hH ?_
           refine U_tq 7 154 hH ?_
           refine U_tq 8 155 hH ?_
           refine U_tq 9 156 hH ?_
           refine U_tq 10 157 hH ?_
           refine U_tq 11 158 hH ?_
           refine U_tq 12 159 hH ?_
           refine U_tq 13 27 hH ?_
           clear hH
           refine im (by kernel_rfl) ?_
           clear Bq Br Bj Bk
           have AX27:IntKind.i64.wrap ((j:Int) + 1)=(j:Int) + 1:=IntWalk.i64_in _ (by omega)
           go_wp2
           go_roundw
           case rel=>exact⟨j + 1,by omega,by go_num,congrArg (Value.int .i64) (show sm + ie23 * ie24=smC Wd Hi C (j + 1) from by show _=smC Wd Hi C j + nthI Wd (ptZ C j).1.toNat * nthI Hi (ptZ C j).2.toNat;rw[hcc.out,show (((ci:Int),(ck:Int)):Pt).1.toNat=ci from Int.toNat_natCast ci,show (((ci:Int),(ck:Int)):Pt).2.toNat=ck from Int.toNat_natCast ck,←Hie23.out,←Hie24.out,←Hsm.out]),hs,Bll,B0,Blk,B1,B2,B4,hPX,hWd,hPY,hHi⟩
           all_goals first|(simp[intOf];done)|(simp[intOf];omega)
          have q21d:((j:Int) < (C.length:Int))=False:=eq_false (by omega)
          have HSM:=ae (show sm=pgA L ww hh ie16 ie19 from by rw[Hsm.out,show j=C.length from by omega,HWd.out,HHi.out,HC.out,HX.out,HY.out];rfl)
          by_cases q22:su.2 < sm
          ·have q22d:(su.2 < sm)=True:=eq_true (by omega)
           have AX23:IntKind.i64.wrap (ie16 + ww)=ie16 + ww:=IntWalk.i64_in _ (by omega)
           have AX24:IntKind.i64.wrap (ie19 + hh)=ie19 + hh:=IntWalk.i64_in _ (by omega)
           have AX25:IntKind.i64.wrap (ww * hh)=ww * hh:=Wn.wmul HWn.out.1 HWn.out.2 (by decide)
           by_cases q26:sm=ww * hh
           ·have q26b:(sm == ww * hh)=true:=beq_iff_eq.2 (by omega)
            have q26n:(sm != ww * hh)=false:=bne_eq_false_iff_eq.2 (by omega)
            have q26H:=ae q26
            clear q26
            refine B4.k4fl fun Bf Bg Bh Bi fbest Lbest=>?_
            go_upto_region 43 with fail
            clear Bf Bg Bh Bi fbest Lbest
            refine Code.abs ?_
            intro w89 hW
            have hG:Gr [wl0.heap.size] wl4 w89:=by rw[hW];exact (Gr.refl _ _).set.set.set.set
            have hsz:=hs.size
            have lbest:=B4.lt
            have hbw:Below wl0.heap.size wl4 w89:=hG.d1 hs.size
            have Bl1best:Bx w89 (wl0.heap.size) 26 #[.int .i64 ie16,.int .i64 ie19,.int .i64 (ie16 + ww),.int .i64 (ie19 + hh)]:=by rw[hW];exact (Bx.set (Bx.set (Bx.set (Bx.set B4 0 _ rfl) 1 _ rfl) 2 _ rfl) 3 _ rfl)
            replace hs:=hs.trans hbw
            replace hPX:=hPX.onlyT IC.kept (hG.onlyT (by intro g hg;simp only[List.mem_cons,List.mem_nil_iff,or_false] at hg;rcases hg with rfl<;>first|exact B4.ty)) (by decide) (by decide)
            replace hWd:=hWd.onlyT IC.kept (hG.onlyT (by intro g hg;simp only[List.mem_cons,List.mem_nil_iff,or_false] at hg;rcases hg with rfl<;>first|exact B4.ty)) (by decide) (by decide)
            replace hPY:=hPY.onlyT IC.kept (hG.onlyT (by intro g hg;simp only[List.mem_cons,List.mem_nil_iff,or_false] at hg;rcases hg with rfl<;>first|exact B4.ty)) (by decide) (by decide)
            replace hHi:=hHi.onlyT IC.kept (hG.onlyT (by intro g hg;simp only[List.mem_cons,List.mem_nil_iff,or_false] at hg;rcases hg with rfl<;>first|exact B4.ty)) (by decide) (by decide)
            replace Bll:=hG.b1 Bll
            replace B0:=hG.b1 B0
            replace Blk:=hG.b1 Blk
            replace B1:=hG.b1 B1
            replace B2:=hG.b1 B2
            replace B4:=Bl1best
            clear Bl1best
            clear hW hG hbw hsz lbest
            replace hs:=ar HB1_14.out hs
            replace hs:=ar HB0_11.out hs
            have hfin:=ae (show wsS (pgA L ww hh) ww hh PX PY PX.length=(((ie16,ie19),(ie16 + ww,ie19 + hh)),sm) from win_fin HAL.out Hst.out (show (((ie16,ie19),(ie16 + ww,ie19 + hh)),sm)=wsR (pgA L ww hh) ww hh PX PY a st (b + 1) from (by rw[show wsR (pgA L ww hh) ww hh PX PY a st (b + 1)=stW (pgA L ww hh) ww hh (nthI PX a) (nthI PY b) (wsR (pgA L ww hh) ww hh PX PY a st b) from rfl,←Hsu.out,st_yes (show su.2 < pgA L ww hh (nthI PX a) (nthI PY b) from by rw[←Hie16.out,←Hie19.out,←HSM.out];omega),←Hie16.out,←Hie19.out,←HSM.out])) (by omega) (by omega) (show sm=ww * hh from q26H.out))
            refine B4.k4l fun Bf Bg Bh Bi Lbest=>?_
            refine Blk.k4fl fun B5 B6 B7 B8 fk Lk=>?_
            go_wp2
            clear Bf Bg Bh Bi B5 B6 B7 B8 fk Lbest Lk
            first|refine bodyPost.abs ?_|refine noGoto_abs ?_
            intro w90 hW
            have hG:Gr [w.heap.size + 1 + 1] w89 w90:=by rw[hW];exact (Gr.refl _ _).set.set.set.set
            have hsz:=hs.size
            have lk:=Blk.lt
            have Bl1k:Bx w90 (w.heap.size + 1 + 1) 26 #[.int .i64 ie16,.int .i64 ie19,.int .i64 (ie16 + ww),.int .i64 (ie19 + hh)]:=by rw[hW];exact (Bx.set (Bx.set (Bx.set (Bx.set Blk 0 _ rfl) 1 _ rfl) 2 _ rfl) 3 _ rfl)
            replace hs:=hs.trans (hG.d1 hs.size)
            replace Bll:=hG.b1 Bll
            replace B0:=hG.b1 B0
            replace B1:=hG.b1 B1
            replace B2:=hG.b1 B2
            replace B4:=hG.b1 B4
            replace Blk:=Bl1k
            clear Bl1k
            clear hW hG hsz lk
            refine Blk.k4 fun B5 B6 B7 B8=>?_
            exact bodyPost_ret (v:=.tuple #[.agg #[.int .i64 ie16,.int .i64 ie19,.int .i64 (ie16 + ww),.int .i64 (ie19 + hh)],.int .i64 sm,.int .i64 0]) (by simp[results,Tryz.results6,go_sem,B5,B6,B7,B8]) rfl ⟨by rw[show B=(((ie16,ie19),(ie16 + ww,ie19 + hh)),sm).1 from by rw[HB.out,winP_ok HWE.out,←HPX.out,←HPY.out,hfin.out],show n=(((ie16,ie19),(ie16 + ww,ie19 + hh)),sm).2 from by rw[HN.out,winP_ok HWE.out,←HPX.out,←HPY.out,hfin.out],show er_=0 from by rw[HE_.out,HWE.out]],hs⟩
           have q26b:(sm == ww * hh)=false:=beq_eq_false_iff_ne.2 (by omega)
           have q26n:(sm != ww * hh)=true:=bne_iff_ne.2 (by omega)
           have q26H:=ae q26
           clear q26
           refine B4.k4fl fun Bf Bg Bh Bi fbest Lbest=>?_
           go_upto_region 41 with fail
           clear Bf Bg Bh Bi fbest Lbest
           refine Code.abs ?_
           intro w89 hW
           have hG:Gr [wl0.heap.size] wl4 w89:=by rw[hW];exact (Gr.refl _ _).set.set.set.set
           have hsz:=hs.size
           have lbest:=B4.lt
           have hbw:Below wl0.heap.size wl4 w89:=hG.d1 hs.size
           have Bl1best:Bx w89 (wl0.heap.size) 26 #[.int .i64 ie16,.int .i64 ie19,.int .i64 (ie16 + ww),.int .i64 (ie19 + hh)]:=by rw[hW];exact (Bx.set (Bx.set (Bx.set (Bx.set B4 0 _ rfl) 1 _ rfl) 2 _ rfl) 3 _ rfl)
           replace hs:=hs.trans hbw
           replace hPX:=hPX.onlyT IC.kept (hG.onlyT (by intro g hg;simp only[List.mem_cons,List.mem_nil_iff,or_false] at hg;rcases hg with rfl<;>first|exact B4.ty)) (by decide) (by decide)
           replace hWd:=hWd.onlyT IC.kept (hG.onlyT (by intro g hg;simp only[List.mem_cons,List.mem_nil_iff,or_false] at hg;rcases hg with rfl<;>first|exact B4.ty)) (by decide) (by decide)
           replace hPY:=hPY.onlyT IC.kept (hG.onlyT (by intro g hg;simp only[List.mem_cons,List.mem_nil_iff,or_false] at hg;rcases hg with rfl<;>first|exact B4.ty)) (by decide) (by decide)
           replace hHi:=hHi.onlyT IC.kept (hG.onlyT (by intro g hg;simp only[List.mem_cons,List.mem_nil_iff,or_false] at hg;rcases hg with rfl<;>first|exact B4.ty)) (by decide) (by decide)
           replace Bll:=hG.b1 Bll
           replace B0:=hG.b1 B0
           replace Blk:=hG.b1 Blk
           replace B1:=hG.b1 B1
           replace B2:=hG.b1 B2
           replace B4:=Bl1best
           clear Bl1best
           clear hW hG hbw hsz lbest
           have AX27:IntKind.i64.wrap ((b:Int) + 1)=(b:Int) + 1:=IntWalk.i64_in _ (by omega)
           go_wp2
           go_roundw
           case rel=>exact⟨b + 1,by omega,by go_num,(by rw[show wsR (pgA L ww hh) ww hh PX PY a st (b + 1)=stW (pgA L ww hh) ww hh (nthI PX a) (nthI PY b) (wsR (pgA L ww hh) ww hh PX PY a st b) from rfl,←Hsu.out,st_yes (show su.2 < pgA L ww hh (nthI PX a) (nthI PY b) from by rw[←Hie16.out,←Hie19.out,←HSM.out];omega),←Hie16.out,←Hie19.out,←HSM.out]),hs,Bll,B0,Blk,B1,B2,hPX,hWd,hPY,(by rw[show wsR (pgA L ww hh) ww hh PX PY a st (b + 1)=stW (pgA L ww hh) ww hh (nthI PX a) (nthI PY b) (wsR (pgA L ww hh) ww hh PX PY a st b) from rfl,←Hsu.out,st_yes (show su.2 < pgA L ww hh (nthI PX a) (nthI PY b) from by rw[←Hie16.out,←Hie19.out,←HSM.out];omega),←Hie16.out,←Hie19.out,←HSM.out];exact B4)⟩
           all_goals first|(simp[intOf];done)|(simp[intOf];omega)
          have q22d:(su.2 < sm)=False:=eq_false (by omega)
          have AX23:IntKind.i64.wrap (ww * hh)=ww * hh:=Wn.wmul HWn.out.1 HWn.out.2 (by decide)
          by_cases q24:su.2=ww * hh
          ·have q24b:(su.2 == ww * hh)=true:=beq_iff_eq.2 (by omega)
           have q24n:(su.2 != ww * hh)=false:=bne_eq_false_iff_eq.2 (by omega)
           have q24H:=ae q24
           clear q24
           replace hs:=ar HB1_14.out hs
           replace hs:=ar HB0_11.out hs
           have hfin:=ae (show wsS (pgA L ww hh) ww hh PX PY PX.length=su from win_fin HAL.out Hst.out (show su=wsR (pgA L ww hh) ww hh PX PY a st (b + 1) from (by rw[show wsR (pgA L ww hh) ww hh PX PY a st (b + 1)=stW (pgA L ww hh) ww hh (nthI PX a) (nthI PY b) (wsR (pgA L ww hh) ww hh PX PY a st b) from rfl,←Hsu.out,st_no (show ¬ su.2 < pgA L ww hh (nthI PX a) (nthI PY b) from by rw[←Hie16.out,←Hie19.out,←HSM.out];omega)])) (by omega) (by omega) (show su.2=ww * hh from q24H.out))
           refine B4.k4l fun Bf Bg Bh Bi Lbest=>?_
           refine Blk.k4fl fun B5 B6 B7 B8 fk Lk=>?_
           go_wp2
           clear Bf Bg Bh Bi B5 B6 B7 B8 fk Lbest Lk
           first|refine bodyPost.abs ?_|refine noGoto_abs ?_
           intro w89 hW
           have hG:Gr [w.heap.size + 1 + 1] wl4 w89:=by rw[hW];exact (Gr.refl _ _).set.set.set.set
           have hsz:=hs.size
           have lk:=Blk.lt
           have Bl1k:Bx w89 (w.heap.size + 1 + 1) 26 #[.int .i64 su.1.1.1,.int .i64 su.1.1.2,.int .i64 su.1.2.1,.int .i64 su.1.2.2]:=by rw[hW];exact (Bx.set (Bx.set (Bx.set (Bx.set Blk 0 _ rfl) 1 _ rfl) 2 _ rfl) 3 _ rfl)
           replace hs:=hs.trans (hG.d1 hs.size)
           replace Bll:=hG.b1 Bll
           replace B0:=hG.b1 B0
           replace B1:=hG.b1 B1
           replace B2:=hG.b1 B2
           replace B4:=hG.b1 B4
           replace Blk:=Bl1k
           clear Bl1k
           clear hW hG hsz lk
           refine Blk.k4 fun B5 B6 B7 B8=>?_
           exact bodyPost_ret (v:=.tuple #[.agg #[.int .i64 su.1.1.1,.int .i64 su.1.1.2,.int .i64 su.1.2.1,.int .i64 su.1.2.2],.int .i64 su.2,.int .i64 0]) (by simp[results,Tryz.results6,go_sem,B5,B6,B7,B8]) rfl ⟨by rw[show B=su.1 from by rw[HB.out,winP_ok HWE.out,←HPX.out,←HPY.out,hfin.out],show n=su.2 from by rw[HN.out,winP_ok HWE.out,←HPX.out,←HPY.out,hfin.out],show er_=0 from by rw[HE_.out,HWE.out]],hs⟩
          have q24b:(su.2 == ww * hh)=false:=beq_eq_false_iff_ne.2 (by omega)
          have q24n:(su.2 != ww * hh)=true:=bne_iff_ne.2 (by omega)
          have q24H:=ae q24
          clear q24
          have AX25:IntKind.i64.wrap ((b:Int) + 1)=(b:Int) + 1:=IntWalk.i64_in _ (by omega)
          go_wp2
          go_roundw
          case rel=>exact⟨b + 1,by omega,by go_num,(by rw[show wsR (pgA L ww hh) ww hh PX PY a st (b + 1)=stW (pgA L ww hh) ww hh (nthI PX a) (nthI PY b) (wsR (pgA L ww hh) ww hh PX PY a st b) from rfl,←Hsu.out,st_no (show ¬ su.2 < pgA L ww hh (nthI PX a) (nthI PY b) from by rw[←Hie16.out,←Hie19.out,←HSM.out];omega)]),hs,Bll,B0,Blk,B1,B2,hPX,hWd,hPY,(by rw[show wsR (pgA L ww hh) ww hh PX PY a st (b + 1)=stW (pgA L ww hh) ww hh (nthI PX a) (nthI PY b) (wsR (pgA L ww hh) ww hh PX PY a st b) from rfl,←Hsu.out,st_no (show ¬ su.2 < pgA L ww hh (nthI PX a) (nthI PY b) from by rw[←Hie16.out,←Hie19.out,←HSM.out];omega)];exact B4)⟩
          all_goals first|(simp[intOf];done)|(simp[intOf];omega)
        have q18d:((b:Int) < (PY.length:Int))=False:=eq_false (by omega)
        have AX19:IntKind.i64.wrap ((a:Int) + 1)=(a:Int) + 1:=IntWalk.i64_in _ (by omega)
        go_wp2
        go_roundw
        case rel=>exact⟨a + 1,by omega,by go_num,(by rw[show wsS (pgA L ww hh) ww hh PX PY (a + 1)=wsR (pgA L ww hh) ww hh PX PY a (wsS (pgA L ww hh) ww hh PX PY a) PY.length from rfl,show PY.length=b from by omega,←Hst.out,←Hsu.out]),hs,Bll,B0,Blk,B1,B2,hPX,(by rw[show wsS (pgA L ww hh) ww hh PX PY (a + 1)=wsR (pgA L ww hh) ww hh PX PY a (wsS (pgA L ww hh) ww hh PX PY a) PY.length from rfl,show PY.length=b from by omega,←Hst.out,←Hsu.out];exact B4)⟩
        all_goals first|(simp[intOf];done)|(simp[intOf];omega)
      have q15d:((a:Int) < (PX.length:Int))=False:=eq_false (by omega)
      replace hs:=ar HB1_14.out hs
      replace hs:=ar HB0_11.out hs
      have hfin:=ae (show wsS (pgA L ww hh) ww hh PX PY PX.length=st from by rw[show PX.length=a from by omega];exact Hst.out.symm)
      refine B4.k4l fun Bf Bg Bh Bi Lbest=>?_
      refine Blk.k4fl fun B5 B6 B7 B8 fk Lk=>?_
      go_wp2
      clear Bf Bg Bh Bi B5 B6 B7 B8 fk Lbest Lk
      first|refine bodyPost.abs ?_|refine noGoto_abs ?_
      intro w46 hW
      have hG:Gr [w.heap.size + 1 + 1] wl2 w46:=by rw[hW];exact (Gr.refl _ _).set.set.set.set
      have hsz:=hs.size
      have lk:=Blk.lt
      have Bl1k:Bx w46 (w.heap.size + 1 + 1) 26 #[.int .i64 st.1.1.1,.int .i64 st.1.1.2,.int .i64 st.1.2.1,.int .i64 st.1.2.2]:=by rw[hW];exact (Bx.set (Bx.set (Bx.set (Bx.set Blk 0 _ rfl) 1 _ rfl) 2 _ rfl) 3 _ rfl)
      replace hs:=hs.trans (hG.d1 hs.size)
      replace Bll:=hG.b1 Bll
      replace B0:=hG.b1 B0
      replace B1:=hG.b1 B1
      replace B2:=hG.b1 B2
      replace B4:=hG.b1 B4
      replace Blk:=Bl1k
      clear Bl1k
      clear hW hG hsz lk
      refine Blk.k4 fun B5 B6 B7 B8=>?_
      exact bodyPost_ret (v:=.tuple #[.agg #[.int .i64 st.1.1.1,.int .i64 st.1.1.2,.int .i64 st.1.2.1,.int .i64 st.1.2.2],.int .i64 st.2,.int .i64 0]) (by simp[results,Tryz.results6,go_sem,B5,B6,B7,B8]) rfl ⟨by rw[show B=st.1 from by rw[HB.out,winP_ok HWE.out,←HPX.out,←HPY.out,hfin.out],show n=st.2 from by rw[HN.out,winP_ok HWE.out,←HPX.out,←HPY.out,hfin.out],show er_=0 from by rw[HE_.out,HWE.out]],hs⟩
  have q4b:(eb3 == 0)=false:=beq_eq_false_iff_ne.2 (by omega)
  have q4n:(eb3 != 0)=true:=bne_iff_ne.2 (by omega)
  have q4H:=ae q4
  clear q4
  have hWE:=ae (show wnE L rp rq ww hh=eb3 from (we_2 (Her1.out.symm.trans q2H.out) (fun h=>q4H.out (Heb3.out.trans h))).trans Heb3.out.symm)
  refine Blk.k4fl fun B5 B6 B7 B8 fk Lk=>?_
  go_wp2
  clear B5 B6 B7 B8 fk Lk
  first|refine bodyPost.abs ?_|refine noGoto_abs ?_
  intro w4 hW
  have hG:Gr [w.heap.size + 1 + 1] w3 w4:=by rw[hW];exact (Gr.refl _ _).set.set.set.set
  have hsz:=hs.size
  have lk:=Blk.lt
  have Bl1k:Bx w4 (w.heap.size + 1 + 1) 26 #[.int .i64 0,.int .i64 0,.int .i64 0,.int .i64 0]:=by rw[hW];exact (Bx.set (Bx.set (Bx.set (Bx.set Blk 0 _ rfl) 1 _ rfl) 2 _ rfl) 3 _ rfl)
  replace hs:=hs.trans (hG.d1 hs.size)
  replace Bll:=hG.b1 Bll
  replace B0:=hG.b1 B0
  replace Blk:=Bl1k
  clear Bl1k
  clear hW hG hsz lk
  refine Blk.k4 fun B5 B6 B7 B8=>?_
  exact bodyPost_ret (v:=.tuple #[.agg #[.int .i64 0,.int .i64 0,.int .i64 0,.int .i64 0],.int .i64 0,.int .i64 eb3]) (by simp[results,Tryz.results6,go_sem,B5,B6,B7,B8]) rfl ⟨by rw[show B=((0,0),(0,0)) from by rw[HB.out,winP_err (by rw[hWE.out];exact q4H.out)],show n=0 from by rw[HN.out,winP_err (by rw[hWE.out];exact q4H.out)],show er_=eb3 from by rw[HE_.out,hWE.out]],hs⟩
 have q2b:(er1 == 0)=false:=beq_eq_false_iff_ne.2 (by omega)
 have q2n:(er1 != 0)=true:=bne_iff_ne.2 (by omega)
 have q2H:=ae q2
 clear q2
 have hWE:=ae (show wnE L rp rq ww hh=er1 from (we_1 (fun h=>q2H.out (Her1.out.trans h))).trans Her1.out.symm)
 refine Blk.k4fl fun B5 B6 B7 B8 fk Lk=>?_
 go_wp2
 clear B5 B6 B7 B8 fk Lk
 first|refine bodyPost.abs ?_|refine noGoto_abs ?_
 intro w3 hW
 have hG:Gr [w.heap.size + 1 + 1] w2 w3:=by rw[hW];exact (Gr.refl _ _).set.set.set.set
 have hsz:=hs.size
 have lk:=Blk.lt
 have Bl1k:Bx w3 (w.heap.size + 1 + 1) 26 #[.int .i64 0,.int .i64 0,.int .i64 0,.int .i64 0]:=by rw[hW];exact (Bx.set (Bx.set (Bx.set (Bx.set Blk 0 _ rfl) 1 _ rfl) 2 _ rfl) 3 _ rfl)
 replace hs:=hs.trans (hG.d1 hs.size)
 replace Bll:=hG.b1 Bll
 replace B0:=hG.b1 B0
 replace Blk:=Bl1k
 clear Bl1k
 clear hW hG hsz lk
 refine Blk.k4 fun B5 B6 B7 B8=>?_
 exact bodyPost_ret (v:=.tuple #[.agg #[.int .i64 0,.int .i64 0,.int .i64 0,.int .i64 0],.int .i64 0,.int .i64 er1]) (by simp[results,Tryz.results6,go_sem,B5,B6,B7,B8]) rfl ⟨by rw[show B=((0,0),(0,0)) from by rw[HB.out,winP_err (by rw[hWE.out];exact q2H.out)],show n=0 from by rw[HN.out,winP_err (by rw[hWE.out];exact q2H.out)],show er_=er1 from by rw[HE_.out,hWE.out]],hs⟩
end Go.Proofs.YtidmjdmmpajooaaGreat
