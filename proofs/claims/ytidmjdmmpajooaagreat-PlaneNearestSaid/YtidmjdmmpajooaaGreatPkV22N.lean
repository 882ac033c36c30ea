/-
  plane: how far two polygons are apart.
-/
import Derived.Test.YtidmjdmmpajooaaGreatPkV19N
import Derived.Test.YtidmjdmmpajooaaGreatPlZN
import Derived.Test.YtidmjdmmpajooaaGreatPkV0N
set_option linter.unusedSimpArgs false
set_option linter.unusedVariables false
set_option maxRecDepth 100000
set_option maxHeartbeats 16000000
namespace Go.Proofs.YtidmjdmmpajooaaGreat
open Go.RowKit Dg
attribute [local go_sem ↓] Go.wp_at_zero Go.wp_at_succ
def bnK (X Y:List Pt) (s:Rat):Nat→Rat
 | 0=>s
 | j + 1=>if bdQ X (ptZ Y j) X.length < bnK X Y s j then bdQ X (ptZ Y j) X.length else bnK X Y s j
def xyL (l m:List Pt) (i:Nat):List Pt:=if i=0 then l else m
def apS (l m:List Pt):Nat→Rat
 | 0=>bdQ l (ptZ m 0) l.length
 | i + 1=>bnK (xyL l m i) (xyL m l i) (apS l m i) (xyL m l i).length
def apZ (l m:List Pt):Rat:=if tcZ l m=true then 0 else apS l m 2
theorem bn_yes {X Y:List Pt} {s:Rat} {j:Nat} (h:bdQ X (ptZ Y j) X.length < bnK X Y s j):bnK X Y s (j + 1)=bdQ X (ptZ Y j) X.length:=if_pos h
theorem bn_no {X Y:List Pt} {s:Rat} {j:Nat} (h:¬ bdQ X (ptZ Y j) X.length < bnK X Y s j):bnK X Y s (j + 1)=bnK X Y s j:=if_neg h
theorem bn_sz {X Y:List Pt} {s:Rat} (hx:∀p∈X,WP 1048576 p) (hy:∀p∈Y,WP 1048576 p) (hs:SzQ 10 s):∀j,SzQ 10 (bnK X Y s j)
 | 0=>hs
 | j + 1=>by
  unfold bnK
  split
  ·exact bq_sz hx (p0_wp hy j) _
  exact bn_sz hx hy hs j
theorem xy_wp {l m:List Pt} (hl:∀p∈l,WP 1048576 p) (hm:∀p∈m,WP 1048576 p) (i:Nat):∀p∈xyL l m i,WP 1048576 p:=by unfold xyL;split<;>assumption
theorem ap_sz {l m:List Pt} (hl:∀p∈l,WP 1048576 p) (hm:∀p∈m,WP 1048576 p):∀i,SzQ 10 (apS l m i)
 | 0=>bq_sz hl (p0_wp hm 0) _
 | i + 1=>bn_sz (xy_wp hl hm i) (xy_wp hm hl i) (ap_sz hl hm i) _
theorem ap_ix {l m:List Pt} {W:World} {i ab aq ac bb bq bc:Nat} (hi:i < 2) (hl:Pts W (.slice (some ⟨ab,aq,none⟩) l.length ac) l) (hm:Pts W (.slice (some ⟨bb,bq,none⟩) m.length bc) m)
  (h0:0 < l.length) (k0:0 < m.length) (hn:l.length≤1000) (kn:m.length≤1000) (hp:∀p∈l,WP 1048576 p) (hq:∀p∈m,WP 1048576 p):
  ∃X Y xb xo xc yb yo yc,(X=xyL l m i∧Y=xyL m l i)∧Pts W (.slice (some ⟨xb,xo,none⟩) X.length xc) X∧Pts W (.slice (some ⟨yb,yo,none⟩) Y.length yc) Y∧0 < X.length∧0 < Y.length∧X.length≤1000∧Y.length≤1000∧(∀p∈X,WP 1048576 p)∧(∀p∈Y,WP 1048576 p)∧
   ∀w:World,(Instr.index 93 (.agg #[.slice (some ⟨ab,aq,none⟩) l.length ac,.slice (some ⟨bb,bq,none⟩) m.length bc,.slice (some ⟨bb,bq,none⟩) m.length bc,.slice (some ⟨ab,aq,none⟩) l.length ac]) (.int .i64 i)).run Tryz.prog w=.ok (.agg #[.slice (some ⟨xb,xo,none⟩) X.length xc,.slice (some ⟨yb,yo,none⟩) Y.length yc]) w:=by
 rcases (show i=0∨i=1 by omega) with rfl|rfl
 ·exact⟨l,m,ab,aq,ac,bb,bq,bc,⟨rfl,rfl⟩,hl,hm,h0,k0,hn,kn,hp,hq,fun _=>by rfl⟩
 exact⟨m,l,bb,bq,bc,ab,aq,ac,⟨rfl,rfl⟩,hm,hl,k0,h0,kn,hn,hq,hp,fun _=>by rfl⟩
theorem pl_apart (v u:Value) (l m:List Pt) (w:World) (hl:Pts w v l) (hm:Pts w u m) (h0:0 < l.length) (k0:0 < m.length) (hn:l.length≤1000) (kn:m.length≤1000) (hp:∀p∈l,WP 1048576 p) (hq:∀p∈m,WP 1048576 p):
  Calls Tryz.prog 43 #[v,u] w (mp w (apZ l m)):=by
 obtain⟨ab,aq,ac,rfl,ha1,ha2⟩:=ep hl h0
 obtain⟨bb,bq,bc,rfl,hb1,hb2⟩:=ep hm k0
 have hs:=Below.refl w.heap.size w
 have HL:=ae hl
 have HM:=ae hm
 have HP:=ae hp
 have HQ:=ae hq
 clear hl hm hp hq
 go_enter Tryz.func43,Tryz.ntmps43
 go_wp2_with fail
 refine Calls.abs ?_
 intro w1 hW
 have hG:Gr [] w w1:=by rw[hW];exact (Gr.refl _ _).alloc
 have sz_w1:=hs.size
 have Blk:Bx w1 (w.heap.size) 37 #[.bool false,.slice none 0 0,.slice none 0 0]:=by rw[hW];exact (Bx.new0 _ _ _)
 replace hs:=hs.trans (hG.below0 hs.size)
 clear hW hG
 have hz_w1:=Blk.lt
 with_reducible refine (pl_touch _ _ l m _ (be.mono IP.kept HL.out hs) (be.mono IP.kept HM.out hs) (by omega) (by omega) (by omega) (by omega) HP.out HQ.out).mono ?_
 rintro e w2 ⟨rfl,hb⟩
 revert Blk;refine mS hs hb ?_;clear hs hb;intro hs Blk
 obtain⟨b1,Hb1⟩:∃zz:Bool,zz=tcZ l m:=⟨_,rfl⟩
 rw[←Hb1]
 replace Hb1:=ae Hb1
 by_cases q2:tcZ l m=true
 ·obtain rfl:b1=true:=by rw[Hb1.out];exact q2
  have q2H:=ae q2
  clear q2
  refine Blk.k3fl fun B4 B5 B6 fk Lk=>?_
  go_wp2
  clear B4 B5 B6 fk Lk
  refine bodyPost.abs ?_
  intro w3 hW
  have hG:Gr [w.heap.size] w2 w3:=by rw[hW];exact (Gr.refl _ _).set.set.set
  have hsz:=hs.size
  have lk:=Blk.lt
  have Bl1k:Bx w3 (w.heap.size) 37 #[.bool false,.slice none 0 0,.slice none 0 0]:=by rw[hW];exact Blk.set3
  replace hs:=hs.trans (hG.d1 hs.size)
  replace Blk:=Bl1k
  clear Bl1k
  clear hW hG hsz lk
  refine Blk.k3 fun B4 B5 B6=>?_
  exact bodyPost_ret (v:=.agg #[.bool false,.slice none 0 0,.slice none 0 0]) (by simp[results,Tryz.results43,go_sem,B4,B5,B6]) rfl ⟨_,rfl,(PV.zero _).of_eq (show _=apZ l m from (if_pos q2H.out).symm),hs⟩
 obtain rfl:b1=false:=by rw[Hb1.out];simpa using q2
 have q2H:=ae q2
 clear q2
 obtain⟨B7,B8,le3⟩:=ij (be.mono IP.kept HM.out hs) (show 0 < m.length by omega)
 simp only[Nat.zero_mul,Nat.add_zero] at B7 B8
 obtain⟨pe3,Hpe3⟩:∃z:Pt,z=ptZ m 0:=⟨_,rfl⟩
 rw[←Hpe3] at B7 B8
 have Bpe3:WP 1048576 pe3:=by rw[Hpe3];exact p0_wp HQ.out 0
 replace Hpe3:=ae Hpe3
 go_wp2_with fail
 clear le3 B7 B8
 with_reducible refine (pl_boundary _ l pe3 _ (be.mono IP.kept HL.out hs) (by omega) (by omega) HP.out (Bpe3)).mono ?_
 rintro e w3 ⟨_,rfl,h4,hb⟩
 obtain⟨sh4,ah4,nh4,ch4,Ah4,Nh4,Ch4,rfl⟩:=h4.shape
 revert Blk;refine mS hs hb ?_;clear hs hb;intro hs Blk
 go_wp2
 refine Code.abs ?_
 intro w4 hW
 have hG:Gr [] w3 w4:=by rw[hW];exact (Gr.refl _ _).alloc
 have sz_w4:=hs.size
 have nk_w4:=Blk.lt
 have B0:Bx w4 (w3.heap.size) 37 #[.bool sh4,.slice ah4 nh4 ch4,.slice Ah4 Nh4 Ch4]:=by rw[hW];exact (Bx.new0 _ _ _)
 replace hs:=hs.trans (hG.below0 hs.size)
 revert h4 Blk;refine g0 hG ?_;intro h4 Blk
 clear hW hG
 have hz_w4:=B0.lt
 go_loopw [27] (fun s27 wq=>∃i:Nat,i≤2∧s27=.int .i64 i∧Below w.heap.size w wq∧Bx wq (w.heap.size) 37 #[.bool false,.slice none 0 0,.slice none 0 0]∧BoxP wq (w3.heap.size) (apS l m i)) (fun s27 _=>2 - (intOf s27).toNat)
 case atStart=>exact⟨0,Nat.zero_le _,rfl,hs,Blk,⟨_,_,_,_,_,_,_,B0,(h4.of_eq (show _=apS l m 0 from by show _=bdQ l (ptZ m 0) l.length;rw[←Hpe3.out]))⟩⟩
 case round=>
  clear Blk B0 h4 hs
  obtain⟨i,k_le,rfl,hs,Blk,⟨sh5,ah5,nh5,ch5,Ah5,Nh5,Ch5,B0,h5⟩⟩:=hrel
  obtain⟨wl0,hwo⟩:∃x,x=wr:=⟨_,rfl⟩
  subst hwo
  by_cases q6:i < 2
  ·have q6d:((i:Int) < 2)=True:=eq_true (by omega)
   obtain⟨X,Y,xb,xo,xc,yb,yo,yc,⟨hXe,hYe⟩,hX,hY,X0,Y0,Xn,Yn,hXW,hYW,IX_⟩:=ap_ix (i:=i) (by omega) HL.out HM.out h0 k0 hn kn HP.out HQ.out
   obtain⟨s0,hs0⟩:∃z:Rat,z=apS l m i:=⟨_,rfl⟩
   have HS0:=ae (show SzQ 10 s0 from by rw[hs0];exact ap_sz HP.out HQ.out i)
   have HXe:=ae hXe
   have HYe:=ae hYe
   have HX:=ae hX
   have HY:=ae hY
   have HXW:=ae hXW
   have HYW:=ae hYW
   have Hs0:=ae hs0
   clear hXe hYe hX hY hXW hYW hs0
   rw[←Hs0.out] at h5
   go_wp2
   refine Code.abs ?_
   intro w25 hW
   have hG:Gr [] wl0 w25:=by rw[hW];exact (Gr.refl _ _).alloc
   have sz_w25:=hs.size
   have nk_w25:=Blk.lt
   have nleast_w25:=B0.lt
   have Bll:Bx w25 (wl0.heap.size) 92 #[.slice (some ⟨xb,xo,none⟩) X.length xc,.slice (some ⟨yb,yo,none⟩) Y.length yc]:=by rw[hW];exact (Bx.new0 _ _ _)
   replace hs:=hs.trans (hG.below0 hs.size)
   revert h5;revert B0;revert Blk;refine g0 hG ?_;intro Blk B0 h5
   clear hW hG
   have hz_w25:=Bll.lt
   go_loopw [33] (fun s33 wq=>∃j:Nat,j≤Y.length∧s33=.int .i64 j∧Below w.heap.size w wq∧Bx wq (w.heap.size) 37 #[.bool false,.slice none 0 0,.slice none 0 0]∧Bx wq (wl0.heap.size) 92 #[.slice (some ⟨xb,xo,none⟩) X.length xc,.slice (some ⟨yb,yo,none⟩) Y.length yc]∧BoxP wq (w3.heap.size) (bnK X Y s0 j)) (fun s33 _=>Y.length - (intOf s33).toNat)
   case atStart=>exact⟨0,Nat.zero_le _,rfl,hs,Blk,Bll,⟨_,_,_,_,_,_,_,B0,(h5.of_eq rfl)⟩⟩
   case round=>
    clear Blk B0 Bll h5 hs
    obtain⟨j,k_le,rfl,hs,Blk,Bll,⟨sh7,ah7,nh7,ch7,Ah7,Nh7,Ch7,B0,h7⟩⟩:=hrel
    obtain⟨wl1,hwo⟩:∃x,x=wr:=⟨_,rfl⟩
    subst hwo
    by_cases q8:j < Y.length
    ·have q8d:((j:Int) < (Y.length:Int))=True:=eq_true (by omega)
     obtain⟨B9,Ba,le9⟩:=ij (be.mono IP.kept HY.out hs) (show j < Y.length by omega)
     obtain⟨pe9,Hpe9⟩:∃z:Pt,z=ptZ Y j:=⟨_,rfl⟩
     rw[←Hpe9] at B9 Ba
     have Bpe9:WP 1048576 pe9:=by rw[Hpe9];exact p0_wp HYW.out j
     replace Hpe9:=ae Hpe9
     refine Bll.k2l fun Bb Bc Ll=>?_
     go_wp2_with fail
     clear Bb Bc Ll le9 B9 Ba
     refine Calls.abs ?_
     intro w46 hW
     have hG:Gr [] wl1 w46:=by rw[hW];exact (Gr.refl _ _).alloc
     have sz_w46:=hs.size
     have nk_w46:=Blk.lt
     have nl_w46:=Bll.lt
     have nleast_w46:=B0.lt
     have Blq:Bx w46 (wl1.heap.size) 24 #[.int .i64 pe9.1,.int .i64 pe9.2]:=by rw[hW];exact (Bx.new0 _ _ _)
     replace hs:=hs.trans (hG.below0 hs.size)
     revert h7;revert B0;revert Bll;revert Blk;refine g0 hG ?_;intro Blk Bll B0 h7
     clear hW hG
     have hz_w46:=Blq.lt
     with_reducible refine (pl_boundary _ X pe9 _ (be.mono IP.kept HX.out hs) (by omega) (by omega) HXW.out (Bpe9)).mono ?_
     rintro e w47 ⟨_,rfl,h10,hb⟩
     obtain⟨sh10,ah10,nh10,ch10,Ah10,Nh10,Ch10,rfl⟩:=h10.shape
     revert h7;revert B0;revert Bll;revert Blk;revert Blq;refine mS hs hb ?_;clear hs hb;intro hs Blq Blk Bll B0 h7
     refine B0.k3l fun B1 B2 B3 Lleast=>?_
     go_wp2_with fail
     clear B1 B2 B3 Lleast
     refine Calls.abs ?_
     intro w48 hW
     have hG:Gr [] w47 w48:=by rw[hW];exact (Gr.refl _ _).alloc
     have sz_w48:=hs.size
     have nk_w48:=Blk.lt
     have nl_w48:=Bll.lt
     have nleast_w48:=B0.lt
     have nq_w48:=Blq.lt
     have Blx:Bx w48 (w47.heap.size) 37 #[.bool sh10,.slice ah10 nh10 ch10,.slice Ah10 Nh10 Ch10]:=by rw[hW];exact (Bx.new0 _ _ _)
     replace hs:=hs.trans (hG.below0 hs.size)
     revert h10 Blq Blk Bll B0 h7;refine g0 hG ?_;intro h10 Blq Blk Bll B0 h7
     clear hW hG
     have hz_w48:=Blx.lt
     with_reducible refine (uk h10 h7 (SzQ.fit (bq_sz HXW.out (Bpe9) _)) (SzQ.fit (bn_sz HXW.out HYW.out HS0.out j))).mono ?_
     rintro e w49 ⟨rfl,hb⟩
     revert Blx h10 Blq Blk Bll B0 h7;refine mS hs hb ?_;clear hs hb;intro hs Blx h10 Blq Blk Bll B0 h7
     obtain⟨sg11,Hsg11⟩:∃s:Int,s=sgQ ((bdQ X pe9 X.length) - (bnK X Y s0 j)):=⟨_,rfl⟩
     rw[←Hsg11]
     replace Hsg11:=ae Hsg11
     by_cases q12:bdQ X pe9 X.length < bnK X Y s0 j
     ·have q12_:sg11 < 0:=by have h:=qg (bdQ X pe9 X.length) (bnK X Y s0 j);rw[←Hsg11.out] at h;exact h.2 q12
      have q12H:=ae q12
      clear q12
      have q12d:decide (sg11 < 0)=true:=decide_eq_true q12_
      refine Blx.k3l fun Bd Be Bf Lx=>?_
      refine B0.k3fl fun B1 B2 B3 fleast Lleast=>?_
      go_upto_region 13 with fail
      clear Bd Be Bf B1 B2 B3 fleast Lx Lleast
      refine Code.abs ?_
      intro w50 hW
      have hG:Gr [w3.heap.size] w49 w50:=by rw[hW];exact (Gr.refl _ _).set.set.set
      have hsz:=hs.size
      have lleast:=B0.lt
      have hk:=hG.keep ⟨⟨_,B0.ty,by decide⟩,True.intro⟩
      have Bl1least:Bx w50 (w3.heap.size) 37 #[.bool sh10,.slice ah10 nh10 ch10,.slice Ah10 Nh10 Ch10]:=by rw[hW];exact B0.set3
      replace hs:=hs.trans (hG.d1 hs.size)
      replace Blk:=hG.b1 Blk
      replace Bll:=hG.b1 Bll
      replace Blq:=hG.b1 Blq
      replace Blx:=hG.b1 Blx
      replace B0:=Bl1least
      clear Bl1least
      revert h10 h7;refine ke hk ?_;intro h10 h7
      clear hW hG hk hsz lleast
      go_wp2
      go_roundw
      case rel=>exact⟨j + 1,by omega,by go_num,hs,Blk,Bll,⟨_,_,_,_,_,_,_,B0,(h10.of_eq (show _=bnK X Y s0 (j + 1) from by rw[bn_yes (by rw[←Hpe9.out];exact q12H.out),←Hpe9.out]))⟩⟩
      all_goals first|(simp[intOf];done)|(simp[intOf];omega)
     have q12_:¬ (sg11 < 0):=by have h:=qg (bdQ X pe9 X.length) (bnK X Y s0 j);rw[←Hsg11.out] at h;exact fun h1=>q12 (h.1 h1)
     have q12H:=ae q12
     clear q12
     have q12d:decide (sg11 < 0)=false:=decide_eq_false q12_
     go_wp2
     go_roundw
     case rel=>exact⟨j + 1,by omega,by go_num,hs,Blk,Bll,⟨_,_,_,_,_,_,_,B0,(h7.of_eq (show _=bnK X Y s0 (j + 1) from by rw[bn_no (by rw[←Hpe9.out];exact q12H.out)]))⟩⟩
     all_goals first|(simp[intOf];done)|(simp[intOf];omega)
    have q8d:((j:Int) < (Y.length:Int))=False:=eq_false (by omega)
    go_wp2
    go_roundw
    case rel=>exact⟨i + 1,by omega,by go_num,hs,Blk,⟨_,_,_,_,_,_,_,B0,(h7.of_eq (show _=apS l m (i + 1) from by show _=bnK (xyL l m i) (xyL m l i) (apS l m i) (xyL m l i).length;rw[←HXe.out,←HYe.out,←Hs0.out,show Y.length=j from by omega]))⟩⟩
    all_goals first|(simp[intOf];done)|(simp[intOf];omega)
  have q6d:((i:Int) < 2)=False:=eq_false (by omega)
  refine B0.k3l fun B1 B2 B3 Lleast=>?_
  refine Blk.k3fl fun B4 B5 B6 fk Lk=>?_
  go_wp2
  clear B1 B2 B3 B4 B5 B6 fk Lleast Lk
  refine bodyPost.abs ?_
  intro w25 hW
  have hG:Gr [w.heap.size] wl0 w25:=by rw[hW];exact (Gr.refl _ _).set.set.set
  have hsz:=hs.size
  have lk:=Blk.lt
  have hk:=hG.keep ⟨⟨_,Blk.ty,by decide⟩,True.intro⟩
  have Bl1k:Bx w25 (w.heap.size) 37 #[.bool sh5,.slice ah5 nh5 ch5,.slice Ah5 Nh5 Ch5]:=by rw[hW];exact Blk.set3
  replace hs:=hs.trans (hG.d1 hs.size)
  replace B0:=hG.b1 B0
  replace Blk:=Bl1k
  clear Bl1k
  replace h5:=h5.keep hk
  clear hW hG hk hsz lk
  refine Blk.k3 fun B4 B5 B6=>?_
  exact bodyPost_ret (v:=.agg #[.bool sh5,.slice ah5 nh5 ch5,.slice Ah5 Nh5 Ch5]) (by simp[results,Tryz.results43,go_sem,B4,B5,B6]) rfl ⟨_,rfl,h5.of_eq (show _=apZ l m from by rw[show i=2 from by omega];exact (if_neg q2H.out).symm),hs⟩
end Go.Proofs.YtidmjdmmpajooaaGreat
namespace Go.Proofs.YtidmjdmmpajooaaGreat
theorem rsq_nn (x:Rat):0≤x * x:=by
 by_cases h:0≤x
 ·exact Rat.mul_nonneg h h
 ·have:=Rat.mul_nonneg (show 0≤ -x by grind) (show 0≤ -x by grind)
  grind
theorem ds_le (a b q:Pt) {t:Rat} (t0:0≤t) (t1:t≤1):
  dsQ a b q≤((a.1:Rat) + t * ((b.1 - a.1:Int):Rat) - (q.1:Rat)) * ((a.1:Rat) + t * ((b.1 - a.1:Int):Rat) - (q.1:Rat)) + ((a.2:Rat) + t * ((b.2 - a.2:Int):Rat) - (q.2:Rat)) * ((a.2:Rat) + t * ((b.2 - a.2:Int):Rat) - (q.2:Rat)):=by
 have key:∀w1 w2 d1 d2:Rat,(w1 - t * d1) * (w1 - t * d1) + (w2 - t * d2) * (w2 - t * d2)=(w1 * w1 + w2 * w2) - 2 * t * (w1 * d1 + w2 * d2) + t * t * (d1 * d1 + d2 * d2):=by intro w1 w2 d1 d2;grind
 have e:((a.1:Rat) + t * ((b.1 - a.1:Int):Rat) - (q.1:Rat)) * ((a.1:Rat) + t * ((b.1 - a.1:Int):Rat) - (q.1:Rat)) + ((a.2:Rat) + t * ((b.2 - a.2:Int):Rat) - (q.2:Rat)) * ((a.2:Rat) + t * ((b.2 - a.2:Int):Rat) - (q.2:Rat))
   =((frZ a q:Int):Rat) - 2 * t * ((dtZ (mnZ q a) (mnZ b a):Int):Rat) + t * t * ((dtZ (mnZ b a) (mnZ b a):Int):Rat):=by
  unfold frZ dtZ mnZ
  simp only[Rat.intCast_add,Rat.intCast_mul,Rat.intCast_sub]
  grind
 rw[e]
 have dd:(0:Rat)≤((dtZ (mnZ b a) (mnZ b a):Int):Rat):=Rat.intCast_nonneg.2 (fr_nn a b)
 have ff:(0:Rat)≤((frZ a q:Int):Rat):=Rat.intCast_nonneg.2 (fr_nn a q)
 have fb:((frZ b q:Int):Rat)=((frZ a q:Int):Rat) - 2 * ((dtZ (mnZ q a) (mnZ b a):Int):Rat) + ((dtZ (mnZ b a) (mnZ b a):Int):Rat):=by
  unfold frZ dtZ mnZ
  simp only[Rat.intCast_add,Rat.intCast_mul,Rat.intCast_sub]
  grind
 have cc:((crZ (mnZ b a) (mnZ q a):Int):Rat) * ((crZ (mnZ b a) (mnZ q a):Int):Rat) + ((dtZ (mnZ q a) (mnZ b a):Int):Rat) * ((dtZ (mnZ q a) (mnZ b a):Int):Rat)=((frZ a q:Int):Rat) * ((dtZ (mnZ b a) (mnZ b a):Int):Rat):=by
  unfold frZ crZ dtZ mnZ
  simp only[Rat.intCast_add,Rat.intCast_mul,Rat.intCast_sub]
  grind
 have i1:dtZ (mnZ q a) (mnZ b a)≤0→((dtZ (mnZ q a) (mnZ b a):Int):Rat)≤0:=fun h=>by
  have:=Rat.intCast_le_intCast.2 h;simpa using this
 have i2:dtZ (mnZ b a) (mnZ b a)≤dtZ (mnZ q a) (mnZ b a)→((dtZ (mnZ b a) (mnZ b a):Int):Rat)≤((dtZ (mnZ q a) (mnZ b a):Int):Rat):=fun h=>Rat.intCast_le_intCast.2 h
 have i3:¬ dtZ (mnZ q a) (mnZ b a)≤0→¬ dtZ (mnZ b a) (mnZ b a)≤dtZ (mnZ q a) (mnZ b a)→(0:Rat) < ((dtZ (mnZ b a) (mnZ b a):Int):Rat):=fun h h2=>by
  have:=Rat.intCast_lt_intCast.2 (show (0:Int) < dtZ (mnZ b a) (mnZ b a) by omega);simpa using this
 unfold dsQ
 revert dd ff fb cc i1 i2 i3
 by_cases c1:dtZ (mnZ q a) (mnZ b a)≤0
 ·rw[if_pos c1]
  intro dd ff fb cc i1 i2 i3
  have:=i1 c1
  clear i1 i2 i3 fb cc e key
  generalize ((frZ a q:Int):Rat)=F at *
  generalize ((dtZ (mnZ q a) (mnZ b a):Int):Rat)=W at *
  generalize ((dtZ (mnZ b a) (mnZ b a):Int):Rat)=D at *
  have p1:=Rat.mul_nonneg t0 (show 0≤ -W by grind)
  have p2:=Rat.mul_nonneg (rsq_nn t) dd
  grind
 ·rw[if_neg c1]
  by_cases c2:dtZ (mnZ b a) (mnZ b a)≤dtZ (mnZ q a) (mnZ b a)
  ·rw[if_pos c2]
   intro dd ff fb cc i1 i2 i3
   rw[fb]
   have:=i2 c2
   clear i1 i2 i3 fb cc e key
   generalize ((frZ a q:Int):Rat)=F at *
   generalize ((dtZ (mnZ q a) (mnZ b a):Int):Rat)=W at *
   generalize ((dtZ (mnZ b a) (mnZ b a):Int):Rat)=D at *
   have p1:=Rat.mul_nonneg (show 0≤1 - t by grind) (show 0≤W - D by grind)
   have p2:=Rat.mul_nonneg (rsq_nn (1 - t)) dd
   grind
  ·rw[if_neg c2]
   intro dd ff fb cc i1 i2 i3
   have hD:=i3 c1 c2
   clear i1 i2 i3 fb e key
   generalize ((frZ a q:Int):Rat)=F at *
   generalize ((dtZ (mnZ q a) (mnZ b a):Int):Rat)=W at *
   generalize ((dtZ (mnZ b a) (mnZ b a):Int):Rat)=D at *
   generalize ((crZ (mnZ b a) (mnZ q a):Int):Rat)=C at *
   refine Rat.not_lt.1 fun h=>?_
   have h2:=(Rat.lt_div_iff hD).1 h
   have p:=rsq_nn (W - t * D)
   grind
theorem bd_le {l:List Pt} {q:Pt} {i:Nat}:∀k,i < k→bdQ l q k≤dsQ (ptZ l i) (ptZ l ((i + 1) % l.length)) q
 | 0,h=>absurd h (by omega)
 | k + 1,h=>by
  by_cases e:i=k
  ·subst e
   unfold bdQ
   split
   ·exact Rat.le_refl
   ·split
    ·exact Rat.le_refl
    ·rename_i h2;exact Rat.not_lt.1 h2
  ·have ih:=bd_le (l:=l) (q:=q) k (show i < k by omega)
   unfold bdQ
   rw[if_neg (by omega)]
   split
   ·rename_i h2;grind
   ·exact ih
theorem bd_nn {l:List Pt} {q:Pt}:∀k,0≤bdQ l q k
 | 0=>Rat.le_refl
 | k + 1=>by
  unfold bdQ
  split
  ·exact ds_nn _ _ _
  ·split
   ·exact ds_nn _ _ _
   ·exact bd_nn k
theorem di_nn (l:List Pt) (q:Pt):0≤diQ l q:=by
 unfold diQ
 split
 ·exact Rat.le_refl
 ·exact bd_nn _
theorem di_le {l:List Pt} {q:Pt} {i:Nat} (hi:i < l.length) {t:Rat} (t0:0≤t) (t1:t≤1):
  diQ l q≤(((ptZ l i).1:Rat) + t * (((ptZ l ((i + 1) % l.length)).1 - (ptZ l i).1:Int):Rat) - (q.1:Rat)) * (((ptZ l i).1:Rat) + t * (((ptZ l ((i + 1) % l.length)).1 - (ptZ l i).1:Int):Rat) - (q.1:Rat))
   + (((ptZ l i).2:Rat) + t * (((ptZ l ((i + 1) % l.length)).2 - (ptZ l i).2:Int):Rat) - (q.2:Rat)) * (((ptZ l i).2:Rat) + t * (((ptZ l ((i + 1) % l.length)).2 - (ptZ l i).2:Int):Rat) - (q.2:Rat)):=by
 have h:=ds_le (ptZ l i) (ptZ l ((i + 1) % l.length)) q t0 t1
 unfold diQ
 split
 ·exact Rat.le_trans (ds_nn _ _ _) h
 ·exact Rat.le_trans (bd_le _ hi) h
theorem bn_le0 {X Y:List Pt} {s:Rat}:∀j,bnK X Y s j≤s
 | 0=>Rat.le_refl
 | j + 1=>by
  have:=bn_le0 (X:=X) (Y:=Y) (s:=s) j
  unfold bnK
  split
  ·rename_i h;grind
  ·exact this
theorem bn_le {X Y:List Pt} {s:Rat} {i:Nat}:∀j,i < j→bnK X Y s j≤bdQ X (ptZ Y i) X.length
 | 0,h=>absurd h (by omega)
 | j + 1,h=>by
  by_cases e:i=j
  ·subst e
   unfold bnK
   split
   ·exact Rat.le_refl
   ·rename_i h2;exact Rat.not_lt.1 h2
  ·have:=bn_le (X:=X) (Y:=Y) (s:=s) j (show i < j by omega)
   unfold bnK
   split
   ·rename_i h2;grind
   ·exact this
theorem bn_nn {X Y:List Pt} {s:Rat} (hs:0≤s):∀j,0≤bnK X Y s j
 | 0=>hs
 | j + 1=>by
  unfold bnK
  split
  ·exact bd_nn _
  ·exact bn_nn hs j
theorem ap_nn (l m:List Pt):0≤apZ l m:=by
 have h:∀i,0≤apS l m i:=fun i=>by
  induction i with
  | zero=>exact bd_nn _
  | succ i ih=>exact bn_nn ih _
 unfold apZ
 split
 ·exact Rat.le_refl
 ·exact h 2
theorem tc_out {l m:List Pt} (h:tcZ l m=false):∀j,j < m.length→whZ l (ptZ m j) < 0:=by
 have h0:¬ 0≤whZ l (ptZ m 0):=fun c=>by rw[tc_1 c] at h;cases h
 have hm:∀i,i < l.length→∀j,j < m.length→meZ (ptZ l i) (ptZ l ((i + 1) % l.length)) (ptZ m j) (ptZ m ((j + 1) % m.length))=false:=fun i hi j hj=>
  Bool.eq_false_iff.2 fun c=>by rw[tc_3 hi hj (show tcP l m i j=true from c)] at h;cases h
 intro j
 induction j with
 | zero=>intro _;omega
 | succ j ih=>
  intro hj
  have:=wh_way (l:=l) (u:=ptZ m j) (v:=ptZ m ((j + 1) % m.length)) (fun i hi=>hm i hi j (by omega))
  rw[Nat.mod_eq_of_lt hj] at this
  rw[←this]
  exact ih (by omega)
theorem ap_le {l m:List Pt} {j:Nat} (hj:j < m.length):apZ l m≤diQ l (ptZ m j):=by
 by_cases c:tcZ l m=true
 ·unfold apZ;rw[if_pos c];exact di_nn _ _
 ·have c':=Bool.eq_false_iff.2 c
  have ho:=tc_out c' j hj
  unfold apZ diQ
  rw[if_neg c,if_neg (by omega)]
  have h1:apS l m 2≤apS l m 1:=bn_le0 _
  have h2:apS l m 1≤bdQ l (ptZ m j) l.length:=bn_le (X:=l) (Y:=m) _ hj
  exact Rat.le_trans h1 h2
end Go.Proofs.YtidmjdmmpajooaaGreat
namespace Go.Proofs.YtidmjdmmpajooaaGreat
open Go.RowKit Dg
attribute [local go_sem ↓] Go.wp_at_zero Go.wp_at_succ
theorem ap_szZ {l m:List Pt} (hl:∀p∈l,WP 1048576 p) (hm:∀p∈m,WP 1048576 p):SzQ 10 (apZ l m):=by
 unfold apZ
 split
 ·exact jn.mono (by decide)
 exact ap_sz hl hm 2
theorem pl_Apart (v u:Value) (l m:List Pt) (w:World) (hl:Pts w v l) (hm:Pts w u m) (cl_:fl l=0) (cm_:fl m=0):
  Calls Tryz.prog 9 #[v,u] w (Ret2 (fun w v=>PV w v (apZ l m)) (fun _ v=>v=.int .i64 0) w):=by
 obtain⟨al,cl,rfl, -, -, -⟩:=hl.slice
 obtain⟨am,cm,rfl, -, -, -⟩:=hm.slice
 have hs:=Below.refl w.heap.size w
 have HL:=ae hl
 have HM:=ae hm
 have HCL:=ae cl_
 have HCM:=ae cm_
 have HKL:=ae (kg cl_)
 have HKM:=ae (kg cm_)
 clear hl hm cl_ cm_
 go_enter Tryz.func9,Tryz.ntmps9
 go_wp2_with fail
 refine Calls.abs ?_
 intro w1 hW
 have hG:Gr [] w w1:=by rw[hW];exact (Gr.refl _ _).alloc
 have sz_w1:=hs.size
 have Blk:Bx w1 (w.heap.size) 37 #[.bool false,.slice none 0 0,.slice none 0 0]:=by rw[hW];exact (Bx.new0 _ _ _)
 replace hs:=hs.trans (hG.below0 hs.size)
 clear hW hG
 have hz_w1:=Blk.lt
 with_reducible refine (pl_two _ l _ m _ (be.mono IP.kept HL.out hs) (be.mono IP.kept HM.out hs) (r1:=0) (by rw[if_pos HCL.out,HCM.out])).mono ?_
 rintro e w2 ⟨rfl,hb⟩
 revert Blk;refine mS hs hb ?_;clear hs hb;intro hs Blk
 go_wp2_with fail
 with_reducible refine (pl_apart _ _ l m _ (be.mono IP.kept HL.out hs) (be.mono IP.kept HM.out hs) (by have:=HKL.out.2.1;omega) (by have:=HKM.out.2.1;omega) (by have:=HKL.out.1;omega) (by have:=HKM.out.1;omega) HKL.out.2.2 HKM.out.2.2).mono ?_
 rintro e w3 ⟨_,rfl,h1,hb⟩
 obtain⟨sh1,ah1,nh1,ch1,Ah1,Nh1,Ch1,rfl⟩:=h1.shape
 revert Blk;refine mS hs hb ?_;clear hs hb;intro hs Blk
 refine Blk.k3fl fun B0 B1 B2 fk Lk=>?_
 go_wp2
 clear B0 B1 B2 fk Lk
 refine bodyPost.abs ?_
 intro w4 hW
 have hG:Gr [w.heap.size] w3 w4:=by rw[hW];exact (Gr.refl _ _).set.set.set
 have hsz:=hs.size
 have lk:=Blk.lt
 have hk:=hG.keep ⟨⟨_,Blk.ty,by decide⟩,True.intro⟩
 have Bl1k:Bx w4 (w.heap.size) 37 #[.bool sh1,.slice ah1 nh1 ch1,.slice Ah1 Nh1 Ch1]:=by rw[hW];exact Blk.set3
 replace hs:=hs.trans (hG.d1 hs.size)
 replace Blk:=Bl1k
 clear Bl1k
 replace h1:=h1.keep hk
 clear hW hG hk hsz lk
 refine Blk.k3 fun B0 B1 B2=>?_
 exact bodyPost_ret (v:=.tuple #[.agg #[.bool sh1,.slice ah1 nh1 ch1,.slice Ah1 Nh1 Ch1],.int .i64 0]) (by simp[results,Tryz.results9,go_sem,B0,B1,B2]) rfl ⟨_,_,rfl,h1,rfl,hs⟩
end Go.Proofs.YtidmjdmmpajooaaGreat
