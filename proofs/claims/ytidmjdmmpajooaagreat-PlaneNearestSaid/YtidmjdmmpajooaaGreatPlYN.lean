/-
  plane: how far a point is from an edge.
-/
import Derived.Test.YtidmjdmmpajooaaGreatPkV17N
import Derived.Test.YtidmjdmmpajooaaGreatPkV3N
import Derived.Test.YtidmjdmmpajooaaGreatPkV19N
set_option linter.unusedSimpArgs false
set_option linter.unusedVariables false
set_option maxRecDepth 100000
set_option maxHeartbeats 16000000
namespace Go.Proofs.YtidmjdmmpajooaaGreat
open Go.RowKit Dg
attribute [local go_sem ↓] Go.wp_at_zero Go.wp_at_succ
theorem qo (a b:Pt) (w:World) (ha:WP 1048576 a) (hb:WP 1048576 b) {m:Pt} (hm:m=mnZ a b):
  Calls Tryz.prog 38 #[.agg #[.int .i64 a.1,.int .i64 a.2],.agg #[.int .i64 b.1,.int .i64 b.2]] w (fj w (.agg #[.int .i64 m.1,.int .i64 m.2])):=by
 subst hm
 exact di a.1 a.2 b.1 b.2 w (Wn.wsub ha.1 hb.1 (by decide)) (Wn.wsub ha.2 hb.2 (by decide))
theorem wv (a b:Pt) (w:World) (ha:WP 2097152 a) (hb:WP 2097152 b) {d:Int} (hd:d=dtZ a b):
  Calls Tryz.prog 40 #[.agg #[.int .i64 a.1,.int .i64 a.2],.agg #[.int .i64 b.1,.int .i64 b.2]] w (fj w (.int .i64 d)):=by
 subst hd
 exact pl_dot a.1 a.2 b.1 b.2 w (Wn.wmul ha.1 hb.1 (by decide)) (Wn.wmul ha.2 hb.2 (by decide)) (Wn.wadd (Wn.mul ha.1 hb.1) (Wn.mul ha.2 hb.2) (by decide))
theorem yj (a b:Pt) (w:World) (ha:WP 2097152 a) (hb:WP 2097152 b) {d:Int} (hd:d=crZ a b):
  Calls Tryz.prog 39 #[.agg #[.int .i64 a.1,.int .i64 a.2],.agg #[.int .i64 b.1,.int .i64 b.2]] w (fj w (.int .i64 d)):=by
 subst hd
 exact pg a.1 a.2 b.1 b.2 w (Wn.wmul ha.1 hb.2 (by decide)) (Wn.wmul ha.2 hb.1 (by decide)) (Wn.wsub (Wn.mul ha.1 hb.2) (Wn.mul ha.2 hb.1) (by decide))
theorem ed_far (p q:Pt) (g:Nat) (w:World) (hp:WP 1048576 p) (hq:WP 1048576 q) (C0:Bx w g 24 #[.int .i64 q.1,.int .i64 q.2]):
  Calls Tryz.prog 88 #[.agg #[.int .i64 p.1,.int .i64 p.2],.pointer (some ⟨g,0,none⟩)] w (mp w ((frZ p q:Int):Rat)):=by
 have hs:=Below.refl w.heap.size w
 go_enter Tryz.func88,Tryz.ntmps88
 refine C0.k2l fun Dm Dn Lg=>?_
 go_wp2_with fail
 clear Dm Dn Lg
 refine Calls.abs ?_
 intro w1 hW
 have hG:Gr [] w w1:=by rw[hW];exact (Gr.refl _ _).alloc.alloc
 have Dk:=hs.size
 have ng_w1:=C0.lt
 have Co:Bx w1 (w.heap.size) 24 #[.int .i64 p.1,.int .i64 p.2]:=by rw[hW];exact ((Bx.new0 _ _ _).alloc _)
 have Blk:Bx w1 (w.heap.size + 1) 37 #[.bool false,.slice none 0 0,.slice none 0 0]:=by rw[hW];exact (Bx.new0 _ _ _)
 replace hs:=hs.trans (hG.below0 hs.size)
 replace C0:=hG.bx C0 wh
 clear hW hG
 have Dh:=Blk.lt
 obtain⟨Bd,Bp⟩:∃z:Pt,z=mnZ q p:=⟨_,rfl⟩
 have Bo:WP 2097152 Bd:=by rw[Bp];exact wg hq hp
 replace Bp:=ae Bp
 with_reducible refine (qo q p _ hq hp Bp.out).mono ?_
 rintro e w2 ⟨rfl,hb⟩
 revert Co Blk C0;refine mS hs hb ?_;clear hs hb;intro hs Co Blk C0
 go_upto_region 2 with fail
 refine Code.abs ?_
 intro w3 hW
 have hG:Gr [] w2 w3:=by rw[hW];exact (Gr.refl _ _).alloc
 have Dl:=hs.size
 have ng_w3:=C0.lt
 have np_w3:=Co.lt
 have Dj:=Blk.lt
 have Cp:Bx w3 (w2.heap.size) 24 #[.int .i64 Bd.1,.int .i64 Bd.2]:=by rw[hW];exact (Bx.new0 _ _ _)
 replace hs:=hs.trans (hG.below0 hs.size)
 revert Co Blk C0;refine g0 hG ?_;intro Co Blk C0
 clear hW hG
 have Di:=Cp.lt
 refine Cp.k2l fun Do Dp Lv=>?_
 go_wp2_with fail
 clear Do Dp Lv
 obtain⟨dt2,Ct⟩:∃z:Int,z=dtZ Bd Bd:=⟨_,rfl⟩
 have Wdt2:Wn 17592186044416 dt2:=by rw[Ct];exact dt_wn Bo Bo
 replace Ct:=ae Ct
 with_reducible refine (wv Bd Bd _ Bo Bo Ct.out).mono ?_
 rintro e w4 ⟨rfl,hb⟩
 revert Cp Co Blk C0;refine mS hs hb ?_;clear hs hb;intro hs Cp Co Blk C0
 go_wp2_with fail
 with_reducible refine (fh dt2 _ (Wdt2.mono (by decide))).mono ?_
 rintro e w5 ⟨_,rfl,h3,hb⟩
 obtain⟨sh3,ah3,nh3,ch3,Ah3,Nh3,Ch3,rfl⟩:=h3.shape
 revert C0;revert Blk;revert Co;revert Cp;refine mS hs hb ?_;clear hs hb;intro hs Cp Co Blk C0
 refine Blk.k3fl fun Bt Bu Bv fk Lk=>?_
 go_wp2
 clear Bt Bu Bv fk Lk
 refine bodyPost.abs ?_
 intro w6 hW
 have hG:Gr [w.heap.size + 1] w5 w6:=by rw[hW];exact (Gr.refl _ _).set.set.set
 have Cc:=hs.size
 have lk:=Blk.lt
 have hk:=hG.keep ⟨⟨_,Blk.ty,by decide⟩,True.intro⟩
 have Cb:Bx w6 (w.heap.size + 1) 37 #[.bool sh3,.slice ah3 nh3 ch3,.slice Ah3 Nh3 Ch3]:=by rw[hW];exact Blk.set3
 replace hs:=hs.trans (hG.d1 hs.size)
 replace C0:=hG.b1 C0
 replace Co:=hG.b1 Co
 replace Cp:=hG.b1 Cp
 replace Blk:=Cb
 clear Cb
 replace h3:=h3.keep hk
 clear hW hG hk Cc lk
 refine Blk.k3 fun Bt Bu Bv=>?_
 exact bodyPost_ret (v:=.agg #[.bool sh3,.slice ah3 nh3 ch3,.slice Ah3 Nh3 Ch3]) (by simp[results,Tryz.results88,go_sem,Bt,Bu,Bv]) rfl ⟨_,rfl,h3.of_eq (by rw[Ct.out,Bp.out];rfl),hs⟩
theorem ed_distance (a b q:Pt) (w:World) (ha:WP 1048576 a) (hb:WP 1048576 b) (hq:WP 1048576 q):
  Calls Tryz.prog 69 #[.agg #[.int .i64 a.1,.int .i64 a.2,.int .i64 b.1,.int .i64 b.2],.agg #[.int .i64 q.1,.int .i64 q.2]] w (mp w (dsQ a b q)):=by
 have hs:=Below.refl w.heap.size w
 go_enter Tryz.func69,Tryz.ntmps69
 go_wp2_with fail
 refine Calls.abs ?_
 intro w1 hW
 have hG:Gr [] w w1:=by rw[hW];exact (Gr.refl _ _).alloc.alloc.alloc
 have Dk:=hs.size
 have B0:Bx w1 (w.heap.size) 69 #[.int .i64 a.1,.int .i64 a.2,.int .i64 b.1,.int .i64 b.2]:=by rw[hW];exact (((Bx.new0 _ _ _).alloc _).alloc _)
 have B1:Bx w1 (w.heap.size + 1) 24 #[.int .i64 q.1,.int .i64 q.2]:=by rw[hW];exact ((Bx.new0 _ _ _).alloc _)
 have Blk:Bx w1 (w.heap.size + 1 + 1) 37 #[.bool false,.slice none 0 0,.slice none 0 0]:=by rw[hW];exact (Bx.new0 _ _ _)
 replace hs:=hs.trans (hG.below0 hs.size)
 clear hW hG
 have Dh:=Blk.lt
 obtain⟨Bd,Bp⟩:∃z:Pt,z=mnZ b a:=⟨_,rfl⟩
 have Bo:WP 2097152 Bd:=by rw[Bp];exact wg hb ha
 replace Bp:=ae Bp
 with_reducible refine (qo b a _ hb ha Bp.out).mono ?_
 rintro e w2 ⟨rfl,hb⟩
 revert B0 B1 Blk;refine mS hs hb ?_;clear hs hb;intro hs B0 B1 Blk
 go_upto_region 3 with fail
 refine Code.abs ?_
 intro w3 hW
 have hG:Gr [] w2 w3:=by rw[hW];exact (Gr.refl _ _).alloc
 have Dl:=hs.size
 have ne_w3:=B0.lt
 have nq_w3:=B1.lt
 have Dj:=Blk.lt
 have B2:Bx w3 (w2.heap.size) 24 #[.int .i64 Bd.1,.int .i64 Bd.2]:=by rw[hW];exact (Bx.new0 _ _ _)
 replace hs:=hs.trans (hG.below0 hs.size)
 revert B0 B1 Blk;refine g0 hG ?_;intro B0 B1 Blk
 clear hW hG
 have Di:=B2.lt
 obtain⟨Cu,C7⟩:∃z:Pt,z=mnZ q a:=⟨_,rfl⟩
 have Cs:WP 2097152 Cu:=by rw[C7];exact wg hq ha
 replace C7:=ae C7
 obtain⟨Cn,Cl⟩:∃z:Int,z=dtZ Cu Bd:=⟨_,rfl⟩
 have Wdt3:Wn 17592186044416 Cn:=by rw[Cl];exact dt_wn Cs Bo
 replace Cl:=ae Cl
 refine bw (S:=fun w'=>w'.cell? ⟨w.heap.size + 1,0,none⟩=some (.int .i64 q.1)∧w'.cell? ⟨w.heap.size + 1,1,none⟩=some (.int .i64 q.2)∧w'.cell? ⟨w.heap.size,0,none⟩=some (.int .i64 a.1)∧w'.cell? ⟨w.heap.size,1,none⟩=some (.int .i64 a.2)∧w'.cell? ⟨w.heap.size,2,none⟩=some (.int .i64 b.1)∧w'.cell? ⟨w.heap.size,3,none⟩=some (.int .i64 b.2)∧w'.cell? ⟨w2.heap.size,0,none⟩=some (.int .i64 Bd.1)∧w'.cell? ⟨w2.heap.size,1,none⟩=some (.int .i64 Bd.2)) (by kernel_rfl) 7 ?_
 refine cq.abs ?_
 intro w4 hW
 have hb:Below w3.heap.size w3 w4:=by rw[hW];exact de _
 replace hs:=ar hs hb
 revert B2 B0 B1 Blk;refine mo hb ?_;intro B2 B0 B1 Blk
 clear hb hW
 refine B1.k2 fun Bb Bc=>?_
 refine B0.k4 fun B4 B5 B6 B7=>?_
 refine B2.k2 fun B8 B9=>?_
 have hH:=(show w4.cell? ⟨w.heap.size + 1,0,none⟩=some (.int .i64 q.1)∧w4.cell? ⟨w.heap.size + 1,1,none⟩=some (.int .i64 q.2)∧w4.cell? ⟨w.heap.size,0,none⟩=some (.int .i64 a.1)∧w4.cell? ⟨w.heap.size,1,none⟩=some (.int .i64 a.2)∧w4.cell? ⟨w.heap.size,2,none⟩=some (.int .i64 b.1)∧w4.cell? ⟨w.heap.size,3,none⟩=some (.int .i64 b.2)∧w4.cell? ⟨w2.heap.size,0,none⟩=some (.int .i64 Bd.1)∧w4.cell? ⟨w2.heap.size,1,none⟩=some (.int .i64 Bd.2) from ⟨Bb,Bc,B4,B5,B6,B7,B8,B9⟩)
 refine U_tq 0 17 hH ?_
 refine U_tq 1 18 hH ?_
 refine U_tq 2 19 hH ?_
 refine U_tq 4 21 hH ?_
 clear hH
 refine U_on 3 fun K hK=>?_
 go_simp
 (with_reducible refine (qo q a _ hq ha C7.out).mono ?_)
 rintro e w5 ⟨rfl,hb⟩
 replace hs:=ar hs hb
 revert B2 B0 B1 Blk;refine mo hb ?_;intro B2 B0 B1 Blk
 replace Bb:=ah Bb hb
 replace Bc:=ah Bc hb
 replace B4:=ah B4 hb
 replace B5:=ah B5 hb
 replace B6:=ah B6 hb
 replace B7:=ah B7 hb
 replace B8:=ah B8 hb
 replace B9:=ah B9 hb
 clear hb
 try go_wp2_with fail
 refine hK.out _ _ ⟨Bb,Bc,B4,B5,B6,B7,B8,B9⟩ (fun hH=>?_)
 clear hK K
 try simp only[LY]
 clear hH
 refine U_on 5 fun K hK=>?_
 go_simp
 (with_reducible refine (wv Cu Bd _ Cs Bo Cl.out).mono ?_)
 rintro e w6 ⟨rfl,hb⟩
 replace hs:=ar hs hb
 revert B2 B0 B1 Blk;refine mo hb ?_;intro B2 B0 B1 Blk
 replace Bb:=ah Bb hb
 replace Bc:=ah Bc hb
 replace B4:=ah B4 hb
 replace B5:=ah B5 hb
 replace B6:=ah B6 hb
 replace B7:=ah B7 hb
 replace B8:=ah B8 hb
 replace B9:=ah B9 hb
 clear hb
 try go_wp2_with fail
 refine hK.out _ _ ⟨Bb,Bc,B4,B5,B6,B7,B8,B9⟩ (fun hH=>?_)
 clear hK K
 try simp only[LY]
 refine U_tq 6 7 hH ?_
 clear hH
 refine im (by kernel_rfl) ?_
 clear Bb Bc B4 B5 B6 B7 B8 B9
 by_cases q4:Cn≤0
 ·have q4d:(Cn≤0)=True:=eq_true (by omega)
  refine B0.k4l fun B4 B5 B6 B7 Le=>?_
  go_wp2_with fail
  clear B4 B5 B6 B7 Le
  with_reducible refine (ed_far a q (w.heap.size + 1) _ ha hq B1).mono ?_
  rintro e w7 ⟨_,rfl,h5,hb⟩
  obtain⟨sh5,ah5,nh5,ch5,Ah5,Nh5,Ch5,rfl⟩:=h5.shape
  revert Blk;revert B1;revert B0;revert B2;refine mS hs hb ?_;clear hs hb;intro hs B2 B0 B1 Blk
  refine Blk.k3fl fun Bt Bu Bv fk Lk=>?_
  go_wp2
  clear Bt Bu Bv fk Lk
  refine bodyPost.abs ?_
  intro w8 hW
  have hG:Gr [w.heap.size + 1 + 1] w7 w8:=by rw[hW];exact (Gr.refl _ _).set.set.set
  have Cc:=hs.size
  have lk:=Blk.lt
  have hk:=hG.keep ⟨⟨_,Blk.ty,by decide⟩,True.intro⟩
  have Cb:Bx w8 (w.heap.size + 1 + 1) 37 #[.bool sh5,.slice ah5 nh5 ch5,.slice Ah5 Nh5 Ch5]:=by rw[hW];exact Blk.set3
  replace hs:=hs.trans (hG.d1 hs.size)
  replace B0:=hG.b1 B0
  replace B1:=hG.b1 B1
  replace B2:=hG.b1 B2
  replace Blk:=Cb
  clear Cb
  replace h5:=h5.keep hk
  clear hW hG hk Cc lk
  refine Blk.k3 fun Bt Bu Bv=>?_
  exact bodyPost_ret (v:=.agg #[.bool sh5,.slice ah5 nh5 ch5,.slice Ah5 Nh5 Ch5]) (by simp[results,Tryz.results69,go_sem,Bt,Bu,Bv]) rfl ⟨_,rfl,h5.of_eq (dq_1 (show dtZ (mnZ q a) (mnZ b a)≤0 from by rw[←show Cn=dtZ (mnZ q a) (mnZ b a) from by rw[Cl.out,C7.out,Bp.out]];omega)).symm,hs⟩
 have q4d:(Cn≤0)=False:=eq_false (by omega)
 refine B2.k2l fun B8 B9 Ld=>?_
 go_wp2_with fail
 clear B8 B9 Ld
 obtain⟨Bq,Cm⟩:∃z:Int,z=dtZ Bd Bd:=⟨_,rfl⟩
 have Cv:Wn 17592186044416 Bq:=by rw[Cm];exact dt_wn Bo Bo
 replace Cm:=ae Cm
 with_reducible refine (wv Bd Bd _ Bo Bo Cm.out).mono ?_
 rintro e w7 ⟨rfl,hb⟩
 revert B2 B0 B1 Blk;refine mS hs hb ?_;clear hs hb;intro hs B2 B0 B1 Blk
 by_cases q6:Bq≤Cn
 ·have q6d:(Bq≤Cn)=True:=eq_true (by omega)
  refine B0.k4l fun B4 B5 B6 B7 Le=>?_
  go_wp2_with fail
  clear B4 B5 B6 B7 Le
  with_reducible refine (ed_far b q (w.heap.size + 1) _ hb hq B1).mono ?_
  rintro e w8 ⟨_,rfl,h7,hb⟩
  obtain⟨sh7,ah7,nh7,ch7,Ah7,Nh7,Ch7,rfl⟩:=h7.shape
  revert Blk;revert B1;revert B0;revert B2;refine mS hs hb ?_;clear hs hb;intro hs B2 B0 B1 Blk
  refine Blk.k3fl fun Bt Bu Bv fk Lk=>?_
  go_wp2
  clear Bt Bu Bv fk Lk
  refine bodyPost.abs ?_
  intro w9 hW
  have hG:Gr [w.heap.size + 1 + 1] w8 w9:=by rw[hW];exact (Gr.refl _ _).set.set.set
  have Cc:=hs.size
  have lk:=Blk.lt
  have hk:=hG.keep ⟨⟨_,Blk.ty,by decide⟩,True.intro⟩
  have Cb:Bx w9 (w.heap.size + 1 + 1) 37 #[.bool sh7,.slice ah7 nh7 ch7,.slice Ah7 Nh7 Ch7]:=by rw[hW];exact Blk.set3
  replace hs:=hs.trans (hG.d1 hs.size)
  replace B0:=hG.b1 B0
  replace B1:=hG.b1 B1
  replace B2:=hG.b1 B2
  replace Blk:=Cb
  clear Cb
  replace h7:=h7.keep hk
  clear hW hG hk Cc lk
  refine Blk.k3 fun Bt Bu Bv=>?_
  exact bodyPost_ret (v:=.agg #[.bool sh7,.slice ah7 nh7 ch7,.slice Ah7 Nh7 Ch7]) (by simp[results,Tryz.results69,go_sem,Bt,Bu,Bv]) rfl ⟨_,rfl,h7.of_eq (dq_2 (show ¬ dtZ (mnZ q a) (mnZ b a)≤0 from by rw[←show Cn=dtZ (mnZ q a) (mnZ b a) from by rw[Cl.out,C7.out,Bp.out]];omega) (show dtZ (mnZ b a) (mnZ b a)≤dtZ (mnZ q a) (mnZ b a) from by rw[←show Bq=dtZ (mnZ b a) (mnZ b a) from by rw[Cm.out,Bp.out],←show Cn=dtZ (mnZ q a) (mnZ b a) from by rw[Cl.out,C7.out,Bp.out]];omega)).symm,hs⟩
 have q6d:(Bq≤Cn)=False:=eq_false (by omega)
 obtain⟨Bl,Cq⟩:∃z:Int,z=crZ Bd Cu:=⟨_,rfl⟩
 have C8:Wn 17592186044416 Bl:=by rw[Cq];exact cr_wn Bo Cs
 replace Cq:=ae Cq
 go_upto_region 8 with fail
 go_cut [8] (fun kv0 wz=>∃gc C6 C3 C5 C4 Bz C2 C1,kv0=.pointer (some ⟨gc,0,none⟩)∧w.heap.size≤gc∧gc≠w.heap.size∧gc≠(w.heap.size + 1)∧gc≠(w.heap.size + 1 + 1)∧gc≠w2.heap.size∧Bx wz gc 37 #[.bool C6,.slice C3 C5 C4,.slice Bz C2 C1]∧Below w.heap.size w wz∧Bx wz (w.heap.size) 69 #[.int .i64 a.1,.int .i64 a.2,.int .i64 b.1,.int .i64 b.2]∧Bx wz (w.heap.size + 1) 24 #[.int .i64 q.1,.int .i64 q.2]∧Bx wz (w.heap.size + 1 + 1) 37 #[.bool false,.slice none 0 0,.slice none 0 0]∧Bx wz (w2.heap.size) 24 #[.int .i64 Bd.1,.int .i64 Bd.2]∧PV wz (.agg #[.bool C6,.slice C3 C5 C4,.slice Bz C2 C1]) (((Bl:Int):Rat)))
 case first=>
  refine bw (S:=fun w'=>w'.cell? ⟨w2.heap.size,0,none⟩=some (.int .i64 Bd.1)∧w'.cell? ⟨w2.heap.size,1,none⟩=some (.int .i64 Bd.2)∧w'.cell? ⟨w.heap.size + 1,0,none⟩=some (.int .i64 q.1)∧w'.cell? ⟨w.heap.size + 1,1,none⟩=some (.int .i64 q.2)∧w'.cell? ⟨w.heap.size,0,none⟩=some (.int .i64 a.1)∧w'.cell? ⟨w.heap.size,1,none⟩=some (.int .i64 a.2)∧w'.cell? ⟨w.heap.size,2,none⟩=some (.int .i64 b.1)∧w'.cell? ⟨w.heap.size,3,none⟩=some (.int .i64 b.2)) (by kernel_rfl) 8 ?_
  refine cq.abs ?_
  intro w8 hW
  have hb:Below w7.heap.size w7 w8:=by rw[hW];exact de _
  replace hs:=ar hs hb
  revert B2 B0 B1 Blk;refine mo hb ?_;intro B2 B0 B1 Blk
  clear hb hW
  refine B2.k2 fun B8 B9=>?_
  refine B1.k2 fun Bb Bc=>?_
  refine B0.k4 fun B4 B5 B6 B7=>?_
  have hH:=(show w8.cell? ⟨w2.heap.size,0,none⟩=some (.int .i64 Bd.1)∧w8.cell? ⟨w2.heap.size,1,none⟩=some (.int .i64 Bd.2)∧w8.cell? ⟨w.heap.size + 1,0,none⟩=some (.int .i64 q.1)∧w8.cell? ⟨w.heap.size + 1,1,none⟩=some (.int .i64 q.2)∧w8.cell? ⟨w.heap.size,0,none⟩=some (.int .i64 a.1)∧w8.cell? ⟨w.heap.size,1,none⟩=some (.int .i64 a.2)∧w8.cell? ⟨w.heap.size,2,none⟩=some (.int .i64 b.1)∧w8.cell? ⟨w.heap.size,3,none⟩=some (.int .i64 b.2) from ⟨B8,B9,Bb,Bc,B4,B5,B6,B7⟩)
  refine cz 0 ?_ ?_ hH ?_
  rotate_left
  ·(intro w Bh;(try dsimp only at Bh);go_simp;try with_reducible rfl)
  try simp only[LY]
  refine cz 1 ?_ ?_ hH ?_
  rotate_left
  ·(intro w Bh;(try dsimp only at Bh);go_simp;try with_reducible rfl)
  try simp only[LY]
  refine cz 2 ?_ ?_ hH ?_
  rotate_left
  ·(intro w Bh;(try dsimp only at Bh);go_simp;try with_reducible rfl)
  try simp only[LY]
  refine cz 3 ?_ ?_ hH ?_
  rotate_left
  ·(intro w Bh;(try dsimp only at Bh);go_simp;try with_reducible rfl)
  try simp only[LY]
  refine dq (i:=4) (j:=7) (by kernel_rfl) rfl rfl (fun K hK=>?_) (fun K hK=>?_)
  ·clear hH
   go_simp
   (with_reducible refine (qo q a _ hq ha C7.out).mono ?_)
   rintro e w9 ⟨rfl,hb⟩
   replace hs:=ar hs hb
   revert B2 B0 B1 Blk;refine mo hb ?_;intro B2 B0 B1 Blk
   replace B8:=ah B8 hb
   replace B9:=ah B9 hb
   replace Bb:=ah Bb hb
   replace Bc:=ah Bc hb
   replace B4:=ah B4 hb
   replace B5:=ah B5 hb
   replace B6:=ah B6 hb
   replace B7:=ah B7 hb
   clear hb
   try go_wp2_with fail
   refine hK.out _ _ ⟨B8,B9,Bb,Bc,B4,B5,B6,B7⟩ (fun hH=>?_)
   clear hK K
   try simp only[LY]
   refine dq (i:=5) (j:=7) (by kernel_rfl) rfl rfl (fun K hK=>?_) (fun K hK=>?_)
   ·clear hH
    go_simp
    (with_reducible refine (yj Bd Cu _ Bo Cs Cq.out).mono ?_)
    rintro e Bw ⟨rfl,hb⟩
    replace hs:=ar hs hb
    revert B2 B0 B1 Blk;refine mo hb ?_;intro B2 B0 B1 Blk
    replace B8:=ah B8 hb
    replace B9:=ah B9 hb
    replace Bb:=ah Bb hb
    replace Bc:=ah Bc hb
    replace B4:=ah B4 hb
    replace B5:=ah B5 hb
    replace B6:=ah B6 hb
    replace B7:=ah B7 hb
    clear hb
    try go_wp2_with fail
    refine hK.out _ _ ⟨B8,B9,Bb,Bc,B4,B5,B6,B7⟩ (fun hH=>?_)
    clear hK K
    try simp only[LY]
    refine dq (i:=6) (j:=7) (by kernel_rfl) rfl rfl (fun K hK=>?_) (fun K hK=>?_)
    ·clear hH
     go_simp
     (with_reducible refine (fh Bl _ (C8.mono (by decide))).mono ?_)
     rintro e Bs ⟨_,rfl,h8,hb⟩
     obtain⟨C6,C3,C5,C4,Bz,C2,C1,rfl⟩:=h8.shape
     replace hs:=ar hs hb
     revert Blk;revert B1;revert B0;revert B2;refine mo hb ?_;intro B2 B0 B1 Blk
     replace B8:=ah B8 hb
     replace B9:=ah B9 hb
     replace Bb:=ah Bb hb
     replace Bc:=ah Bc hb
     replace B4:=ah B4 hb
     replace B5:=ah B5 hb
     replace B6:=ah B6 hb
     replace B7:=ah B7 hb
     clear hb
     try go_wp2_with fail
     refine hK.out _ _ ⟨B8,B9,Bb,Bc,B4,B5,B6,B7⟩ (fun hH=>?_)
     clear hK K
     try simp only[LY]
     clear hH
     refine U_on 7 fun K hK=>?_
     go_simp
     generalize hWn:(Bs.alloc (.cells #[.bool false,.slice none 0 0,.slice none 0 0] 37))=Bj
     have hb:Below Bs.heap.size Bs Bj:=by rw[←hWn];exact (Below.refl _ _).alloc (ag _) _
     have B3:Bx Bj (Bs.heap.size) 37 #[.bool false,.slice none 0 0,.slice none 0 0]:=by rw[←hWn];exact Bx.new _ _ _
     have Da:w.heap.size≠Bs.heap.size:=by have:=B0.lt;omega
     have Dc:w.heap.size + 1≠Bs.heap.size:=by have:=B1.lt;omega
     have Db:w.heap.size + 1 + 1≠Bs.heap.size:=by have:=Blk.lt;omega
     have D9:w2.heap.size≠Bs.heap.size:=by have:=B2.lt;omega
     have Cr:=hs.size
     replace hs:=ar hs hb
     revert h8 B2 B0 B1 Blk;refine mo hb ?_;intro h8 B2 B0 B1 Blk
     replace B8:=ah B8 hb
     replace B9:=ah B9 hb
     replace Bb:=ah Bb hb
     replace Bc:=ah Bc hb
     replace B4:=ah B4 hb
     replace B5:=ah B5 hb
     replace B6:=ah B6 hb
     replace B7:=ah B7 hb
     clear hb hWn
     refine hK.out _ _ ⟨B8,B9,Bb,Bc,B4,B5,B6,B7⟩ (fun hH=>?_)
     clear hK K
     try simp only[LY]
     clear hH
     refine B3.k3fl fun D0 D1 D2 fc Lc=>?_
     refine dr (by kernel_rfl) rfl (by kernel_rfl) (fun K hK=>?_)
     go_simp
     refine hK.out _ _ ?_
     clear hK K
     intro By hW
     have hG:Gr [Bs.heap.size] Bj By:=by rw[hW];exact (Gr.refl _ _).set.set.set
     have Cc:=hs.size
     have lc:=B3.lt
     have hk:=hG.keep ⟨⟨_,B3.ty,by decide⟩,True.intro⟩
     have Ca:Bx By (Bs.heap.size) 37 #[.bool C6,.slice C3 C5 C4,.slice Bz C2 C1]:=by rw[hW];exact B3.set3
     replace hs:=hs.trans (hG.d1 hs.size)
     replace B0:=hG.b1 B0
     replace B1:=hG.b1 B1
     replace Blk:=hG.b1 Blk
     replace B2:=hG.b1 B2
     replace B3:=Ca
     clear Ca
     replace h8:=h8.keep hk
     clear hW hG hk Cc lc
     try simp only[LY]
     clear B8 B9 Bb Bc B4 B5 B6 B7
     go_wp2_with fail
     go_meet
     exact⟨Bs.heap.size,_,_,_,_,_,_,_,rfl,(by first|exact Cr|omega),(by omega),(by omega),(by omega),(by omega),B3,hs,B0,B1,Blk,B2,h8⟩
    clear hH
    go_simp
    generalize hWn:(Bw.alloc (.cells #[.bool false,.slice none 0 0,.slice none 0 0] 37))=Bs
    have hb:Below Bw.heap.size Bw Bs:=by rw[←hWn];exact (Below.refl _ _).alloc (ag _) _
    have B3:Bx Bs (Bw.heap.size) 37 #[.bool false,.slice none 0 0,.slice none 0 0]:=by rw[←hWn];exact Bx.new _ _ _
    have Da:w.heap.size≠Bw.heap.size:=by have:=B0.lt;omega
    have Dc:w.heap.size + 1≠Bw.heap.size:=by have:=B1.lt;omega
    have Db:w.heap.size + 1 + 1≠Bw.heap.size:=by have:=Blk.lt;omega
    have D9:w2.heap.size≠Bw.heap.size:=by have:=B2.lt;omega
    have Cr:=hs.size
    replace hs:=ar hs hb
    revert B2 B0 B1 Blk;refine mo hb ?_;intro B2 B0 B1 Blk
    replace B8:=ah B8 hb
    replace B9:=ah B9 hb
    replace Bb:=ah Bb hb
    replace Bc:=ah Bc hb
    replace B4:=ah B4 hb
    replace B5:=ah B5 hb
    replace B6:=ah B6 hb
    replace B7:=ah B7 hb
    clear hb hWn
    refine hK.out _ _ ⟨B8,B9,Bb,Bc,B4,B5,B6,B7⟩ (fun hH=>?_)
    clear hK K
    try simp only[LY]
    clear hH
    refine U_on 6 fun K hK=>?_
    go_simp
    (with_reducible refine (fh Bl _ (C8.mono (by decide))).mono ?_)
    rintro e Bj ⟨_,rfl,h8,hb⟩
    obtain⟨C6,C3,C5,C4,Bz,C2,C1,rfl⟩:=h8.shape
    replace hs:=ar hs hb
    revert Blk;revert B1;revert B0;revert B2;revert B3;refine mo hb ?_;intro B3 B2 B0 B1 Blk
    replace B8:=ah B8 hb
    replace B9:=ah B9 hb
    replace Bb:=ah Bb hb
    replace Bc:=ah Bc hb
    replace B4:=ah B4 hb
    replace B5:=ah B5 hb
    replace B6:=ah B6 hb
    replace B7:=ah B7 hb
    clear hb
    try go_wp2_with fail
    refine hK.out _ _ ⟨B8,B9,Bb,Bc,B4,B5,B6,B7⟩ (fun hH=>?_)
    clear hK K
    try simp only[LY]
    clear hH
    refine B3.k3fl fun D0 D1 D2 fc Lc=>?_
    refine dr (by kernel_rfl) rfl (by kernel_rfl) (fun K hK=>?_)
    go_simp
    refine hK.out _ _ ?_
    clear hK K
    intro By hW
    have hG:Gr [Bw.heap.size] Bj By:=by rw[hW];exact (Gr.refl _ _).set.set.set
    have Cc:=hs.size
    have lc:=B3.lt
    have hk:=hG.keep ⟨⟨_,B3.ty,by decide⟩,True.intro⟩
    have Ca:Bx By (Bw.heap.size) 37 #[.bool C6,.slice C3 C5 C4,.slice Bz C2 C1]:=by rw[hW];exact B3.set3
    replace hs:=hs.trans (hG.d1 hs.size)
    replace B0:=hG.b1 B0
    replace B1:=hG.b1 B1
    replace Blk:=hG.b1 Blk
    replace B2:=hG.b1 B2
    replace B3:=Ca
    clear Ca
    replace h8:=h8.keep hk
    clear hW hG hk Cc lc
    try simp only[LY]
    clear B8 B9 Bb Bc B4 B5 B6 B7
    go_wp2_with fail
    go_meet
    exact⟨Bw.heap.size,_,_,_,_,_,_,_,rfl,(by first|exact Cr|omega),(by omega),(by omega),(by omega),(by omega),B3,hs,B0,B1,Blk,B2,h8⟩
   clear hH
   go_simp
   generalize hWn:(w9.alloc (.cells #[.bool false,.slice none 0 0,.slice none 0 0] 37))=Bw
   have hb:Below w9.heap.size w9 Bw:=by rw[←hWn];exact (Below.refl _ _).alloc (ag _) _
   have B3:Bx Bw (w9.heap.size) 37 #[.bool false,.slice none 0 0,.slice none 0 0]:=by rw[←hWn];exact Bx.new _ _ _
   have Da:w.heap.size≠w9.heap.size:=by have:=B0.lt;omega
   have Dc:w.heap.size + 1≠w9.heap.size:=by have:=B1.lt;omega
   have Db:w.heap.size + 1 + 1≠w9.heap.size:=by have:=Blk.lt;omega
   have D9:w2.heap.size≠w9.heap.size:=by have:=B2.lt;omega
   have Cr:=hs.size
   replace hs:=ar hs hb
   revert B2 B0 B1 Blk;refine mo hb ?_;intro B2 B0 B1 Blk
   replace B8:=ah B8 hb
   replace B9:=ah B9 hb
   replace Bb:=ah Bb hb
   replace Bc:=ah Bc hb
   replace B4:=ah B4 hb
   replace B5:=ah B5 hb
   replace B6:=ah B6 hb
   replace B7:=ah B7 hb
   clear hb hWn
   refine hK.out _ _ ⟨B8,B9,Bb,Bc,B4,B5,B6,B7⟩ (fun hH=>?_)
   clear hK K
   try simp only[LY]
   clear hH
   refine U_on 5 fun K hK=>?_
   go_simp
   (with_reducible refine (yj Bd Cu _ Bo Cs Cq.out).mono ?_)
   rintro e Bs ⟨rfl,hb⟩
   replace hs:=ar hs hb
   revert B3 B2 B0 B1 Blk;refine mo hb ?_;intro B3 B2 B0 B1 Blk
   replace B8:=ah B8 hb
   replace B9:=ah B9 hb
   replace Bb:=ah Bb hb
   replace Bc:=ah Bc hb
   replace B4:=ah B4 hb
   replace B5:=ah B5 hb
   replace B6:=ah B6 hb
   replace B7:=ah B7 hb
   clear hb
   try go_wp2_with fail
   refine hK.out _ _ ⟨B8,B9,Bb,Bc,B4,B5,B6,B7⟩ (fun hH=>?_)
   clear hK K
   try simp only[LY]
   clear hH
   refine U_on 6 fun K hK=>?_
   go_simp
   (with_reducible refine (fh Bl _ (C8.mono (by decide))).mono ?_)
   rintro e Bj ⟨_,rfl,h8,hb⟩
   obtain⟨C6,C3,C5,C4,Bz,C2,C1,rfl⟩:=h8.shape
   replace hs:=ar hs hb
   revert Blk;revert B1;revert B0;revert B2;revert B3;refine mo hb ?_;intro B3 B2 B0 B1 Blk
   replace B8:=ah B8 hb
   replace B9:=ah B9 hb
   replace Bb:=ah Bb hb
   replace Bc:=ah Bc hb
   replace B4:=ah B4 hb
   replace B5:=ah B5 hb
   replace B6:=ah B6 hb
   replace B7:=ah B7 hb
   clear hb
   try go_wp2_with fail
   refine hK.out _ _ ⟨B8,B9,Bb,Bc,B4,B5,B6,B7⟩ (fun hH=>?_)
   clear hK K
   try simp only[LY]
   clear hH
   refine B3.k3fl fun D0 D1 D2 fc Lc=>?_
   refine dr (by kernel_rfl) rfl (by kernel_rfl) (fun K hK=>?_)
   go_simp
   refine hK.out _ _ ?_
   clear hK K
   intro By hW
   have hG:Gr [w9.heap.size] Bj By:=by rw[hW];exact (Gr.refl _ _).set.set.set
   have Cc:=hs.size
   have lc:=B3.lt
   have hk:=hG.keep ⟨⟨_,B3.ty,by decide⟩,True.intro⟩
   have Ca:Bx By (w9.heap.size) 37 #[.bool C6,.slice C3 C5 C4,.slice Bz C2 C1]:=by rw[hW];exact B3.set3
   replace hs:=hs.trans (hG.d1 hs.size)
   replace B0:=hG.b1 B0
   replace B1:=hG.b1 B1
   replace Blk:=hG.b1 Blk
   replace B2:=hG.b1 B2
   replace B3:=Ca
   clear Ca
   replace h8:=h8.keep hk
   clear hW hG hk Cc lc
   try simp only[LY]
   clear B8 B9 Bb Bc B4 B5 B6 B7
   go_wp2_with fail
   go_meet
   exact⟨w9.heap.size,_,_,_,_,_,_,_,rfl,(by first|exact Cr|omega),(by omega),(by omega),(by omega),(by omega),B3,hs,B0,B1,Blk,B2,h8⟩
  clear hH
  go_simp
  generalize hWn:(w8.alloc (.cells #[.bool false,.slice none 0 0,.slice none 0 0] 37))=w9
  have hb:Below w8.heap.size w8 w9:=by rw[←hWn];exact (Below.refl _ _).alloc (ag _) _
  have B3:Bx w9 (w8.heap.size) 37 #[.bool false,.slice none 0 0,.slice none 0 0]:=by rw[←hWn];exact Bx.new _ _ _
  have Da:w.heap.size≠w8.heap.size:=by have:=B0.lt;omega
  have Dc:w.heap.size + 1≠w8.heap.size:=by have:=B1.lt;omega
  have Db:w.heap.size + 1 + 1≠w8.heap.size:=by have:=Blk.lt;omega
  have D9:w2.heap.size≠w8.heap.size:=by have:=B2.lt;omega
  have Cr:=hs.size
  replace hs:=ar hs hb
  revert B2 B0 B1 Blk;refine mo hb ?_;intro B2 B0 B1 Blk
  replace B8:=ah B8 hb
  replace B9:=ah B9 hb
  replace Bb:=ah Bb hb
  replace Bc:=ah Bc hb
  replace B4:=ah B4 hb
  replace B5:=ah B5 hb
  replace B6:=ah B6 hb
  replace B7:=ah B7 hb
  clear hb hWn
  refine hK.out _ _ ⟨B8,B9,Bb,Bc,B4,B5,B6,B7⟩ (fun hH=>?_)
  clear hK K
  try simp only[LY]
  clear hH
  refine U_on 4 fun K hK=>?_
  go_simp
  (with_reducible refine (qo q a _ hq ha C7.out).mono ?_)
  rintro e Bw ⟨rfl,hb⟩
  replace hs:=ar hs hb
  revert B3 B2 B0 B1 Blk;refine mo hb ?_;intro B3 B2 B0 B1 Blk
  replace B8:=ah B8 hb
  replace B9:=ah B9 hb
  replace Bb:=ah Bb hb
  replace Bc:=ah Bc hb
  replace B4:=ah B4 hb
  replace B5:=ah B5 hb
  replace B6:=ah B6 hb
  replace B7:=ah B7 hb
  clear hb
  try go_wp2_with fail
  refine hK.out _ _ ⟨B8,B9,Bb,Bc,B4,B5,B6,B7⟩ (fun hH=>?_)
  clear hK K
  try simp only[LY]
  clear hH
  refine U_on 5 fun K hK=>?_
  go_simp
  (with_reducible refine (yj Bd Cu _ Bo Cs Cq.out).mono ?_)
  rintro e Bs ⟨rfl,hb⟩
  replace hs:=ar hs hb
  revert B3 B2 B0 B1 Blk;refine mo hb ?_;intro B3 B2 B0 B1 Blk
  replace B8:=ah B8 hb
  replace B9:=ah B9 hb
  replace Bb:=ah Bb hb
  replace Bc:=ah Bc hb
  replace B4:=ah B4 hb
  replace B5:=ah B5 hb
  replace B6:=ah B6 hb
  replace B7:=ah B7 hb
  clear hb
  try go_wp2_with fail
  refine hK.out _ _ ⟨B8,B9,Bb,Bc,B4,B5,B6,B7⟩ (fun hH=>?_)
  clear hK K
  try simp only[LY]
  clear hH
  refine U_on 6 fun K hK=>?_
  go_simp
  (with_reducible refine (fh Bl _ (C8.mono (by decide))).mono ?_)
  rintro e Bj ⟨_,rfl,h8,hb⟩
  obtain⟨C6,C3,C5,C4,Bz,C2,C1,rfl⟩:=h8.shape
  replace hs:=ar hs hb
  revert Blk;revert B1;revert B0;revert B2;revert B3;refine mo hb ?_;intro B3 B2 B0 B1 Blk
  replace B8:=ah B8 hb
  replace B9:=ah B9 hb
  replace Bb:=ah Bb hb
  replace Bc:=ah Bc hb
  replace B4:=ah B4 hb
  replace B5:=ah B5 hb
  replace B6:=ah B6 hb
  replace B7:=ah B7 hb
  clear hb
  try go_wp2_with fail
  refine hK.out _ _ ⟨B8,B9,Bb,Bc,B4,B5,B6,B7⟩ (fun hH=>?_)
  clear hK K
  try simp only[LY]
  clear hH
  refine B3.k3fl fun D0 D1 D2 fc Lc=>?_
  refine dr (by kernel_rfl) rfl (by kernel_rfl) (fun K hK=>?_)
  go_simp
  refine hK.out _ _ ?_
  clear hK K
  intro By hW
  have hG:Gr [w8.heap.size] Bj By:=by rw[hW];exact (Gr.refl _ _).set.set.set
  have Cc:=hs.size
  have lc:=B3.lt
  have hk:=hG.keep ⟨⟨_,B3.ty,by decide⟩,True.intro⟩
  have Ca:Bx By (w8.heap.size) 37 #[.bool C6,.slice C3 C5 C4,.slice Bz C2 C1]:=by rw[hW];exact B3.set3
  replace hs:=hs.trans (hG.d1 hs.size)
  replace B0:=hG.b1 B0
  replace B1:=hG.b1 B1
  replace Blk:=hG.b1 Blk
  replace B2:=hG.b1 B2
  replace B3:=Ca
  clear Ca
  replace h8:=h8.keep hk
  clear hW hG hk Cc lc
  try simp only[LY]
  clear B8 B9 Bb Bc B4 B5 B6 B7
  go_wp2_with fail
  go_meet
  exact⟨w8.heap.size,_,_,_,_,_,_,_,rfl,(by first|exact Cr|omega),(by omega),(by omega),(by omega),(by omega),B3,hs,B0,B1,Blk,B2,h8⟩
 case rest=>
  clear hs B0 B1 Blk B2
  obtain⟨gc,C6,C3,C5,C4,Bz,C2,C1,rfl,hg_c,ng_c_e,ng_c_q,ng_c_k,ng_c_d,B3,hs,B0,B1,Blk,B2,h8⟩:=hcut
  go_upto_region 9 with fail
  go_cut [9,10] (fun kv0 kx0 wz=>∃gx Ck Ch Cj Ci Ce Cg Cf,kv0=.pointer (some ⟨gx,0,none⟩)∧kx0=.int .i64 0∧w.heap.size≤gx∧gx≠w.heap.size∧gx≠(w.heap.size + 1)∧gx≠(w.heap.size + 1 + 1)∧gx≠w2.heap.size∧gx≠gc∧Bx wz gx 37 #[.bool Ck,.slice Ch Cj Ci,.slice Ce Cg Cf]∧Below w.heap.size w wz∧Bx wz (w.heap.size) 69 #[.int .i64 a.1,.int .i64 a.2,.int .i64 b.1,.int .i64 b.2]∧Bx wz (w.heap.size + 1) 24 #[.int .i64 q.1,.int .i64 q.2]∧Bx wz (w.heap.size + 1 + 1) 37 #[.bool false,.slice none 0 0,.slice none 0 0]∧Bx wz (w2.heap.size) 24 #[.int .i64 Bd.1,.int .i64 Bd.2]∧Bx wz (gc) 37 #[.bool C6,.slice C3 C5 C4,.slice Bz C2 C1]∧PV wz (.agg #[.bool C6,.slice C3 C5 C4,.slice Bz C2 C1]) (((Bl:Int):Rat))∧PV wz (.agg #[.bool Ck,.slice Ch Cj Ci,.slice Ce Cg Cf]) (((((Bl:Int):Rat)) * (((Bl:Int):Rat))) / ((Bq:Int):Rat)))
  case first=>
   refine bw (S:=fun w'=>w'.cell? ⟨gc,0,none⟩=some (.bool C6)∧w'.cell? ⟨gc,1,none⟩=some (.slice C3 C5 C4)∧w'.cell? ⟨gc,2,none⟩=some (.slice Bz C2 C1)∧w'.cell? ⟨w2.heap.size,0,none⟩=some (.int .i64 Bd.1)∧w'.cell? ⟨w2.heap.size,1,none⟩=some (.int .i64 Bd.2)) (by kernel_rfl) 13 ?_
   refine cq.abs ?_
   intro w8 hW
   have hb:Below wc.heap.size wc w8:=by rw[hW];exact de _
   replace hs:=ar hs hb
   revert h8;revert B2;revert Blk;revert B1;revert B0;revert B3;refine mo hb ?_;intro B3 B0 B1 Blk B2 h8
   clear hb hW
   obtain⟨FP,HP⟩:∃FP:World→Prop,∀W,FP W↔(Below w.heap.size w W∧Bx W (w.heap.size) 69 #[.int .i64 a.1,.int .i64 a.2,.int .i64 b.1,.int .i64 b.2]∧Bx W (w.heap.size + 1) 24 #[.int .i64 q.1,.int .i64 q.2]∧Bx W (w.heap.size + 1 + 1) 37 #[.bool false,.slice none 0 0,.slice none 0 0]∧Bx W (w2.heap.size) 24 #[.int .i64 Bd.1,.int .i64 Bd.2]∧Bx W (gc) 37 #[.bool C6,.slice C3 C5 C4,.slice Bz C2 C1]∧PV W (.agg #[.bool C6,.slice C3 C5 C4,.slice Bz C2 C1]) (((Bl:Int):Rat))):=⟨_,fun _=>Iff.rfl⟩
   have HM:∀W W',FP W→Below W.heap.size W W'→FP W':=by intro W W' h hb;obtain⟨hs,B0,B1,Blk,B2,B3,h8⟩:=(HP _).1 h;exact (HP _).2 ⟨ar hs hb,B0.mono hb,B1.mono hb,Blk.mono hb,B2.mono hb,B3.mono hb,h8.mono hb⟩
   have HC:∀W,FP W→W.cell? ⟨gc,0,none⟩=some (.bool C6)∧W.cell? ⟨gc,1,none⟩=some (.slice C3 C5 C4)∧W.cell? ⟨gc,2,none⟩=some (.slice Bz C2 C1)∧W.cell? ⟨w2.heap.size,0,none⟩=some (.int .i64 Bd.1)∧W.cell? ⟨w2.heap.size,1,none⟩=some (.int .i64 Bd.2):=by intro W h;obtain⟨hs,B0,B1,Blk,B2,B3,h8⟩:=(HP _).1 h;exact⟨B3.at 0 rfl,B3.at 1 rfl,B3.at 2 rfl,B2.at 0 rfl,B2.at 1 rfl⟩
   obtain⟨NE,HN⟩:∃NE:Nat→Prop,∀g,NE g↔(w.heap.size≠g∧(w.heap.size + 1)≠g∧(w.heap.size + 1 + 1)≠g∧w2.heap.size≠g∧gc≠g):=⟨_,fun _=>Iff.rfl⟩
   have HE:∀W,FP W→NE W.heap.size:=by intro W h;obtain⟨hs,B0,B1,Blk,B2,B3,h8⟩:=(HP _).1 h;exact (HN _).2 (⟨Nat.ne_of_lt B0.lt,Nat.ne_of_lt B1.lt,Nat.ne_of_lt Blk.lt,Nat.ne_of_lt B2.lt,Nat.ne_of_lt B3.lt⟩)
   have HG:∀W W' g,FP W→Gr [g] W W'→aw W W'→w.heap.size≤g→NE g→FP W':=by intro W W' g h hG hk hg hn;obtain⟨hs,B0,B1,Blk,B2,B3,h8⟩:=(HP _).1 h;obtain⟨e_e,e_q,e_k,e_d,e_c⟩:=(HN g).1 hn;exact (HP _).2 ⟨hs.trans (hG.below1 hs.size hg),hG.bx B0 (az e_e),hG.bx B1 (az e_q),hG.bx Blk (az e_k),hG.bx B2 (az e_d),hG.bx B3 (az e_c),h8.keep hk⟩
   have F:FP w8:=(HP _).2 ⟨hs,B0,B1,Blk,B2,B3,h8⟩
   clear hs B0 B1 Blk B2 B3 h8
   have hH:=HC _ F
   refine U_td 0 48 hH ?_
   refine U_td 1 49 hH ?_
   refine U_td 3 51 hH ?_
   refine U_td 4 52 hH ?_
   clear hH
   refine ks ?_
   intro X a0 HX HA
   have Cz:∀(W:World) (Be:Nat) (Bf:Value) (Bk:Value) (Br:Value),FP W→(w.heap.size≤Be)→(NE Be)→(Bx W Be 37 #[.bool false,.slice none 0 0,.slice none 0 0])→(PV W Br (((((Bl:Int):Rat)) * (((Bl:Int):Rat))) / ((Bq:Int):Rat)))→X 2 (LB 14 4095) ((((((((a0.put (some 50) (Bf)).put (some 53) (.int .i64 Bq)).put (some 54) (Bk)).put (some 55) (.tuple #[Br,.int .i64 0])).put (some 47) (.tuple #[Br,.int .i64 0])).put (some 56) (Br)).put (some 57) (.int .i64 0)).put (some 9) (.pointer (some ⟨Be,0,none⟩))) W:=by
    intro W Be Bf Bk Br F Bn Bm Bg C9
    rw[←HX.out,←HA.out]
    try simp only[LY]
    obtain⟨Ck,Ch,Cj,Ci,Ce,Cg,Cf,rfl⟩:=C9.shape
    refine Bg.k3fl fun Dd De Df fx Lx=>?_
    refine U_on 12 fun K hK=>?_
    go_simp
    generalize hW_:(((W.setCell ⟨Be,0,none⟩ (.bool Ck)).setCell ⟨Be,1,none⟩ (.slice Ch Cj Ci)).setCell ⟨Be,2,none⟩ (.slice Ce Cg Cf))=w9
    have hW:=hW_.symm
    clear hW_
    have hG:Gr [Be] W w9:=by rw[hW];exact (Gr.refl _ _).set.set.set
    have hk:=hG.keep ⟨⟨_,Bg.ty,by decide⟩,True.intro⟩
    replace Bg:Bx w9 (Be) 37 #[.bool Ck,.slice Ch Cj Ci,.slice Ce Cg Cf]:=by rw[hW];exact Bg.set3
    replace F:=HG _ _ _ F hG hk Bn Bm
    replace C9:=C9.keep hk
    clear hW hG hk
    refine hK.out _ _ (HC _ F) (fun hH=>?_)
    clear hK K
    try simp only[LY]
    clear hH
    obtain⟨hs,B0,B1,Blk,B2,B3,h8⟩:=(HP _).1 F
    refine dr (by kernel_rfl) rfl (by kernel_rfl) (fun K hK=>?_)
    go_simp
    refine hK.out _ _ ?_
    clear hK K
    intro wl hW
    rw[hW]
    clear hW wl
    try simp only[LY]
    obtain⟨e_e_x,e_q_x,e_k_x,e_d_x,e_c_x⟩:=(HN _).1 Bm
    clear HX HA HM HP HC HG HN HE
    go_wp2_with fail
    go_meet
    exact⟨Be,_,_,_,_,_,_,_,rfl,rfl,(by first|exact Bn|omega),(by omega),(by omega),(by omega),(by omega),(by omega),Bg,hs,B0,B1,Blk,B2,B3,h8,C9⟩
   replace Cz:=ae Cz
   have Cy:∀(W:World) (Be:Nat) (Bf:Value) (Bk:Value),FP W→(w.heap.size≤Be)→(NE Be)→(Bx W Be 37 #[.bool false,.slice none 0 0,.slice none 0 0])→(PV W Bf ((((Bl:Int):Rat)) * (((Bl:Int):Rat))))→(PV W Bk (((Bq:Int):Rat)))→X 6 (LB 14 2175) ((((a0.put (some 50) (Bf)).put (some 53) (.int .i64 Bq)).put (some 54) (Bk)).put (some 9) (.pointer (some ⟨Be,0,none⟩))) W:=by
    intro W Be Bf Bk F Bn Bm Bg h9 Cd
    rw[←HX.out,←HA.out]
    try simp only[LY]
    refine U_on 7 fun K hK=>?_
    obtain⟨hs,B0,B1,Blk,B2,B3,h8⟩:=(HP _).1 F
    go_simp
    (with_reducible refine (pDiv h9 Cd (SzQ.fit (SzQ.mul (qj (C8.mono (by decide))) (qj (C8.mono (by decide))))) (SzQ.fit (qj (Cv.mono (by decide)))) (fun e=>absurd (Rat.intCast_eq_zero_iff.1 e) (show ¬ Bq=0 from by omega))).mono ?_)
    rintro e W1 ⟨Br,rfl,C9,hb⟩
    replace F:=HM _ _ F hb
    revert Bg h9 Cd;refine mo hb ?_;intro Bg h9 Cd
    clear hb hs B0 B1 Blk B2 B3 h8
    try go_wp2_with fail
    refine hK.out _ _ (HC _ F) (fun hH=>?_)
    clear hK K
    try simp only[LY]
    refine U_td 8 47 hH ?_
    refine U_td 9 56 hH ?_
    refine U_td 10 57 hH ?_
    exact bf HX HA (Cz.out W1 Be Bf Bk Br F Bn Bm Bg C9)
   replace Cy:=ae Cy
   have D8:∀(W:World) (Bf:Value) (Bk:Value) (Br:Value),FP W→(PV W Br (((((Bl:Int):Rat)) * (((Bl:Int):Rat))) / ((Bq:Int):Rat)))→X 3 (LB 14 2047) (((((((a0.put (some 50) (Bf)).put (some 53) (.int .i64 Bq)).put (some 54) (Bk)).put (some 55) (.tuple #[Br,.int .i64 0])).put (some 47) (.tuple #[Br,.int .i64 0])).put (some 56) (Br)).put (some 57) (.int .i64 0)) W:=by
    intro W Bf Bk Br F C9
    rw[←HX.out,←HA.out]
    try simp only[LY]
    refine U_on 11 fun K hK=>?_
    go_simp
    refine aq ((HP _).1 F).1 (fun W1 hb Bg Bn=>?_)
    have Bm:=HE _ F
    replace F:=HM _ _ F hb
    replace C9:=C9.mono hb
    clear hb
    exact hK.out _ _ (HC _ F) fun _=>bf HX HA (Cz.out W1 W.heap.size Bf Bk Br F Bn Bm Bg C9)
   replace D8:=ae D8
   have Cx:∀(W:World) (Be:Nat) (Bf:Value),FP W→(w.heap.size≤Be)→(NE Be)→(Bx W Be 37 #[.bool false,.slice none 0 0,.slice none 0 0])→(PV W Bf ((((Bl:Int):Rat)) * (((Bl:Int):Rat))))→X 7 (LB 14 2111) (((a0.put (some 50) (Bf)).put (some 53) (.int .i64 Bq)).put (some 9) (.pointer (some ⟨Be,0,none⟩))) W:=by
    intro W Be Bf F Bn Bm Bg h9
    rw[←HX.out,←HA.out]
    try simp only[LY]
    refine U_on 6 fun K hK=>?_
    obtain⟨hs,B0,B1,Blk,B2,B3,h8⟩:=(HP _).1 F
    go_simp
    (with_reducible refine (fh Bq _ (Cv.mono (by decide))).mono ?_)
    rintro e W1 ⟨Bk,rfl,Cd,hb⟩
    replace F:=HM _ _ F hb
    revert Bg h9;refine mo hb ?_;intro Bg h9
    clear hb hs B0 B1 Blk B2 B3 h8
    try go_wp2_with fail
    exact hK.out _ _ (HC _ F) fun _=>bf HX HA (Cy.out W1 Be Bf Bk F Bn Bm Bg h9 Cd)
   replace Cx:=ae Cx
   have D7:∀(W:World) (Bf:Value) (Bk:Value),FP W→(PV W Bf ((((Bl:Int):Rat)) * (((Bl:Int):Rat))))→(PV W Bk (((Bq:Int):Rat)))→X 7 (LB 14 127) (((a0.put (some 50) (Bf)).put (some 53) (.int .i64 Bq)).put (some 54) (Bk)) W:=by
    intro W Bf Bk F h9 Cd
    rw[←HX.out,←HA.out]
    try simp only[LY]
    refine dq (i:=7) (j:=11) (by kernel_rfl) rfl rfl  (fun K hK=>?_) (fun K hK=>?_)
    ·obtain⟨hs,B0,B1,Blk,B2,B3,h8⟩:=(HP _).1 F
     go_simp
     (with_reducible refine (pDiv h9 Cd (SzQ.fit (SzQ.mul (qj (C8.mono (by decide))) (qj (C8.mono (by decide))))) (SzQ.fit (qj (Cv.mono (by decide)))) (fun e=>absurd (Rat.intCast_eq_zero_iff.1 e) (show ¬ Bq=0 from by omega))).mono ?_)
     rintro e W1 ⟨Br,rfl,C9,hb⟩
     replace F:=HM _ _ F hb
     revert h9 Cd;refine mo hb ?_;intro h9 Cd
     clear hb hs B0 B1 Blk B2 B3 h8
     try go_wp2_with fail
     refine hK.out _ _ (HC _ F) (fun hH=>?_)
     clear hK K
     try simp only[LY]
     refine U_td 8 47 hH ?_
     refine U_td 9 56 hH ?_
     refine U_td 10 57 hH ?_
     exact bf HX HA (D8.out W1 Bf Bk Br F C9)
    go_simp
    refine aq ((HP _).1 F).1 (fun W1 hb Bg Bn=>?_)
    have Bm:=HE _ F
    replace F:=HM _ _ F hb
    revert h9 Cd;refine mo hb ?_;intro h9 Cd
    clear hb
    exact hK.out _ _ (HC _ F) fun _=>bf HX HA (Cy.out W1 W.heap.size Bf Bk F Bn Bm Bg h9 Cd)
   replace D7:=ae D7
   have Cw:∀(W:World) (Be:Nat) (Bf:Value),FP W→(w.heap.size≤Be)→(NE Be)→(Bx W Be 37 #[.bool false,.slice none 0 0,.slice none 0 0])→(PV W Bf ((((Bl:Int):Rat)) * (((Bl:Int):Rat))))→X 8 (LB 14 2079) ((a0.put (some 50) (Bf)).put (some 9) (.pointer (some ⟨Be,0,none⟩))) W:=by
    intro W Be Bf F Bn Bm Bg h9
    rw[←HX.out,←HA.out]
    try simp only[LY]
    refine U_on 5 fun K hK=>?_
    obtain⟨hs,B0,B1,Blk,B2,B3,h8⟩:=(HP _).1 F
    go_simp
    (with_reducible refine (wv Bd Bd _ Bo Bo Cm.out).mono ?_)
    rintro e W1 ⟨rfl,hb⟩
    replace F:=HM _ _ F hb
    revert Bg h9;refine mo hb ?_;intro Bg h9
    clear hb hs B0 B1 Blk B2 B3 h8
    try go_wp2_with fail
    exact hK.out _ _ (HC _ F) fun _=>bf HX HA (Cx.out W1 Be Bf F Bn Bm Bg h9)
   replace Cw:=ae Cw
   have D6:∀(W:World) (Bf:Value),FP W→(PV W Bf ((((Bl:Int):Rat)) * (((Bl:Int):Rat))))→X 8 (LB 14 63) ((a0.put (some 50) (Bf)).put (some 53) (.int .i64 Bq)) W:=by
    intro W Bf F h9
    rw[←HX.out,←HA.out]
    try simp only[LY]
    refine dq (i:=6) (j:=11) (by kernel_rfl) rfl rfl  (fun K hK=>?_) (fun K hK=>?_)
    ·obtain⟨hs,B0,B1,Blk,B2,B3,h8⟩:=(HP _).1 F
     go_simp
     (with_reducible refine (fh Bq _ (Cv.mono (by decide))).mono ?_)
     rintro e W1 ⟨Bk,rfl,Cd,hb⟩
     replace F:=HM _ _ F hb
     replace h9:=h9.mono hb
     clear hb hs B0 B1 Blk B2 B3 h8
     try go_wp2_with fail
     exact hK.out _ _ (HC _ F) fun _=>bf HX HA (D7.out W1 Bf Bk F h9 Cd)
    go_simp
    refine aq ((HP _).1 F).1 (fun W1 hb Bg Bn=>?_)
    have Bm:=HE _ F
    replace F:=HM _ _ F hb
    replace h9:=h9.mono hb
    clear hb
    exact hK.out _ _ (HC _ F) fun _=>bf HX HA (Cx.out W1 W.heap.size Bf F Bn Bm Bg h9)
   replace D6:=ae D6
   have D5:∀(W:World) (Be:Nat),FP W→(w.heap.size≤Be)→(NE Be)→(Bx W Be 37 #[.bool false,.slice none 0 0,.slice none 0 0])→X 9 (LB 14 2075) (a0.put (some 9) (.pointer (some ⟨Be,0,none⟩))) W:=by
    intro W Be F Bn Bm Bg
    rw[←HX.out,←HA.out]
    try simp only[LY]
    refine U_on 2 fun K hK=>?_
    obtain⟨hs,B0,B1,Blk,B2,B3,h8⟩:=(HP _).1 F
    go_simp
    (with_reducible refine (pMul h8 h8 (SzQ.fit (qj (C8.mono (by decide)))) (SzQ.fit (qj (C8.mono (by decide))))).mono ?_)
    rintro e W1 ⟨Bf,rfl,h9,hb⟩
    replace F:=HM _ _ F hb
    replace Bg:=Bg.mono hb
    clear hb hs B0 B1 Blk B2 B3 h8
    try go_wp2_with fail
    exact hK.out _ _ (HC _ F) fun _=>bf HX HA (Cw.out W1 Be Bf F Bn Bm Bg h9)
   replace D5:=ae D5
   have D4:∀(W:World) (Bf:Value),FP W→(PV W Bf ((((Bl:Int):Rat)) * (((Bl:Int):Rat))))→X 9 (LB 14 31) (a0.put (some 50) (Bf)) W:=by
    intro W Bf F h9
    rw[←HX.out,←HA.out]
    try simp only[LY]
    refine dq (i:=5) (j:=11) (by kernel_rfl) rfl rfl  (fun K hK=>?_) (fun K hK=>?_)
    ·obtain⟨hs,B0,B1,Blk,B2,B3,h8⟩:=(HP _).1 F
     go_simp
     (with_reducible refine (wv Bd Bd _ Bo Bo Cm.out).mono ?_)
     rintro e W1 ⟨rfl,hb⟩
     replace F:=HM _ _ F hb
     replace h9:=h9.mono hb
     clear hb hs B0 B1 Blk B2 B3 h8
     try go_wp2_with fail
     exact hK.out _ _ (HC _ F) fun _=>bf HX HA (D6.out W1 Bf F h9)
    go_simp
    refine aq ((HP _).1 F).1 (fun W1 hb Bg Bn=>?_)
    have Bm:=HE _ F
    replace F:=HM _ _ F hb
    replace h9:=h9.mono hb
    clear hb
    exact hK.out _ _ (HC _ F) fun _=>bf HX HA (Cw.out W1 W.heap.size Bf F Bn Bm Bg h9)
   replace D4:=ae D4
   have D3:∀(W:World),FP W→X 10 (LB 14 27) a0 W:=by
    intro W F
    rw[←HX.out,←HA.out]
    try simp only[LY]
    refine dq (i:=2) (j:=11) (by kernel_rfl) rfl rfl  (fun K hK=>?_) (fun K hK=>?_)
    ·obtain⟨hs,B0,B1,Blk,B2,B3,h8⟩:=(HP _).1 F
     go_simp
     (with_reducible refine (pMul h8 h8 (SzQ.fit (qj (C8.mono (by decide)))) (SzQ.fit (qj (C8.mono (by decide))))).mono ?_)
     rintro e W1 ⟨Bf,rfl,h9,hb⟩
     replace F:=HM _ _ F hb
     clear hb hs B0 B1 Blk B2 B3 h8
     try go_wp2_with fail
     exact hK.out _ _ (HC _ F) fun _=>bf HX HA (D4.out W1 Bf F h9)
    go_simp
    refine aq ((HP _).1 F).1 (fun W1 hb Bg Bn=>?_)
    have Bm:=HE _ F
    replace F:=HM _ _ F hb
    clear hb
    exact hK.out _ _ (HC _ F) fun _=>bf HX HA (D5.out W1 W.heap.size F Bn Bm Bg)
   replace D3:=ae D3
   rw[←HX.out]
   have Ba:=D3.out w8 F
   rw[←HX.out] at Ba
   exact U_at (by kernel_rfl) (by kernel_rfl) Ba
  case rest=>
   clear hs B0 B1 Blk B2 B3 h8
   obtain⟨gx,Ck,Ch,Cj,Ci,Ce,Cg,Cf,rfl,rfl,hg_x,ng_x_e,ng_x_q,ng_x_k,ng_x_d,ng_x_c,Bg,hs,B0,B1,Blk,B2,B3,h8,C9⟩:=hcut
   refine Bg.k3l fun Dd De Df Lx=>?_
   refine Blk.k3fl fun Bt Bu Bv fk Lk=>?_
   go_wp2
   clear Dd De Df Bt Bu Bv fk Lx Lk
   refine bodyPost.abs ?_
   intro w8 hW
   have hG:Gr [w.heap.size + 1 + 1] wc w8:=by rw[hW];exact (Gr.refl _ _).set.set.set
   have Cc:=hs.size
   have lk:=Blk.lt
   have hk:=hG.keep ⟨⟨_,Blk.ty,by decide⟩,True.intro⟩
   have Cb:Bx w8 (w.heap.size + 1 + 1) 37 #[.bool Ck,.slice Ch Cj Ci,.slice Ce Cg Cf]:=by rw[hW];exact Blk.set3
   replace hs:=hs.trans (hG.d1 hs.size)
   replace B0:=hG.b1 B0
   replace B1:=hG.b1 B1
   replace B2:=hG.b1 B2
   replace B3:=hG.b1 B3
   replace Bg:=hG.b1 Bg
   replace Blk:=Cb
   clear Cb
   revert C9;revert h8;refine ke hk ?_;intro h8 C9
   clear hW hG hk Cc lk
   refine Blk.k3 fun Bt Bu Bv=>?_
   exact bodyPost_ret (v:=.agg #[.bool Ck,.slice Ch Cj Ci,.slice Ce Cg Cf]) (by simp[results,Tryz.results69,go_sem,Bt,Bu,Bv]) rfl ⟨_,rfl,C9.of_eq (show _=dsQ a b q from by rw[dq_3 (show ¬ dtZ (mnZ q a) (mnZ b a)≤0 from by rw[←show Cn=dtZ (mnZ q a) (mnZ b a) from by rw[Cl.out,C7.out,Bp.out]];omega) (show ¬ dtZ (mnZ b a) (mnZ b a)≤dtZ (mnZ q a) (mnZ b a) from by rw[←show Bq=dtZ (mnZ b a) (mnZ b a) from by rw[Cm.out,Bp.out],←show Cn=dtZ (mnZ q a) (mnZ b a) from by rw[Cl.out,C7.out,Bp.out]];omega),show Bl=crZ (mnZ b a) (mnZ q a) from by rw[Cq.out,Bp.out,C7.out],show Bq=dtZ (mnZ b a) (mnZ b a) from by rw[Cm.out,Bp.out]]),hs⟩
end Go.Proofs.YtidmjdmmpajooaaGreat
