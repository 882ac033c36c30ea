/-
  plane: common, Common of two good polygons; law 02: square, the sample that each law asks first (awake).
-/
import Derived.Test.YtidmjdmmpajooaaGreatPlKN
import Derived.Test.YtidmjdmmpajooaaGreatPkV2N
import Derived.Test.YtidmjdmmpajooaaGreatPkV27N
import Derived.Deep.Strs
set_option linter.unusedSimpArgs false
set_option linter.unusedVariables false
set_option maxRecDepth 100000
set_option maxHeartbeats 4000000
namespace Go.Proofs.YtidmjdmmpajooaaGreat
open Go.RowKit Dg
attribute [local go_sem ↓] Go.wp_at_zero Go.wp_at_succ
theorem pts_of {w:World} {g:Nat} {T:TypeId} {cs:Array Value} {l:List Pt} (h:Bx w g T cs) (e:cs.toList=(l.map fun p=>[Value.int .i64 p.1,Value.int .i64 p.2]).flatten) (hn:l.length≤9223372036854775807) {n:Nat} (hl:n=l.length):Pts w (.slice (some ⟨g,0,none⟩) n n) l:=by
 subst hl
 refine⟨_,l.length,rfl,ag _,hn,(fun e=>by cases e),fun i x hx=>⟨g,0,[.int .i64 x.1,.int .i64 x.2],rfl,rfl,fun j u hu=>?_,rfl⟩⟩
 have hj:j < 2:=(List.getElem?_eq_some_iff.1 hu).1
 have h1:=js (size:=2) (l.map fun p=>[Value.int .i64 p.1,Value.int .i64 p.2]) (fun cs hc=>by obtain⟨p,_,rfl⟩:=List.mem_map.1 hc;rfl) i j [.int .i64 x.1,.int .i64 x.2] (by rw[List.getElem?_map,hx];rfl) hj
 rw[←e,hu] at h1
 rw[Nat.zero_add]
 exact h.at _ (by rw[←Array.getElem?_toList];exact h1)
theorem two_rows {w:World} {g:Nat} {T:TypeId} {va vb:Value} {l m:List Pt} (h:Bx w g T #[va,vb]) (hl:Pts w va l) (hm:Pts w vb m):be 1 (LRI 2 IP) w (.slice (some ⟨g,0,none⟩) 2 2) [l,m]:=by
 refine⟨_,2,rfl,ag _,by decide,(fun e=>by cases e),fun i x hx=>?_⟩
 match i,hx with
 | 0,hx=>
  cases hx
  exact⟨g,0,[va],rfl,rfl,fun j u hu=>by match j,hu with|0,hu=>cases hu;exact h.at 0 rfl,_,rfl,hl⟩
 | 1,hx=>
  cases hx
  exact⟨g,0,[vb],rfl,rfl,fun j u hu=>by match j,hu with|0,hu=>cases hu;exact h.at 1 rfl,_,rfl,hm⟩
theorem tw_sz {l:List Pt} (h:fl l=0):SzQ 4 (up ((twZ l:Int):Rat)):=by
 have hb:=tw_bd (l:=l) (by have:=(kg h).1;omega) (kg h).2.2
 have h1:SzQ 4 ((twZ l:Int):Rat):=(qj (hb.mono (by decide))).mono (by decide)
 have h2:SzQ 4 (((-twZ l):Int):Rat):=(qj (n:= -twZ l) (Wn.lit (B:=9223372036854775807) (by have:=hb.2;omega) (by have:=hb.1;omega))).mono (by decide)
 unfold up
 split
 ·rw[show -((twZ l:Int):Rat)=(((-twZ l):Int):Rat) from (Rat.intCast_neg _).symm];exact h2
 exact h1
theorem uni_sz {l:List (List Pt)} (hp:∀p∈l,∀q∈p,WP 1048576 q) (hT:jt (l.map slE)≤24):SzQ 2000000 (uniQ l):=by
 have hE:∀p∈l.map slE,∀e∈p,my e:=fun p hp'=>by
  obtain⟨q,hq,rfl⟩:=List.mem_map.1 hp'
  exact sl_ok (hp q hq)
 unfold uniQ
 rw[←xk]
 have h1:SzQ (624 * 2001 + 1) (uv (l.map slE) (xsQ (l.map slE)) ((xsQ (l.map slE)).length - 1)):=by
  by_cases h0:1≤(xsQ (l.map slE)).length
  ·exact (sumK_sz hE hT (xs_sz hE) _ (by omega)).mono (by have:=xs_len hT;omega)
  rw[show (xsQ (l.map slE)).length - 1=0 by omega];exact jn.mono (by decide)
 exact (SzQ.mul h1 (szQ_int (n:=2) (by decide))).mono (by decide)
theorem ptsJ {l:List Pt} (v:Value) (W W':World) (h:Pts W v l) (hb:Below W.heap.size W W'):Pts W' v l:=be.mono IP.kept h hb
def comQ (l m:List Pt):Rat:=up ((twZ l:Int):Rat) + up ((twZ m:Int):Rat) - uniQ [l,m]
theorem com_sample:comQ tri squ=11 / 6:=by
 unfold comQ
 rw[uni_sample]
 decide +kernel
theorem pl_common (vl vm:Value) (l m:List Pt) (w:World) (hl:Pts w vl l) (hm:Pts w vm m) (kl:fl l=0) (km:fl m=0) (hT:jt ([l,m].map slE)≤24) (hS:∀p∈[l,m],0 < (slE p).length):
  Calls Tryz.prog 57 #[vl,vm] w (mp w (comQ l m)):=by
 obtain⟨al,cl,rfl, -, -, -⟩:=hl.slice
 obtain⟨am,cm,rfl, -, -, -⟩:=hm.slice
 have hs:=Below.refl w.heap.size w
 have Hl:=ae hl
 have Hm:=ae hm
 have Kl:=ae kl
 have Km:=ae km
 have HT:=ae hT
 have HSL:=ae hS
 have hpp:∀p∈[l,m],p.length≤1000∧∀q∈p,WP 1048576 q:=fun p hp=>by
  rcases List.mem_cons.1 hp with rfl|hp
  ·exact⟨by have:=(kg kl).1;omega,(kg kl).2.2⟩
  rw[List.mem_singleton] at hp;subst hp;exact⟨by have:=(kg km).1;omega,(kg km).2.2⟩
 have HUZ:=ae (uni_sz (l:=[l,m]) (fun p hp=>(hpp p hp).2) hT)
 have HPP:=ae hpp
 clear hl hm kl km hT hS hpp
 go_enter Tryz.func57,Tryz.ntmps57
 go_wp2_with fail
 refine Calls.abs ?_
 intro w1 hW
 have hG:Gr [] w w1:=by rw[hW];exact (Gr.refl _ _).alloc
 have Bh:=hs.size
 have Blk:Bx w1 (w.heap.size) 37 #[.bool false,.slice none 0 0,.slice none 0 0]:=by rw[hW];exact (Bx.new0 _ _ _)
 replace hs:=hs.trans (hG.below0 hs.size)
 clear hW hG
 have Be:=Blk.lt
 with_reducible refine (pl_size _ l _ (be.mono IP.kept Hl.out hs) Kl.out).mono ?_
 rintro e w2 ⟨_,rfl,h1,hb⟩
 obtain⟨Bg,Bc,Bf,Bd,B8,Bb,Ba,rfl⟩:=h1.shape
 revert Blk;refine mS hs hb ?_;clear hs hb;intro hs Blk
 go_wp2_with fail
 with_reducible refine (pl_size _ m _ (be.mono IP.kept Hm.out hs) Km.out).mono ?_
 rintro e w3 ⟨_,rfl,h2,hb⟩
 obtain⟨sh2,ah2,nh2,ch2,Ah2,Nh2,Ch2,rfl⟩:=h2.shape
 revert Blk;revert h1;refine mS hs hb ?_;clear hs hb;intro hs h1 Blk
 go_wp2_with fail
 with_reducible refine (yi h1 h2 (SzQ.fit (tw_sz Kl.out)) (SzQ.fit (tw_sz Km.out))).mono ?_
 rintro e w4 ⟨_,rfl,h3,hb⟩
 obtain⟨sh3,ah3,nh3,ch3,Ah3,Nh3,Ch3,rfl⟩:=h3.shape
 revert Blk;revert h1;revert h2;refine mS hs hb ?_;clear hs hb;intro hs h2 h1 Blk
 go_wp2_with fail
 refine Calls.abs ?_
 intro w5 hW
 have hG:Gr [] w4 w5:=by rw[hW];exact (Gr.refl _ _).alloc
 have Bj:=hs.size
 have nk_w5:=Blk.lt
 have B0:Bx w5 (w4.heap.size) 32 #[.slice al l.length cl,.slice am m.length cm]:=by rw[hW];exact (Bx.new0 _ _ _)
 replace hs:=hs.trans (hG.below0 hs.size)
 revert h3 h2 h1 Blk;refine g0 hG ?_;intro h3 h2 h1 Blk
 clear hW hG
 have Bi:=B0.lt
 with_reducible refine (pl_union _ [l,m] _ (two_rows B0 (be.mono IP.kept Hl.out hs) (be.mono IP.kept Hm.out hs)) (by simp) (by simp) HPP.out HT.out HSL.out).mono ?_
 rintro e w6 ⟨_,rfl,h4,hb⟩
 obtain⟨sh4,ah4,nh4,ch4,Ah4,Nh4,Ch4,rfl⟩:=h4.shape
 revert Blk;revert h1;revert h2;revert h3;revert B0;refine mS hs hb ?_;clear hs hb;intro hs B0 h3 h2 h1 Blk
 go_wp2_with fail
 with_reducible refine (pSub h3 h4 (SzQ.fit (SzQ.add (tw_sz Kl.out) (tw_sz Km.out))) (SzQ.fit HUZ.out)).mono ?_
 rintro e w7 ⟨_,rfl,h5,hb⟩
 obtain⟨sh5,ah5,nh5,ch5,Ah5,Nh5,Ch5,rfl⟩:=h5.shape
 revert Blk;revert h1;revert h2;revert h3;revert B0;revert h4;refine mS hs hb ?_;clear hs hb;intro hs h4 B0 h3 h2 h1 Blk
 refine Blk.k3fl fun B4 B5 B6 fk Lk=>?_
 go_wp2
 clear B4 B5 B6 fk Lk
 refine bodyPost.abs ?_
 intro w8 hW
 have hG:Gr [w.heap.size] w7 w8:=by rw[hW];exact (Gr.refl _ _).set.set.set
 have hsz:=hs.size
 have lk:=Blk.lt
 have hk:=hG.keep ⟨⟨_,Blk.ty,by decide⟩,True.intro⟩
 have B7:Bx w8 (w.heap.size) 37 #[.bool sh5,.slice ah5 nh5 ch5,.slice Ah5 Nh5 Ch5]:=by rw[hW];exact Blk.set3
 replace hs:=hs.trans (hG.d1 hs.size)
 replace B0:=hG.b1 B0
 replace Blk:=B7
 clear B7
 revert h5 h4 h3 h2 h1;refine ke hk ?_;intro h5 h4 h3 h2 h1
 clear hW hG hk hsz lk
 refine Blk.k3 fun B4 B5 B6=>?_
 exact bodyPost_ret (v:=.agg #[.bool sh5,.slice ah5 nh5 ch5,.slice Ah5 Nh5 Ch5]) (by simp[results,Tryz.results57,go_sem,B4,B5,B6]) rfl ⟨_,rfl,h5,hs⟩
theorem pl_Common_ok (vl vm:Value) (l m:List Pt) (w:World) (hl:Pts w vl l) (hm:Pts w vm m) (kl:fl l=0) (km:fl m=0) (hT:jt ([l,m].map slE)≤24) (hS:∀p∈[l,m],0 < (slE p).length):
  Calls Tryz.prog 20 #[vl,vm] w (RetPE w (comQ l m) 0):=by
 obtain⟨al,cl,rfl, -, -, -⟩:=hl.slice
 obtain⟨am,cm,rfl, -, -, -⟩:=hm.slice
 have hs:=Below.refl w.heap.size w
 have Hl:=ae hl
 have Hm:=ae hm
 have Kl:=ae kl
 have Km:=ae km
 have HT:=ae hT
 have HSL:=ae hS
 have HE0:=ae (show (0:Int)=if fl l=0 then fl m else fl l by rw[if_pos kl,km])
 clear hl hm kl km hT hS
 go_enter Tryz.func20,Tryz.ntmps20
 go_wp2_with fail
 refine Calls.abs ?_
 intro w1 hW
 have hG:Gr [] w w1:=by rw[hW];exact (Gr.refl _ _).alloc
 have Bh:=hs.size
 have Blk:Bx w1 (w.heap.size) 37 #[.bool false,.slice none 0 0,.slice none 0 0]:=by rw[hW];exact (Bx.new0 _ _ _)
 replace hs:=hs.trans (hG.below0 hs.size)
 clear hW hG
 have Be:=Blk.lt
 with_reducible refine (pl_two _ l _ m _ (be.mono IP.kept Hl.out hs) (be.mono IP.kept Hm.out hs) (r1:=0) HE0.out).mono ?_
 rintro e w2 ⟨rfl,hb⟩
 revert Blk;refine mS hs hb ?_;clear hs hb;intro hs Blk
 go_wp2_with fail
 with_reducible refine (pl_common _ _ l m _ (be.mono IP.kept Hl.out hs) (be.mono IP.kept Hm.out hs) Kl.out Km.out HT.out HSL.out).mono ?_
 rintro e w3 ⟨_,rfl,h1,hb⟩
 obtain⟨Bg,Bc,Bf,Bd,B8,Bb,Ba,rfl⟩:=h1.shape
 revert Blk;refine mS hs hb ?_;clear hs hb;intro hs Blk
 refine Blk.k3fl fun B4 B5 B6 fk Lk=>?_
 go_wp2
 clear B4 B5 B6 fk Lk
 refine bodyPost.abs ?_
 intro w4 hW
 have hG:Gr [w.heap.size] w3 w4:=by rw[hW];exact (Gr.refl _ _).set.set.set
 have hsz:=hs.size
 have lk:=Blk.lt
 have hk:=hG.keep ⟨⟨_,Blk.ty,by decide⟩,True.intro⟩
 have B7:Bx w4 (w.heap.size) 37 #[.bool Bg,.slice Bc Bf Bd,.slice B8 Bb Ba]:=by rw[hW];exact Blk.set3
 replace hs:=hs.trans (hG.d1 hs.size)
 replace Blk:=B7
 clear B7
 replace h1:=h1.keep hk
 clear hW hG hk hsz lk
 refine Blk.k3 fun B4 B5 B6=>?_
 exact bodyPost_ret (v:=.tuple #[.agg #[.bool Bg,.slice Bc Bf Bd,.slice B8 Bb Ba],.int .i64 0]) (by simp[results,Tryz.results20,go_sem,B4,B5,B6]) rfl ⟨_,rfl,h1,hs⟩
theorem l2_square (n:Int) (w:World):Calls Tryz.prog 19 #[.int .i64 n] w (Ret1 (fun w v=>Pts w v [(0,0),(n,0),(n,n),(0,n)]) w):=by
 have hs:=Below.refl w.heap.size w
 go_enter Tryz.func19,Tryz.ntmps19
 go_wp2
 refine bodyPost.abs ?_
 intro w1 hW
 have hG:Gr [] w w1:=by rw[hW];exact (Gr.refl _ _).alloc
 have Bh:=hs.size
 have B0:Bx w1 (w.heap.size) 24 #[.int .i64 0,.int .i64 0,.int .i64 n,.int .i64 0,.int .i64 n,.int .i64 n,.int .i64 0,.int .i64 n]:=by rw[hW];exact (Bx.new0 _ _ _)
 replace hs:=hs.trans (hG.below0 hs.size)
 clear hW hG
 have Be:=B0.lt
 go_ret
 exact⟨_,rfl,pts_of B0 rfl (by simp) rfl,hs⟩
theorem p_TextS {w:World} {v:Value} {x:Rat} {s:ByteArray} (hs:ib (qh x)=.string s) (hx:PV w v x) (fx:Fit x):Calls Tryz.prog 21 #[v] w (fj w (.string s)):=hs ▸ pText hx fx
theorem aw2_text:ib (qh (comQ tri squ))=.string ⟨#[49,49,47,54]⟩∧Fit (comQ tri squ):=by
 have e:comQ tri squ=mkRat 11 6:=by rw[com_sample];decide +kernel
 have h1:(mkRat 11 6).num=11:=by decide +kernel
 have h2:(mkRat 11 6).den=6:=by decide +kernel
 have h3:ng (mkRat 11 6)=false:=by decide +kernel
 have e1:dw 11=[49,49]:=by
  unfold dw
  rw[if_neg (by decide),jc (by decide),show 11 / 10=1 from rfl,jc (by decide),show 1 / 10=0 from rfl,gj]
  rfl
 have e2:dw 6=[54]:=by
  unfold dw
  rw[if_neg (by decide),jc (by decide),show 6 / 10=0 from rfl,gj]
  rfl
 rw[e]
 refine⟨?_,(show SzQ 1 (mkRat 11 6) from ⟨by decide +kernel,by decide +kernel⟩).fit⟩
 unfold ib qh
 rw[h1,h2,h3,show (11:Int).natAbs=11 from rfl,e1,e2]
 rfl
theorem l2_awake (w:World):Calls Tryz.prog 5 #[] w (fj w (.bool true)):=by
 have hs:=Below.refl w.heap.size w
 go_enter Tryz.func5,Tryz.ntmps5
 go_wp2_with fail
 with_reducible refine (l2_square 4 _).mono ?_
 rintro e w1 ⟨_,rfl,B3,hb⟩
 obtain⟨asq1,ksq1,rfl, -, -, -⟩:=B3.slice
 change Pts _ (.slice asq1 4 ksq1) _ at B3
 replace hs:=ar hs hb
 clear hb
 go_wp2_with fail
 with_reducible refine (pl_Twice _ [(0,0),(4,0),(4,4),(0,4)] _ B3 (r1:=32) (r2:=0) (by decide +kernel) (by decide +kernel)).mono ?_
 rintro e w2 ⟨_,_,rfl,rfl,rfl,hb⟩
 replace hs:=ar hs hb
 replace B3:=ptsJ _ _ _ B3 hb
 clear hb
 go_wp2_with fail
 refine Calls.abs ?_
 intro w3 hW
 have hG:Gr [] w2 w3:=by rw[hW];exact (Gr.refl _ _).alloc.alloc
 have sz_w3:=hs.size
 have B0:Bx w3 (w2.heap.size) 24 #[.int .i64 0,.int .i64 0,.int .i64 3,.int .i64 0,.int .i64 0,.int .i64 2]:=by rw[hW];exact ((Bx.new0 _ _ _).alloc _)
 have B2:Bx w3 (w2.heap.size + 1) 24 #[.int .i64 1,.int .i64 0,.int .i64 2,.int .i64 0,.int .i64 2,.int .i64 1,.int .i64 1,.int .i64 1]:=by rw[hW];exact (Bx.new0 _ _ _)
 replace hs:=hs.trans (hG.below0 hs.size)
 replace B3:=ptsJ _ _ _ B3 (hG.below0 (ag _))
 clear hW hG
 have hz_w3:=B2.lt
 with_reducible refine (pl_Common_ok _ _ tri squ _ (pts_of (n:=3) B0 rfl (by decide) (by decide)) (pts_of (n:=4) B2 rfl (by decide) (by decide)) jc1.1 jc1.2.1 (by decide +kernel) (by decide +kernel)).mono ?_
 rintro e w4 ⟨_,rfl,h2,hb⟩
 obtain⟨sh2,ah2,nh2,ch2,Ah2,Nh2,Ch2,rfl⟩:=h2.shape
 replace hs:=ar hs hb
 revert B2;revert B0;refine mo hb ?_;intro B0 B2
 replace B3:=ptsJ _ _ _ B3 hb
 clear hb
 go_upto_region 3 with fail
 refine Code.abs ?_
 intro w5 hW
 have hG:Gr [] w4 w5:=by rw[hW];exact (Gr.refl _ _).alloc
 have Bj:=hs.size
 have nls_w5:=B0.lt
 have Bk:=B2.lt
 have B9:Bx w5 (w4.heap.size) 37 #[.bool sh2,.slice ah2 nh2 ch2,.slice Ah2 Nh2 Ch2]:=by rw[hW];exact (Bx.new0 _ _ _)
 replace hs:=hs.trans (hG.below0 hs.size)
 replace B3:=ptsJ _ _ _ B3 (hG.below0 (ag _))
 revert h2 B0 B2;refine g0 hG ?_;intro h2 B0 B2
 clear hW hG
 have Bi:=B9.lt
 refine B9.k3 fun Bl Bm Bn=>?_
 go_wp2_with fail
 refine (p_TextS aw2_text.1 h2 aw2_text.2).mono ?_
 rintro e w60 ⟨rfl,hb⟩
 replace hs:=ar hs hb
 clear hb
 go_wp2
 go_ret
 exact⟨by simp,hs⟩
end Go.Proofs.YtidmjdmmpajooaaGreat
namespace Go.Proofs.YtidmjdmmpajooaaGreat
open Go.RowKit Dg Go.ChangeShapes Go.WideShapes Go.Deep
section
variable {H:Type} {enc:TypeId × Value→H} {W:World} {base:Nat} {spare:Nat→Bool} {held:Bool}
theorem wf_pt {n:Int} (h:(Lit.int .i64 n).wf=true): -9223372036854775808≤n∧n≤9223372036854775807:=by
 simpa [Lit.wf,IntKind.min,IntKind.max,IntKind.signed,IntKind.bits] using h
def POk (p:Pt):Prop:=(-9223372036854775808≤p.1∧p.1≤9223372036854775807)∧(-9223372036854775808≤p.2∧p.2≤9223372036854775807)
theorem trod_pt {n:Nat} {cs:List Value} {x:DataW H × List MemPlace} (h:DataW.trod enc Tryz.prog W base spare held n 24 cs=some x):
  ∃y:Pt,IP W cs y∧POk y:=by
 obtain⟨y0,y1,m,_,hl,h0,h1⟩:=trod_struct2 Tryz.underlying24 h
 rw[show Tryz.prog.cellsOf 24=2 from by kernel_rfl] at hl
 match cs,hl with
 | [c0,c1],_=>
  obtain⟨a,e0,_,w0⟩:=DataW.trod_int Tryz.underlying3 h0
  obtain⟨b,e1,_,w1⟩:=DataW.trod_int Tryz.underlying3 h1
  rw[show Tryz.prog.cellsOf 3=1 from by kernel_rfl] at e0 e1
  simp at e0 e1
  subst e0 e1
  exact⟨(a,b),rfl,wf_pt w0,wf_pt w1⟩
end
end Go.Proofs.YtidmjdmmpajooaaGreat
