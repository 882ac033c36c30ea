/-
  plane: how far a point is from a polygon; Where, Distance of any list.
-/
import Derived.Test.YtbnomdlojmgigaaGreatPlXW
import Derived.Test.YtbnomdlojmgigaaGreatPlYW
import Derived.Test.YtbnomdlojmgigaaGreatPkW23W
set_option linter.unusedSimpArgs false
set_option linter.unusedVariables false
set_option maxRecDepth 100000
set_option maxHeartbeats 16000000
namespace Go.Proofs.YtbnomdlojmgigaaGreat
open Go.RowKit Dg
attribute [local go_sem ↓] Go.wp_at_zero Go.wp_at_succ
attribute [local go_sem] Oper.semAt_some
theorem keep_putD {W:World} {D:Nat} {o o':Obj} (hD:W.heap[D]?=some o) (ho:o.isCells=false):aw W (W.putObj D o'):=
 ⟨by rw[World.putObj_size];exact ag _,fun k t hk _=>World.putObj_heap_other (fun e=>by
  subst e
  obtain⟨cs,fr,hk⟩:=hk
  rw[hD] at hk
  cases hk
  cases ho)⟩
theorem jz.boxp (n:Nat) {g:Nat} {x:Rat}:jz n (fun W=>BoxP W g x):=⟨fun _ _ h hb=>h.mono hb,fun _ _ _ _ _ h hp=>h.putL hp⟩
theorem dq_sz {a b q:Pt} (ha:WP 1048576 a) (hb:WP 1048576 b) (hq:WP 1048576 q):SzQ 10 (dsQ a b q):=by
 have s2:∀{n:Int},Wn 17592186044416 n→SzQ 2 (n:Rat):=fun h=>qj (h.mono (by decide))
 by_cases h:dtZ (mnZ q a) (mnZ b a)≤0
 ·rw[dq_1 h];exact (s2 (fr_wn2 ha hq)).mono (by decide)
 by_cases k:dtZ (mnZ b a) (mnZ b a)≤dtZ (mnZ q a) (mnZ b a)
 ·rw[dq_2 h k];exact (s2 (fr_wn2 hb hq)).mono (by decide)
 rw[dq_3 h k]
 exact (SzQ.div (SzQ.mul (s2 (cr_wn (wg hb ha) (wg hq ha))) (s2 (cr_wn (wg hb ha) (wg hq ha)))) (s2 (dt_wn (wg hb ha) (wg hb ha))) (fun e=>absurd (Rat.intCast_eq_zero_iff.1 e) (by omega))).mono (by decide)
theorem bq_sz {l:List Pt} {q:Pt} (hp:∀p∈l,WP 1048576 p) (hq:WP 1048576 q):∀k,SzQ 10 (bdQ l q k)
 | 0=>jn.mono (by decide)
 | k + 1=>by
  unfold bdQ
  split
  ·exact dq_sz (WP.pt (by decide) hp _) (WP.pt (by decide) hp _) hq
  split
  ·exact dq_sz (WP.pt (by decide) hp _) (WP.pt (by decide) hp _) hq
  exact bq_sz hp hq k
theorem bq_0 {l:List Pt} {q:Pt} {k:Nat} (hk:k=0):bdQ l q (k + 1)=dsQ (ptZ l k) (ptZ l ((k + 1) % l.length)) q:=if_pos hk
theorem bq_t {l:List Pt} {q:Pt} {k:Nat} (hk:¬ k=0) (h:dsQ (ptZ l k) (ptZ l ((k + 1) % l.length)) q < bdQ l q k):bdQ l q (k + 1)=dsQ (ptZ l k) (ptZ l ((k + 1) % l.length)) q:=(if_neg hk).trans (if_pos h)
theorem bq_f {l:List Pt} {q:Pt} {k:Nat} (hk:¬ k=0) (h:¬ dsQ (ptZ l k) (ptZ l ((k + 1) % l.length)) q < bdQ l q k):bdQ l q (k + 1)=bdQ l q k:=(if_neg hk).trans (if_neg h)
theorem pl_boundary (v:Value) (l:List Pt) (x:Pt) (w:World) (hl:Pts w v l) (h0:0 < l.length) (hn:l.length≤1000) (hp:∀p∈l,WP 1048576 p) (hx:WP 1048576 x):
  Calls Tryz.prog 52 #[v,.agg #[.int .i64 x.1,.int .i64 x.2]] w (mp w (bdQ l x l.length)):=by
 obtain⟨ao,cap,rfl,hc1,hc2,hc3⟩:=hl.slice
 have hs:=Below.refl w.heap.size w
 have HL:=ae hl
 have HP:=ae hp
 have HX:=ae hx
 have HN:=ae hn
 clear hl hp hx
 refine (callsIn_wide (n:=2)).1 (callsIn_of_wp_marks Tryz.func52 rfl trivial ?_)
 simp only[Tryz.ntmps52,List.size_toArray,List.length_cons,List.length_nil,Nat.reduceAdd,Nat.reduceSub,Array.replicate_succ,
   Array.replicate_zero,List.push_toArray,List.append_toArray,List.nil_append,List.cons_append]
 refine wpIn_wide.2 ?_
 go_wp2_with fail
 refine Calls.abs ?_
 intro w1 hW
 have hG:Gr [] w w1:=by rw[hW];exact (Gr.refl _ _).alloc.alloc.alloc
 have Cs:=hs.size
 have B1:Bx w1 (w.heap.size) 31 #[.int .i64 x.1,.int .i64 x.2]:=by rw[hW];exact (((Bx.new0 _ _ _).alloc _).alloc _)
 have Blk:Bx w1 (w.heap.size + 1) 35 #[.bool false,.slice none 0 0,.slice none 0 0]:=by rw[hW];exact ((Bx.new0 _ _ _).alloc _)
 have B0:Bx w1 (w.heap.size + 1 + 1) 35 #[.bool false,.slice none 0 0,.slice none 0 0]:=by rw[hW];exact (Bx.new0 _ _ _)
 replace hs:=hs.trans (hG.below0 hs.size)
 clear hW hG
 have Co:=B0.lt
 have D8:=B1.lt
 have D7:=Blk.lt
 have Cu:=B0.lt
 with_reducible refine (ph _ _ _ _).mono ?_
 rintro e w2 ⟨rfl,B4,hb⟩
 revert B1 Blk B0;refine mS hs hb ?_;clear hs hb;intro hs B1 Blk B0
 go_wp2_with fail
 have nr_q_0:=B1.lt
 have nr_k_0:=Blk.lt
 have Cz:=B0.lt
 have D6:=B4.lt
 have nz_0:=hs.size
 refine edgesR (w1.heap.size) _ l w (fun k W=>Bx W (w.heap.size) 31 #[.int .i64 x.1,.int .i64 x.2]∧Bx W (w.heap.size + 1) 35 #[.bool false,.slice none 0 0,.slice none 0 0]∧BoxP W (w.heap.size + 1 + 1) (bdQ l x k)) (fun c W=>False) rfl rfl HL.out (by omega) hs B4 (fun _=>(.and (.bx _) (.and (.bx _) (.boxp _)))) (fun c=>(.prop _ _)) ⟨B1,Blk,⟨_,_,_,_,_,_,_,B0,(PV.zero _)⟩⟩ ?hbody0 ?hend0 ?hret0
 case hbody0=>
  clear hs B4 B1 Blk B0
  intro Cn Cp k W0 RR0 hlpa0 hlpb0 hk0 hn0 e1 hs B4 hI hD Cg
  replace Cg:=ae Cg
  replace e1:AtB Cp (.loop (Cn .ready none)) W0:=⟨e1⟩
  replace hD:AtB w2.heap.size (.deferred (some [])) W0:=⟨hD⟩
  obtain⟨B1,Blk,⟨Bg,Bd,Bf,Be,Ba,Bc,Bb,B0,B2⟩⟩:=hI
  skip
  have B6:=Kp.refl (w2.heap.size + 2) W0
  obtain⟨p,Hp⟩:∃z:Pt,z=ptZ l k:=⟨_,rfl⟩
  obtain⟨q,Hq⟩:∃z:Pt,z=nxZ l k:=⟨_,rfl⟩
  rw[←Hp,←Hq]
  replace Hp:=ae Hp
  replace Hq:=ae Hq
  have Bp:WP 1048576 p:=by rw[Hp.out];exact WP.pt (by decide) HP.out _
  have Bq:WP 1048576 q:=by rw[Hq.out];exact WP.pt (by decide) HP.out _
  gi_wp2
  repeat ((with_reducible refine And.intro ?_ ?_);exact trivial;gi_wp2)
  generalize hW_:(W0.alloc (.cells #[.int .i64 p.1,.int .i64 p.2,.int .i64 q.1,.int .i64 q.2] 89))=w3
  have hW:=hW_.symm
  clear hW_
  have hG:Gr [] W0 w3:=by rw[hW];exact (Gr.refl _ _).alloc
  have sz_w3:=hs.size
  have nq_w3:=B1.lt
  have nk_w3:=Blk.lt
  have D1:=B0.lt
  have nx1_w3:=B4.lt
  have Bh:Bx w3 (W0.heap.size) 89 #[.int .i64 p.1,.int .i64 p.2,.int .i64 q.1,.int .i64 q.2]:=by rw[hW];exact (Bx.new0 _ _ _)
  replace hs:=hs.trans (hG.below0 hs.size)
  replace e1:=atB _ _ _ e1 (hG.below0 (ag _))
  replace hD:=atB _ _ _ hD (hG.below0 (ag _))
  replace B6:=kpJ _ _ _ B6 (hG.below0 (ag _))
  revert B4 B1 Blk B0 B2;refine g0 hG ?_;intro B4 B1 Blk B0 B2
  clear hW hG
  have hz_w3:=Bh.lt
  refine⟨e1.h,?_⟩
  obtain⟨w4,C0⟩:∃x,x=w3.putObj Cp (.loop (Cn .busy none)):=⟨_,rfl⟩
  rw[←C0]
  have hsl:=hs.size
  replace hs:Below w.heap.size w w4:=by rw[C0];exact hs.trans (belowK_b (ag _) _ Cp _ _ (by omega) e1.h rfl rfl)
  replace B1:Bx w4 (w.heap.size) 31 #[.int .i64 x.1,.int .i64 x.2]:=by rw[C0];exact B1.putL e1.h
  replace Blk:Bx w4 (w.heap.size + 1) 35 #[.bool false,.slice none 0 0,.slice none 0 0]:=by rw[C0];exact Blk.putL e1.h
  replace B0:Bx w4 (w.heap.size + 1 + 1) 35 #[.bool Bg,.slice Bd Bf Be,.slice Ba Bc Bb]:=by rw[C0];exact B0.putL e1.h
  replace B4:Bx w4 (w1.heap.size) 22 #[.slice ao l.length cap]:=by rw[C0];exact B4.putL e1.h
  replace Bh:Bx w4 (W0.heap.size) 89 #[.int .i64 p.1,.int .i64 p.2,.int .i64 q.1,.int .i64 q.2]:=by rw[C0];exact Bh.putL e1.h
  replace B2:PV w4 (.agg #[.bool Bg,.slice Bd Bf Be,.slice Ba Bc Bb]) (bdQ l x k):=by rw[C0];exact B2.keep (.putL e1.h)
  replace hD:AtB w2.heap.size (.deferred (some [])) w4:=by rw[C0];exact⟨(World.putObj_heap_other (by omega)).trans hD.h⟩
  replace B6:Kp (w2.heap.size + 2) W0 w4:=by rw[C0];exact B6.putL (by have:=B6.1;omega) _
  replace e1:AtB Cp (.loop (Cn .busy none)) w4:=by rw[C0];exact⟨World.putObj_heap_same (Array.getElem?_eq_some_iff.1 e1.h).1⟩
  clear C0 hsl
  refine Bh.k4l fun D2 D3 D4 D5 Le=>?_
  refine B1.k2l fun Br Bs Lq=>?_
  gi_wp2_with fail
  try ((with_reducible refine And.intro ?_ (And.intro ?_ ?_));exact trivial;exact rfl)
  repeat ((with_reducible refine And.intro ?_ ?_);exact trivial;gi_wp2_with fail)
  try ((with_reducible refine And.intro ?_ (And.intro ?_ ?_));exact trivial;exact rfl)
  clear D2 D3 D4 D5 Br Bs Le Lq
  with_reducible refine (kb (ed_distance p q x _ Bp Bq HX.out)).mono ?_
  rintro e w5 ⟨_,rfl,h2,hb⟩
  obtain⟨Cb,C6,Ca,C7,C3,C5,C4,rfl⟩:=h2.shape
  replace hs:=ar hs hb
  revert B2;revert Bh;revert B4;revert B0;revert Blk;revert B1;refine mo hb ?_;intro B1 Blk B0 B4 Bh B2
  replace e1:=atB _ _ _ e1 hb
  replace hD:=atB _ _ _ hD hb
  replace B6:=kpJ _ _ _ B6 hb
  clear hb
  by_cases q3:k=0
  ·have q3b:((k:Int) == 0)=true:=beq_iff_eq.2 (by omega)
   have q3n:((k:Int) != 0)=false:=bne_eq_false_iff_eq.2 (by omega)
   have Cq:=ae q3
   clear q3
   gi_upto_region 7 with fail
   repeat ((with_reducible refine And.intro ?_ ?_);exact trivial;gi_upto_region 7 with fail)
   refine Code.absI ?_
   intro w6 hW
   have hG:Gr [] w5 w6:=by rw[hW];exact (Gr.refl _ _).alloc
   have D0:=hs.size
   have Cy:=B1.lt
   have Cx:=Blk.lt
   have Ch:=B0.lt
   have Ct:=B4.lt
   have Cw:=Bh.lt
   have Bm:Bx w6 (w5.heap.size) 35 #[.bool Cb,.slice C6 Ca C7,.slice C3 C5 C4]:=by rw[hW];exact (Bx.new0 _ _ _)
   replace hs:=hs.trans (hG.below0 hs.size)
   replace e1:=atB _ _ _ e1 (hG.below0 (ag _))
   replace hD:=atB _ _ _ hD (hG.below0 (ag _))
   replace B6:=kpJ _ _ _ B6 (hG.below0 (ag _))
   revert h2 B1 Blk B0 B4 Bh B2;refine g0 hG ?_;intro h2 B1 Blk B0 B4 Bh B2
   clear hW hG
   have Cv:=Bm.lt
   refine Bm.k3l fun Ck Cl Cm Lx=>?_
   refine B0.k3fl fun Bi Bj Bk Cd Bo=>?_
   gi_wp2
   repeat ((with_reducible refine And.intro ?_ ?_);exact trivial;gi_wp2)
   clear Ck Cl Cm Bi Bj Bk Cd Lx Bo
   generalize hW_:(((w6.setCell ⟨w.heap.size + 1 + 1,0,none⟩ (.bool Cb)).setCell ⟨w.heap.size + 1 + 1,1,none⟩ (.slice C6 Ca C7)).setCell ⟨w.heap.size + 1 + 1,2,none⟩ (.slice C3 C5 C4))=w7
   have hW:=hW_.symm
   clear hW_
   have hG:Gr [w.heap.size + 1 + 1] w6 w7:=by rw[hW];exact (Gr.refl _ _).set.set.set
   have By:=hs.size
   have Ce:=B0.lt
   have hk:=hG.keep ⟨⟨_,B0.ty,by decide⟩,True.intro⟩
   have Bn:Bx w7 (w.heap.size + 1 + 1) 35 #[.bool Cb,.slice C6 Ca C7,.slice C3 C5 C4]:=by rw[hW];exact B0.set3
   replace hs:=hs.trans (hG.d1 hs.size)
   replace e1:=e1.gr hG (az (by have:=B6.1;omega))
   replace hD:=hD.gr hG (az (by have:=B6.1;omega))
   replace B6:=Kp.gr1 B6 hG (by have:=B6.1;omega)
   replace B1:=hG.b1 B1
   replace Blk:=hG.b1 Blk
   replace B4:=hG.b1 B4
   replace Bh:=hG.b1 Bh
   replace Bm:=hG.b1 Bm
   replace B0:=Bn
   clear Bn
   revert h2 B2;refine ke hk ?_;intro h2 B2
   clear hW hG hk By Ce
   exact Cg.out .normal _ _ ⟨e1.h,hs,B4,B6,⟨B1,Blk,⟨_,_,_,_,_,_,_,B0,(h2.of_eq (show _=bdQ l x (k + 1) from by rw[bq_0 (by have h:=Cq.out;omega),show ptZ l k=p from Hp.out.symm,show ptZ l ((k + 1) % l.length)=q from Hq.out.symm]))⟩⟩⟩ hD.h
  have q3b:((k:Int) == 0)=false:=beq_eq_false_iff_ne.2 (by omega)
  have q3n:((k:Int) != 0)=true:=bne_iff_ne.2 (by omega)
  have Cq:=ae q3
  clear q3
  refine B0.k3l fun Bi Bj Bk Bo=>?_
  have Cj:w.heap.size + 1 < w5.heap.size:=by omega
  gi_wp2_with fail
  try ((with_reducible refine And.intro ?_ (And.intro ?_ ?_));exact trivial;exact rfl)
  repeat ((with_reducible refine And.intro ?_ ?_);exact trivial;gi_wp2_with fail)
  try ((with_reducible refine And.intro ?_ (And.intro ?_ ?_));exact trivial;exact rfl)
  clear Bi Bj Bk Bo Cj
  refine CallsIn.absI ?_
  intro w6 hW
  have hG:Gr [] w5 w6:=by rw[hW];exact (Gr.refl _ _).alloc
  have D0:=hs.size
  have Cy:=B1.lt
  have Cx:=Blk.lt
  have Ch:=B0.lt
  have Ct:=B4.lt
  have Cw:=Bh.lt
  have Bm:Bx w6 (w5.heap.size) 35 #[.bool Cb,.slice C6 Ca C7,.slice C3 C5 C4]:=by rw[hW];exact (Bx.new0 _ _ _)
  replace hs:=hs.trans (hG.below0 hs.size)
  replace e1:=atB _ _ _ e1 (hG.below0 (ag _))
  replace hD:=atB _ _ _ hD (hG.below0 (ag _))
  replace B6:=kpJ _ _ _ B6 (hG.below0 (ag _))
  revert h2 B1 Blk B0 B4 Bh B2;refine g0 hG ?_;intro h2 B1 Blk B0 B4 Bh B2
  clear hW hG
  have Cv:=Bm.lt
  with_reducible refine (kb (uk h2 B2 (SzQ.fit (dq_sz Bp Bq HX.out)) (SzQ.fit (bq_sz HP.out HX.out k)))).mono ?_
  rintro e w7 ⟨rfl,hb⟩
  replace hs:=ar hs hb
  revert Bm h2 B1 Blk B0 B4 Bh B2;refine mo hb ?_;intro Bm h2 B1 Blk B0 B4 Bh B2
  replace e1:=atB _ _ _ e1 hb
  replace hD:=atB _ _ _ hD hb
  replace B6:=kpJ _ _ _ B6 hb
  clear hb
  obtain⟨Cr,Cc⟩:∃s:Int,s=sgQ ((dsQ p q x) - (bdQ l x k)):=⟨_,rfl⟩
  rw[←Cc]
  replace Cc:=ae Cc
  by_cases q5:dsQ p q x < bdQ l x k
  ·have q5_:Cr < 0:=by have h:=qg (dsQ p q x) (bdQ l x k);rw[←Cc.out] at h;exact h.2 q5
   have q5H:=ae q5
   clear q5
   have q5d:decide (Cr < 0)=true:=decide_eq_true q5_
   refine Bm.k3l fun Ck Cl Cm Lx=>?_
   refine B0.k3fl fun Bi Bj Bk Cd Bo=>?_
   gi_wp2
   repeat ((with_reducible refine And.intro ?_ ?_);exact trivial;gi_wp2)
   clear Ck Cl Cm Bi Bj Bk Cd Lx Bo
   generalize hW_:(((w7.setCell ⟨w.heap.size + 1 + 1,0,none⟩ (.bool Cb)).setCell ⟨w.heap.size + 1 + 1,1,none⟩ (.slice C6 Ca C7)).setCell ⟨w.heap.size + 1 + 1,2,none⟩ (.slice C3 C5 C4))=w8
   have hW:=hW_.symm
   clear hW_
   have hG:Gr [w.heap.size + 1 + 1] w7 w8:=by rw[hW];exact (Gr.refl _ _).set.set.set
   have By:=hs.size
   have Ce:=B0.lt
   have hk:=hG.keep ⟨⟨_,B0.ty,by decide⟩,True.intro⟩
   have Bn:Bx w8 (w.heap.size + 1 + 1) 35 #[.bool Cb,.slice C6 Ca C7,.slice C3 C5 C4]:=by rw[hW];exact B0.set3
   replace hs:=hs.trans (hG.d1 hs.size)
   replace e1:=e1.gr hG (az (by have:=B6.1;omega))
   replace hD:=hD.gr hG (az (by have:=B6.1;omega))
   replace B6:=Kp.gr1 B6 hG (by have:=B6.1;omega)
   replace B1:=hG.b1 B1
   replace Blk:=hG.b1 Blk
   replace B4:=hG.b1 B4
   replace Bh:=hG.b1 Bh
   replace Bm:=hG.b1 Bm
   replace B0:=Bn
   clear Bn
   revert h2 B2;refine ke hk ?_;intro h2 B2
   clear hW hG hk By Ce
   exact Cg.out .normal _ _ ⟨e1.h,hs,B4,B6,⟨B1,Blk,⟨_,_,_,_,_,_,_,B0,(h2.of_eq (show _=bdQ l x (k + 1) from by rw[bq_t (by have h:=Cq.out;omega) (by rw[show ptZ l k=p from Hp.out.symm,show ptZ l ((k + 1) % l.length)=q from Hq.out.symm];exact q5H.out),show ptZ l k=p from Hp.out.symm,show ptZ l ((k + 1) % l.length)=q from Hq.out.symm]))⟩⟩⟩ hD.h
  have q5_:¬ (Cr < 0):=by have h:=qg (dsQ p q x) (bdQ l x k);rw[←Cc.out] at h;exact fun h1=>q5 (h.1 h1)
  have q5H:=ae q5
  clear q5
  have q5d:decide (Cr < 0)=false:=decide_eq_false q5_
  gi_wp2
  repeat ((with_reducible refine And.intro ?_ ?_);exact trivial;gi_wp2)
  exact Cg.out .normal _ _ ⟨e1.h,hs,B4,B6,⟨B1,Blk,⟨_,_,_,_,_,_,_,B0,(B2.of_eq (show _=bdQ l x (k + 1) from by rw[bq_f (by have h:=Cq.out;omega) (by rw[show ptZ l k=p from Hp.out.symm,show ptZ l ((k + 1) % l.length)=q from Hq.out.symm];exact q5H.out)]))⟩⟩⟩ hD.h
 case hend0=>
  clear hs B4 B1 Blk B0
  intro D Bz hDe hn0 C8 hs hI
  replace C8:AtB D (.deferred (some [])) Bz:=⟨C8⟩
  obtain⟨B1,Blk,⟨Bg,Bd,Bf,Be,Ba,Bc,Bb,B0,B2⟩⟩:=hI
  skip
  refine B0.k3l fun Bi Bj Bk Bo=>?_
  refine Blk.k3fl fun B7 B8 B9 fk Lk=>?_
  go_wp2
  clear Bi Bj Bk B7 B8 B9 fk Bo Lk
  generalize hW_:(((Bz.setCell ⟨w.heap.size + 1,0,none⟩ (.bool Bg)).setCell ⟨w.heap.size + 1,1,none⟩ (.slice Bd Bf Be)).setCell ⟨w.heap.size + 1,2,none⟩ (.slice Ba Bc Bb))=w3
  have hW:=hW_.symm
  clear hW_
  have hG:Gr [w.heap.size + 1] Bz w3:=by rw[hW];exact (Gr.refl _ _).set.set.set
  have By:=hs.size
  have lk:=Blk.lt
  have hk:=hG.keep ⟨⟨_,Blk.ty,by decide⟩,True.intro⟩
  have Bl:Bx w3 (w.heap.size + 1) 35 #[.bool Bg,.slice Bd Bf Be,.slice Ba Bc Bb]:=by rw[hW];exact Blk.set3
  replace hs:=hs.trans (hG.d1 hs.size)
  replace C8:=C8.gr hG (az (by omega))
  replace B1:=hG.b1 B1
  replace B0:=hG.b1 B0
  replace Blk:=Bl
  clear Bl
  replace B2:=B2.keep hk
  clear hW hG hk By lk
  have BD_:=Blk.putD (o':=.deferred none) C8.h
  have cr0:=BD_.at 0 rfl
  have cr1:=BD_.at 1 rfl
  have cr2:=BD_.at 2 rfl
  refine⟨by simp,.inl ⟨_,_,rfl,run_takeDeferred C8.h,?_⟩⟩
  refine⟨_,by simp[results,Tryz.results52,go_sem,cr0,cr1,cr2],⟨_,rfl,B2.keep (keep_putD C8.h rfl),hs.trans (belowK_b (ag _) _ D _ _ (by omega) C8.h rfl rfl)⟩⟩
 case hret0=>
  clear hs B4 B1 Blk B0
  intro c D W _ _ _ _ h
  exact h.elim
def weE (l:List Pt) (x:Pt):Int:=if fl l=0 then (if rtB x=true then 0 else 1) else fl l
def dsE (l:List Pt) (x:Pt):Rat:=if weE l x=0 then diQ l x else 0
theorem we_1 {l:List Pt} {x:Pt} (h:¬ fl l=0):weE l x=fl l:=if_neg h
theorem we_2 {l:List Pt} {x:Pt} (h:fl l=0) (k:rtB x=false):weE l x=1:=(if_pos h).trans (if_neg (by rw[k];decide))
theorem we_3 {l:List Pt} {x:Pt} (h:fl l=0) (k:rtB x=true):weE l x=0:=(if_pos h).trans (if_pos k)
theorem je2 (v:Value) (l:List Pt) (x:Pt) (w:World) (hl:Pts w v l) {rn re:Int} (he:re=weE l x) (hn:rn=if weE l x=0 then whZ l x else 0):
  Calls Tryz.prog 17 #[v,.agg #[.int .i64 x.1,.int .i64 x.2]] w (fj w (.tuple #[.int .i64 rn,.int .i64 re])):=by
 obtain⟨ao,cap,rfl,hc1,hc2,hc3⟩:=hl.slice
 have hs:=Below.refl w.heap.size w
 have HL:=ae hl
 have C9:=ae he
 have hrn:=ae hn
 clear hn
 clear hl he
 go_enter Tryz.func17,Tryz.ntmps17
 go_wp2_with fail
 refine Calls.abs ?_
 intro w1 hW
 have hG:Gr [] w w1:=by rw[hW];exact (Gr.refl _ _).alloc
 have Cs:=hs.size
 have B1:Bx w1 (w.heap.size) 31 #[.int .i64 x.1,.int .i64 x.2]:=by rw[hW];exact (Bx.new0 _ _ _)
 replace hs:=hs.trans (hG.below0 hs.size)
 clear hW hG
 have Co:=B1.lt
 with_reducible refine (tg _ l _ (be.mono IP.kept HL.out hs)).mono ?_
 rintro e w2 ⟨rfl,hb⟩
 revert B1;refine mS hs hb ?_;clear hs hb;intro hs B1
 obtain⟨Bt,B5⟩:∃s:Int,s=fl l:=⟨_,rfl⟩
 rw[←B5]
 replace B5:=ae B5
 by_cases q2:Bt=0
 ·have q2b:(Bt == 0)=true:=beq_iff_eq.2 (by omega)
  have q2n:(Bt != 0)=false:=bne_eq_false_iff_eq.2 (by omega)
  have Bu:=ae q2
  clear q2
  refine B1.k2l fun Br Bs Lq=>?_
  go_wp2_with fail
  clear Br Bs Lq
  with_reducible refine (je3 x _).mono ?_
  rintro e w3 ⟨rfl,hb⟩
  revert B1;refine mS hs hb ?_;clear hs hb;intro hs B1
  obtain⟨b3,C1⟩:∃zz:Bool,zz=rtB x:=⟨_,rfl⟩
  rw[←C1]
  replace C1:=ae C1
  by_cases q4:rtB x=true
  ·obtain rfl:b3=true:=by rw[C1.out];exact q4
   have C2:=ae q4
   clear q4
   have HK:=ae (kg (B5.out.symm.trans Bu.out))
   have HX:=ae (jm C2.out)
   refine B1.k2l fun Br Bs Lq=>?_
   go_wp2_with fail
   clear Br Bs Lq
   with_reducible refine (pl_where _ l x _ (be.mono IP.kept HL.out hs) (by have:=HK.out.2.1;omega) (by have:=HK.out.1;omega) HK.out.2.2 HX.out).mono ?_
   rintro e w4 ⟨rfl,hb⟩
   revert B1;refine mS hs hb ?_;clear hs hb;intro hs B1
   obtain⟨Ci,Bv⟩:∃s:Int,s=whZ l x:=⟨_,rfl⟩
   rw[←Bv]
   replace Bv:=ae Bv
   have hE:=ae (show weE l x=0 from we_3 (B5.out.symm.trans Bu.out) C2.out)
   have Bw:=ae (show re=0 from C9.out.trans (hE.out))
   have Cf:=ae (show rn=Ci from hrn.out.trans ((if_pos hE.out).trans Bv.out.symm))
   go_wp2
   go_ret2
   exact⟨by rw[Cf.out,Bw.out];rfl,hs⟩
  obtain rfl:b3=false:=by rw[C1.out];simpa using q4
  have C2:=ae q4
  clear q4
  have hE:=ae (show weE l x=1 from we_2 (B5.out.symm.trans Bu.out) (Bool.eq_false_iff.2 C2.out))
  have Bw:=ae (show re=1 from C9.out.trans (hE.out))
  have Cf:=ae (show rn=0 from hrn.out.trans (if_neg (by rw[hE.out];decide)))
  go_wp2
  go_ret2
  exact⟨by rw[Cf.out,Bw.out];rfl,hs⟩
 have q2b:(Bt == 0)=false:=beq_eq_false_iff_ne.2 (by omega)
 have q2n:(Bt != 0)=true:=bne_iff_ne.2 (by omega)
 have Bu:=ae q2
 clear q2
 have hE:=ae (show weE l x=fl l from we_1 (fun h=>absurd (B5.out.trans h) Bu.out))
 have Bw:=ae (show re=Bt from C9.out.trans (hE.out.trans B5.out.symm))
 have Cf:=ae (show rn=0 from hrn.out.trans (if_neg (by rw[hE.out];exact fun h=>absurd (B5.out.trans h) Bu.out)))
 go_wp2
 go_ret2
 exact⟨by rw[Cf.out,Bw.out];rfl,hs⟩
theorem tj (v:Value) (l:List Pt) (x:Pt) (w:World) (hl:Pts w v l) {re:Int} (he:re=weE l x):
  Calls Tryz.prog 18 #[v,.agg #[.int .i64 x.1,.int .i64 x.2]] w (Ret2 (fun w v=>PV w v (dsE l x)) (fun _ v=>v=.int .i64 re) w):=by
 obtain⟨ao,cap,rfl,hc1,hc2,hc3⟩:=hl.slice
 have hs:=Below.refl w.heap.size w
 have HL:=ae hl
 have C9:=ae he
 clear hl he
 go_enter Tryz.func18,Tryz.ntmps18
 go_wp2_with fail
 refine Calls.abs ?_
 intro w1 hW
 have hG:Gr [] w w1:=by rw[hW];exact (Gr.refl _ _).alloc.alloc
 have Cs:=hs.size
 have B1:Bx w1 (w.heap.size) 31 #[.int .i64 x.1,.int .i64 x.2]:=by rw[hW];exact ((Bx.new0 _ _ _).alloc _)
 have Blk:Bx w1 (w.heap.size + 1) 35 #[.bool false,.slice none 0 0,.slice none 0 0]:=by rw[hW];exact (Bx.new0 _ _ _)
 replace hs:=hs.trans (hG.below0 hs.size)
 clear hW hG
 have Co:=Blk.lt
 with_reducible refine (tg _ l _ (be.mono IP.kept HL.out hs)).mono ?_
 rintro e w2 ⟨rfl,hb⟩
 revert B1 Blk;refine mS hs hb ?_;clear hs hb;intro hs B1 Blk
 obtain⟨Bt,B5⟩:∃s:Int,s=fl l:=⟨_,rfl⟩
 rw[←B5]
 replace B5:=ae B5
 by_cases q2:Bt=0
 ·have q2b:(Bt == 0)=true:=beq_iff_eq.2 (by omega)
  have q2n:(Bt != 0)=false:=bne_eq_false_iff_eq.2 (by omega)
  have Bu:=ae q2
  clear q2
  refine B1.k2l fun Br Bs Lq=>?_
  go_wp2_with fail
  clear Br Bs Lq
  with_reducible refine (je3 x _).mono ?_
  rintro e w3 ⟨rfl,hb⟩
  revert B1 Blk;refine mS hs hb ?_;clear hs hb;intro hs B1 Blk
  obtain⟨b3,C1⟩:∃zz:Bool,zz=rtB x:=⟨_,rfl⟩
  rw[←C1]
  replace C1:=ae C1
  by_cases q4:rtB x=true
  ·obtain rfl:b3=true:=by rw[C1.out];exact q4
   have C2:=ae q4
   clear q4
   have HK:=ae (kg (B5.out.symm.trans Bu.out))
   have HX:=ae (jm C2.out)
   refine B1.k2l fun Br Bs Lq=>?_
   go_wp2_with fail
   clear Br Bs Lq
   with_reducible refine (pl_where _ l x _ (be.mono IP.kept HL.out hs) (by have:=HK.out.2.1;omega) (by have:=HK.out.1;omega) HK.out.2.2 HX.out).mono ?_
   rintro e w4 ⟨rfl,hb⟩
   revert Blk;revert B1;refine mS hs hb ?_;clear hs hb;intro hs B1 Blk
   obtain⟨Ci,Bv⟩:∃s:Int,s=whZ l x:=⟨_,rfl⟩
   rw[←Bv]
   replace Bv:=ae Bv
   by_cases q6:0≤Ci
   ·have q6d:((0:Int)≤Ci)=True:=eq_true (by omega)
    have hE:=ae (show weE l x=0 from we_3 (B5.out.symm.trans Bu.out) C2.out)
    have Bw:=ae (show re=0 from C9.out.trans (hE.out))
    refine Blk.k3fl fun B7 B8 B9 fk Lk=>?_
    go_wp2
    clear B7 B8 B9 fk Lk
    refine bodyPost.abs ?_
    intro w5 hW
    have hG:Gr [w.heap.size + 1] w4 w5:=by rw[hW];exact (Gr.refl _ _).set.set.set
    have By:=hs.size
    have lk:=Blk.lt
    have Bl:Bx w5 (w.heap.size + 1) 35 #[.bool false,.slice none 0 0,.slice none 0 0]:=by rw[hW];exact Blk.set3
    replace hs:=hs.trans (hG.d1 hs.size)
    replace B1:=hG.b1 B1
    replace Blk:=Bl
    clear Bl
    clear hW hG By lk
    refine Blk.k3 fun B7 B8 B9=>?_
    exact bodyPost_ret (v:=.tuple #[.agg #[.bool false,.slice none 0 0,.slice none 0 0],.int .i64 0]) (by simp[results,Tryz.results18,go_sem,B7,B8,B9]) rfl ⟨_,_,rfl,(PV.zero _).of_eq (show _=dsE l x from ((if_pos hE.out).trans (if_pos (by rw[←Bv.out];omega))).symm),(by rw[Bw.out]<;>rfl),hs⟩
   have q6d:((0:Int)≤Ci)=False:=eq_false (by omega)
   refine B1.k2l fun Br Bs Lq=>?_
   go_wp2_with fail
   clear Br Bs Lq
   with_reducible refine (pl_boundary _ l x _ (be.mono IP.kept HL.out hs) (by have:=HK.out.2.1;omega) (by have:=HK.out.1;omega) HK.out.2.2 HX.out).mono ?_
   rintro e w5 ⟨_,rfl,h7,hb⟩
   obtain⟨sh7,ah7,nh7,ch7,Ah7,Nh7,Ch7,rfl⟩:=h7.shape
   revert Blk;revert B1;refine mS hs hb ?_;clear hs hb;intro hs B1 Blk
   have hE:=ae (show weE l x=0 from we_3 (B5.out.symm.trans Bu.out) C2.out)
   have Bw:=ae (show re=0 from C9.out.trans (hE.out))
   refine Blk.k3fl fun B7 B8 B9 fk Lk=>?_
   go_wp2
   clear B7 B8 B9 fk Lk
   refine bodyPost.abs ?_
   intro w6 hW
   have hG:Gr [w.heap.size + 1] w5 w6:=by rw[hW];exact (Gr.refl _ _).set.set.set
   have By:=hs.size
   have lk:=Blk.lt
   have hk:=hG.keep ⟨⟨_,Blk.ty,by decide⟩,True.intro⟩
   have Bl:Bx w6 (w.heap.size + 1) 35 #[.bool sh7,.slice ah7 nh7 ch7,.slice Ah7 Nh7 Ch7]:=by rw[hW];exact Blk.set3
   replace hs:=hs.trans (hG.d1 hs.size)
   replace B1:=hG.b1 B1
   replace Blk:=Bl
   clear Bl
   replace h7:=h7.keep hk
   clear hW hG hk By lk
   refine Blk.k3 fun B7 B8 B9=>?_
   exact bodyPost_ret (v:=.tuple #[.agg #[.bool sh7,.slice ah7 nh7 ch7,.slice Ah7 Nh7 Ch7],.int .i64 0]) (by simp[results,Tryz.results18,go_sem,B7,B8,B9]) rfl ⟨_,_,rfl,h7.of_eq (show _=dsE l x from ((if_pos hE.out).trans (if_neg (by rw[←Bv.out];omega))).symm),(by rw[Bw.out]<;>rfl),hs⟩
  obtain rfl:b3=false:=by rw[C1.out];simpa using q4
  have C2:=ae q4
  clear q4
  have hE:=ae (show weE l x=1 from we_2 (B5.out.symm.trans Bu.out) (Bool.eq_false_iff.2 C2.out))
  have Bw:=ae (show re=1 from C9.out.trans (hE.out))
  refine Blk.k3fl fun B7 B8 B9 fk Lk=>?_
  go_wp2
  clear B7 B8 B9 fk Lk
  refine bodyPost.abs ?_
  intro w4 hW
  have hG:Gr [w.heap.size + 1] w3 w4:=by rw[hW];exact (Gr.refl _ _).set.set.set
  have By:=hs.size
  have lk:=Blk.lt
  have Bl:Bx w4 (w.heap.size + 1) 35 #[.bool false,.slice none 0 0,.slice none 0 0]:=by rw[hW];exact Blk.set3
  replace hs:=hs.trans (hG.d1 hs.size)
  replace B1:=hG.b1 B1
  replace Blk:=Bl
  clear Bl
  clear hW hG By lk
  refine Blk.k3 fun B7 B8 B9=>?_
  exact bodyPost_ret (v:=.tuple #[.agg #[.bool false,.slice none 0 0,.slice none 0 0],.int .i64 1]) (by simp[results,Tryz.results18,go_sem,B7,B8,B9]) rfl ⟨_,_,rfl,(PV.zero _).of_eq (show _=dsE l x from (if_neg (by rw[hE.out];decide)).symm),(by rw[Bw.out]<;>rfl),hs⟩
 have q2b:(Bt == 0)=false:=beq_eq_false_iff_ne.2 (by omega)
 have q2n:(Bt != 0)=true:=bne_iff_ne.2 (by omega)
 have Bu:=ae q2
 clear q2
 have hE:=ae (show weE l x=fl l from we_1 (fun h=>absurd (B5.out.trans h) Bu.out))
 have Bw:=ae (show re=Bt from C9.out.trans (hE.out.trans B5.out.symm))
 refine Blk.k3fl fun B7 B8 B9 fk Lk=>?_
 go_wp2
 clear B7 B8 B9 fk Lk
 refine bodyPost.abs ?_
 intro w3 hW
 have hG:Gr [w.heap.size + 1] w2 w3:=by rw[hW];exact (Gr.refl _ _).set.set.set
 have By:=hs.size
 have lk:=Blk.lt
 have Bl:Bx w3 (w.heap.size + 1) 35 #[.bool false,.slice none 0 0,.slice none 0 0]:=by rw[hW];exact Blk.set3
 replace hs:=hs.trans (hG.d1 hs.size)
 replace B1:=hG.b1 B1
 replace Blk:=Bl
 clear Bl
 clear hW hG By lk
 refine Blk.k3 fun B7 B8 B9=>?_
 exact bodyPost_ret (v:=.tuple #[.agg #[.bool false,.slice none 0 0,.slice none 0 0],.int .i64 Bt]) (by simp[results,Tryz.results18,go_sem,B7,B8,B9]) rfl ⟨_,_,rfl,(PV.zero _).of_eq (show _=dsE l x from (if_neg (by rw[hE.out];exact fun h=>absurd (B5.out.trans h) Bu.out)).symm),(by rw[Bw.out]<;>rfl),hs⟩
end Go.Proofs.YtbnomdlojmgigaaGreat
