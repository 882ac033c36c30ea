/-
  plane: how far a point is from a polygon; Where, Distance of any list.
-/
import Derived.Test.YtidmjdmmpajooaaGreatPlXN
import Derived.Test.YtidmjdmmpajooaaGreatPlYN
import Derived.Test.YtidmjdmmpajooaaGreatPkV12N
set_option linter.unusedSimpArgs false
set_option linter.unusedVariables false
set_option maxRecDepth 100000
set_option maxHeartbeats 16000000
namespace Go.Proofs.YtidmjdmmpajooaaGreat
open Go.RowKit Dg
attribute [local go_sem ↓] Go.wp_at_zero Go.wp_at_succ
attribute [local go_sem] Oper.semAt_some
theorem keep_putD {W:World} {D:Nat} {o o':Obj} (hD:W.heap[D]?=some o) (ho:o.isCells=false):aw W (W.putObj D o'):=
 ⟨by rw[World.putObj_size];exact ag _,fun k t hk _=>World.putObj_heap_other (fun e=>by
  subst e
  obtain⟨cs,fr,hk⟩:=hk
  rw[hD] at hk
  cases hk
  cases ho)⟩
theorem jz.boxp (n:Nat) {g:Nat} {x:Rat}:jz n (fun W=>BoxP W g x):=⟨fun _ _ h hb=>h.mono hb,fun _ _ _ _ _ h hp=>h.putL hp⟩
theorem dq_sz {a b q:Pt} (ha:WP 1048576 a) (hb:WP 1048576 b) (hq:WP 1048576 q):SzQ 10 (dsQ a b q):=by
 have s2:∀{n:Int},Wn 17592186044416 n→SzQ 2 (n:Rat):=fun h=>qj (h.mono (by decide))
 by_cases h:dtZ (mnZ q a) (mnZ b a)≤0
 ·rw[dq_1 h];exact (s2 (fr_wn2 ha hq)).mono (by decide)
 by_cases k:dtZ (mnZ b a) (mnZ b a)≤dtZ (mnZ q a) (mnZ b a)
 ·rw[dq_2 h k];exact (s2 (fr_wn2 hb hq)).mono (by decide)
 rw[dq_3 h k]
 exact (SzQ.div (SzQ.mul (s2 (cr_wn (wg hb ha) (wg hq ha))) (s2 (cr_wn (wg hb ha) (wg hq ha)))) (s2 (dt_wn (wg hb ha) (wg hb ha))) (fun e=>absurd (Rat.intCast_eq_zero_iff.1 e) (by omega))).mono (by decide)
theorem bq_sz {l:List Pt} {q:Pt} (hp:∀p∈l,WP 1048576 p) (hq:WP 1048576 q):∀k,SzQ 10 (bdQ l q k)
 | 0=>jn.mono (by decide)
 | k + 1=>by
  unfold bdQ
  split
  ·exact dq_sz (WP.pt (by decide) hp _) (WP.pt (by decide) hp _) hq
  split
  ·exact dq_sz (WP.pt (by decide) hp _) (WP.pt (by decide) hp _) hq
  exact bq_sz hp hq k
theorem bq_0 {l:List Pt} {q:Pt} {k:Nat} (hk:k=0):bdQ l q (k + 1)=dsQ (ptZ l k) (ptZ l ((k + 1) % l.length)) q:=if_pos hk
theorem bq_t {l:List Pt} {q:Pt} {k:Nat} (hk:¬ k=0) (h:dsQ (ptZ l k) (ptZ l ((k + 1) % l.length)) q < bdQ l q k):bdQ l q (k + 1)=dsQ (ptZ l k) (ptZ l ((k + 1) % l.length)) q:=(if_neg hk).trans (if_pos h)
theorem bq_f {l:List Pt} {q:Pt} {k:Nat} (hk:¬ k=0) (h:¬ dsQ (ptZ l k) (ptZ l ((k + 1) % l.length)) q < bdQ l q k):bdQ l q (k + 1)=bdQ l q k:=(if_neg hk).trans (if_neg h)
theorem pl_boundary (v:Value) (l:List Pt) (x:Pt) (w:World) (hl:Pts w v l) (h0:0 < l.length) (hn:l.length≤1000) (hp:∀p∈l,WP 1048576 p) (hx:WP 1048576 x):
  Calls Tryz.prog 45 #[v,.agg #[.int .i64 x.1,.int .i64 x.2]] w (mp w (bdQ l x l.length)):=by
 obtain⟨ao,cap,rfl,hc1,hc2,hc3⟩:=hl.slice
 have hs:=Below.refl w.heap.size w
 have HL:=ae hl
 have HP:=ae hp
 have HX:=ae hx
 have HN:=ae hn
 clear hl hp hx
 refine (callsIn_wide (n:=2)).1 (callsIn_of_wp_marks Tryz.func45 rfl trivial ?_)
 simp only[Tryz.ntmps45,List.size_toArray,List.length_cons,List.length_nil,Nat.reduceAdd,Nat.reduceSub,Array.replicate_succ,
   Array.replicate_zero,List.push_toArray,List.append_toArray,List.nil_append,List.cons_append]
 refine wpIn_wide.2 ?_
 go_wp2_with fail
 refine Calls.abs ?_
 intro w1 hW
 have hG:Gr [] w w1:=by rw[hW];exact (Gr.refl _ _).alloc.alloc.alloc
 have Cx:=hs.size
 have B1:Bx w1 (w.heap.size) 24 #[.int .i64 x.1,.int .i64 x.2]:=by rw[hW];exact (((Bx.new0 _ _ _).alloc _).alloc _)
 have Blk:Bx w1 (w.heap.size + 1) 37 #[.bool false,.slice none 0 0,.slice none 0 0]:=by rw[hW];exact ((Bx.new0 _ _ _).alloc _)
 have B0:Bx w1 (w.heap.size + 1 + 1) 37 #[.bool false,.slice none 0 0,.slice none 0 0]:=by rw[hW];exact (Bx.new0 _ _ _)
 replace hs:=hs.trans (hG.below0 hs.size)
 clear hW hG
 have Cr:=B0.lt
 have D6:=B1.lt
 have D5:=Blk.lt
 have Cq:=B0.lt
 with_reducible refine (ph _ _ _ _).mono ?_
 rintro e w2 ⟨rfl,B3,hb⟩
 revert B1 Blk B0;refine mS hs hb ?_;clear hs hb;intro hs B1 Blk B0
 go_wp2_with fail
 have nr_q_0:=B1.lt
 have nr_k_0:=Blk.lt
 have Cw:=B0.lt
 have D4:=B3.lt
 have nz_0:=hs.size
 refine edgesR (w1.heap.size) _ l w (fun k W=>Bx W (w.heap.size) 24 #[.int .i64 x.1,.int .i64 x.2]∧Bx W (w.heap.size + 1) 37 #[.bool false,.slice none 0 0,.slice none 0 0]∧BoxP W (w.heap.size + 1 + 1) (bdQ l x k)) (fun c W=>False) rfl rfl HL.out (by omega) hs B3 (fun _=>(.and (.bx _) (.and (.bx _) (.boxp _)))) (fun c=>(.prop _ _)) ⟨B1,Blk,⟨_,_,_,_,_,_,_,B0,(PV.zero _)⟩⟩ ?hbody0 ?hend0 ?hret0
 case hbody0=>
  clear hs B3 B1 Blk B0
  intro Ck Cm k W0 RR0 hlpa0 hlpb0 hk0 hn0 e1 hs B3 hI hD Cd
  replace Cd:=ae Cd
  replace e1:AtB Cm (.loop (Ck .ready none)) W0:=⟨e1⟩
  replace hD:AtB w2.heap.size (.deferred (some [])) W0:=⟨hD⟩
  obtain⟨B1,Blk,⟨Bf,Bc,Be,Bd,B9,Bb,Ba,B0,B2⟩⟩:=hI
  skip
  have B5:=Kp.refl (w2.heap.size + 2) W0
  obtain⟨p,Hp⟩:∃z:Pt,z=ptZ l k:=⟨_,rfl⟩
  obtain⟨q,Hq⟩:∃z:Pt,z=nxZ l k:=⟨_,rfl⟩
  rw[←Hp,←Hq]
  replace Hp:=ae Hp
  replace Hq:=ae Hq
  have Bp:WP 1048576 p:=by rw[Hp.out];exact WP.pt (by decide) HP.out _
  have Bq:WP 1048576 q:=by rw[Hq.out];exact WP.pt (by decide) HP.out _
  gi_wp2
  repeat ((with_reducible refine And.intro ?_ ?_);exact trivial;gi_wp2)
  generalize hW_:(W0.alloc (.cells #[.int .i64 p.1,.int .i64 p.2,.int .i64 q.1,.int .i64 q.2] 69))=w3
  have hW:=hW_.symm
  clear hW_
  have hG:Gr [] W0 w3:=by rw[hW];exact (Gr.refl _ _).alloc
  have sz_w3:=hs.size
  have nq_w3:=B1.lt
  have nk_w3:=Blk.lt
  have Cz:=B0.lt
  have nx1_w3:=B3.lt
  have Bg:Bx w3 (W0.heap.size) 69 #[.int .i64 p.1,.int .i64 p.2,.int .i64 q.1,.int .i64 q.2]:=by rw[hW];exact (Bx.new0 _ _ _)
  replace hs:=hs.trans (hG.below0 hs.size)
  replace e1:=atB _ _ _ e1 (hG.below0 (ag _))
  replace hD:=atB _ _ _ hD (hG.below0 (ag _))
  replace B5:=kpJ _ _ _ B5 (hG.below0 (ag _))
  revert B3 B1 Blk B0 B2;refine g0 hG ?_;intro B3 B1 Blk B0 B2
  clear hW hG
  have hz_w3:=Bg.lt
  refine⟨e1.h,?_⟩
  obtain⟨w4,Bt⟩:∃x,x=w3.putObj Cm (.loop (Ck .busy none)):=⟨_,rfl⟩
  rw[←Bt]
  have hsl:=hs.size
  replace hs:Below w.heap.size w w4:=by rw[Bt];exact hs.trans (belowK_b (ag _) _ Cm _ _ (by omega) e1.h rfl rfl)
  replace B1:Bx w4 (w.heap.size) 24 #[.int .i64 x.1,.int .i64 x.2]:=by rw[Bt];exact B1.putL e1.h
  replace Blk:Bx w4 (w.heap.size + 1) 37 #[.bool false,.slice none 0 0,.slice none 0 0]:=by rw[Bt];exact Blk.putL e1.h
  replace B0:Bx w4 (w.heap.size + 1 + 1) 37 #[.bool Bf,.slice Bc Be Bd,.slice B9 Bb Ba]:=by rw[Bt];exact B0.putL e1.h
  replace B3:Bx w4 (w1.heap.size) 32 #[.slice ao l.length cap]:=by rw[Bt];exact B3.putL e1.h
  replace Bg:Bx w4 (W0.heap.size) 69 #[.int .i64 p.1,.int .i64 p.2,.int .i64 q.1,.int .i64 q.2]:=by rw[Bt];exact Bg.putL e1.h
  replace B2:PV w4 (.agg #[.bool Bf,.slice Bc Be Bd,.slice B9 Bb Ba]) (bdQ l x k):=by rw[Bt];exact B2.keep (.putL e1.h)
  replace hD:AtB w2.heap.size (.deferred (some [])) w4:=by rw[Bt];exact⟨(World.putObj_heap_other (by omega)).trans hD.h⟩
  replace B5:Kp (w2.heap.size + 2) W0 w4:=by rw[Bt];exact B5.putL (by have:=B5.1;omega) _
  replace e1:AtB Cm (.loop (Ck .busy none)) w4:=by rw[Bt];exact⟨World.putObj_heap_same (Array.getElem?_eq_some_iff.1 e1.h).1⟩
  clear Bt hsl
  refine Bg.k4l fun D0 D1 D2 D3 Le=>?_
  refine B1.k2l fun Bu Bv Lq=>?_
  gi_wp2_with fail
  try ((with_reducible refine And.intro ?_ (And.intro ?_ ?_));exact trivial;exact rfl)
  repeat ((with_reducible refine And.intro ?_ ?_);exact trivial;gi_wp2_with fail)
  try ((with_reducible refine And.intro ?_ (And.intro ?_ ?_));exact trivial;exact rfl)
  clear D0 D1 D2 D3 Bu Bv Le Lq
  with_reducible refine (kb (ed_distance p q x _ Bp Bq HX.out)).mono ?_
  rintro e w5 ⟨_,rfl,h2,hb⟩
  obtain⟨C4,C0,C3,C1,Bw,Bz,By,rfl⟩:=h2.shape
  replace hs:=ar hs hb
  revert B2;revert Bg;revert B3;revert B0;revert Blk;revert B1;refine mo hb ?_;intro B1 Blk B0 B3 Bg B2
  replace e1:=atB _ _ _ e1 hb
  replace hD:=atB _ _ _ hD hb
  replace B5:=kpJ _ _ _ B5 hb
  clear hb
  by_cases q3:k=0
  ·have q3b:((k:Int) == 0)=true:=beq_iff_eq.2 (by omega)
   have q3n:((k:Int) != 0)=false:=bne_eq_false_iff_eq.2 (by omega)
   have Cn:=ae q3
   clear q3
   gi_upto_region 7 with fail
   repeat ((with_reducible refine And.intro ?_ ?_);exact trivial;gi_upto_region 7 with fail)
   refine Code.absI ?_
   intro w6 hW
   have hG:Gr [] w5 w6:=by rw[hW];exact (Gr.refl _ _).alloc
   have Cy:=hs.size
   have Cv:=B1.lt
   have Cu:=Blk.lt
   have Ce:=B0.lt
   have Cp:=B3.lt
   have Ct:=Bg.lt
   have Bl:Bx w6 (w5.heap.size) 37 #[.bool C4,.slice C0 C3 C1,.slice Bw Bz By]:=by rw[hW];exact (Bx.new0 _ _ _)
   replace hs:=hs.trans (hG.below0 hs.size)
   replace e1:=atB _ _ _ e1 (hG.below0 (ag _))
   replace hD:=atB _ _ _ hD (hG.below0 (ag _))
   replace B5:=kpJ _ _ _ B5 (hG.below0 (ag _))
   revert h2 B1 Blk B0 B3 Bg B2;refine g0 hG ?_;intro h2 B1 Blk B0 B3 Bg B2
   clear hW hG
   have Cs:=Bl.lt
   refine Bl.k3l fun Ch Ci Cj Lx=>?_
   refine B0.k3fl fun Bh Bi Bj C8 Bn=>?_
   gi_wp2
   repeat ((with_reducible refine And.intro ?_ ?_);exact trivial;gi_wp2)
   clear Ch Ci Cj Bh Bi Bj C8 Lx Bn
   generalize hW_:(((w6.setCell ⟨w.heap.size + 1 + 1,0,none⟩ (.bool C4)).setCell ⟨w.heap.size + 1 + 1,1,none⟩ (.slice C0 C3 C1)).setCell ⟨w.heap.size + 1 + 1,2,none⟩ (.slice Bw Bz By))=w7
   have hW:=hW_.symm
   clear hW_
   have hG:Gr [w.heap.size + 1 + 1] w6 w7:=by rw[hW];exact (Gr.refl _ _).set.set.set
   have Br:=hs.size
   have Ca:=B0.lt
   have hk:=hG.keep ⟨⟨_,B0.ty,by decide⟩,True.intro⟩
   have Bm:Bx w7 (w.heap.size + 1 + 1) 37 #[.bool C4,.slice C0 C3 C1,.slice Bw Bz By]:=by rw[hW];exact B0.set3
   replace hs:=hs.trans (hG.d1 hs.size)
   replace e1:=e1.gr hG (az (by have:=B5.1;omega))
   replace hD:=hD.gr hG (az (by have:=B5.1;omega))
   replace B5:=Kp.gr1 B5 hG (by have:=B5.1;omega)
   replace B1:=hG.b1 B1
   replace Blk:=hG.b1 Blk
   replace B3:=hG.b1 B3
   replace Bg:=hG.b1 Bg
   replace Bl:=hG.b1 Bl
   replace B0:=Bm
   clear Bm
   revert h2 B2;refine ke hk ?_;intro h2 B2
   clear hW hG hk Br Ca
   exact Cd.out .normal _ _ ⟨e1.h,hs,B3,B5,⟨B1,Blk,⟨_,_,_,_,_,_,_,B0,(h2.of_eq (show _=bdQ l x (k + 1) from by rw[bq_0 (by have h:=Cn.out;omega),show ptZ l k=p from Hp.out.symm,show ptZ l ((k + 1) % l.length)=q from Hq.out.symm]))⟩⟩⟩ hD.h
  have q3b:((k:Int) == 0)=false:=beq_eq_false_iff_ne.2 (by omega)
  have q3n:((k:Int) != 0)=true:=bne_iff_ne.2 (by omega)
  have Cn:=ae q3
  clear q3
  refine B0.k3l fun Bh Bi Bj Bn=>?_
  have Cg:w.heap.size + 1 < w5.heap.size:=by omega
  gi_wp2_with fail
  try ((with_reducible refine And.intro ?_ (And.intro ?_ ?_));exact trivial;exact rfl)
  repeat ((with_reducible refine And.intro ?_ ?_);exact trivial;gi_wp2_with fail)
  try ((with_reducible refine And.intro ?_ (And.intro ?_ ?_));exact trivial;exact rfl)
  clear Bh Bi Bj Bn Cg
  refine CallsIn.absI ?_
  intro w6 hW
  have hG:Gr [] w5 w6:=by rw[hW];exact (Gr.refl _ _).alloc
  have Cy:=hs.size
  have Cv:=B1.lt
  have Cu:=Blk.lt
  have Ce:=B0.lt
  have Cp:=B3.lt
  have Ct:=Bg.lt
  have Bl:Bx w6 (w5.heap.size) 37 #[.bool C4,.slice C0 C3 C1,.slice Bw Bz By]:=by rw[hW];exact (Bx.new0 _ _ _)
  replace hs:=hs.trans (hG.below0 hs.size)
  replace e1:=atB _ _ _ e1 (hG.below0 (ag _))
  replace hD:=atB _ _ _ hD (hG.below0 (ag _))
  replace B5:=kpJ _ _ _ B5 (hG.below0 (ag _))
  revert h2 B1 Blk B0 B3 Bg B2;refine g0 hG ?_;intro h2 B1 Blk B0 B3 Bg B2
  clear hW hG
  have Cs:=Bl.lt
  with_reducible refine (kb (uk h2 B2 (SzQ.fit (dq_sz Bp Bq HX.out)) (SzQ.fit (bq_sz HP.out HX.out k)))).mono ?_
  rintro e w7 ⟨rfl,hb⟩
  replace hs:=ar hs hb
  revert Bl h2 B1 Blk B0 B3 Bg B2;refine mo hb ?_;intro Bl h2 B1 Blk B0 B3 Bg B2
  replace e1:=atB _ _ _ e1 hb
  replace hD:=atB _ _ _ hD hb
  replace B5:=kpJ _ _ _ B5 hb
  clear hb
  obtain⟨Co,C5⟩:∃s:Int,s=sgQ ((dsQ p q x) - (bdQ l x k)):=⟨_,rfl⟩
  rw[←C5]
  replace C5:=ae C5
  by_cases q5:dsQ p q x < bdQ l x k
  ·have q5_:Co < 0:=by have h:=qg (dsQ p q x) (bdQ l x k);rw[←C5.out] at h;exact h.2 q5
   have q5H:=ae q5
   clear q5
   have q5d:decide (Co < 0)=true:=decide_eq_true q5_
   refine Bl.k3l fun Ch Ci Cj Lx=>?_
   refine B0.k3fl fun Bh Bi Bj C8 Bn=>?_
   gi_wp2
   repeat ((with_reducible refine And.intro ?_ ?_);exact trivial;gi_wp2)
   clear Ch Ci Cj Bh Bi Bj C8 Lx Bn
   generalize hW_:(((w7.setCell ⟨w.heap.size + 1 + 1,0,none⟩ (.bool C4)).setCell ⟨w.heap.size + 1 + 1,1,none⟩ (.slice C0 C3 C1)).setCell ⟨w.heap.size + 1 + 1,2,none⟩ (.slice Bw Bz By))=w8
   have hW:=hW_.symm
   clear hW_
   have hG:Gr [w.heap.size + 1 + 1] w7 w8:=by rw[hW];exact (Gr.refl _ _).set.set.set
   have Br:=hs.size
   have Ca:=B0.lt
   have hk:=hG.keep ⟨⟨_,B0.ty,by decide⟩,True.intro⟩
   have Bm:Bx w8 (w.heap.size + 1 + 1) 37 #[.bool C4,.slice C0 C3 C1,.slice Bw Bz By]:=by rw[hW];exact B0.set3
   replace hs:=hs.trans (hG.d1 hs.size)
   replace e1:=e1.gr hG (az (by have:=B5.1;omega))
   replace hD:=hD.gr hG (az (by have:=B5.1;omega))
   replace B5:=Kp.gr1 B5 hG (by have:=B5.1;omega)
   replace B1:=hG.b1 B1
   replace Blk:=hG.b1 Blk
   replace B3:=hG.b1 B3
   replace Bg:=hG.b1 Bg
   replace Bl:=hG.b1 Bl
   replace B0:=Bm
   clear Bm
   revert h2 B2;refine ke hk ?_;intro h2 B2
   clear hW hG hk Br Ca
   exact Cd.out .normal _ _ ⟨e1.h,hs,B3,B5,⟨B1,Blk,⟨_,_,_,_,_,_,_,B0,(h2.of_eq (show _=bdQ l x (k + 1) from by rw[bq_t (by have h:=Cn.out;omega) (by rw[show ptZ l k=p from Hp.out.symm,show ptZ l ((k + 1) % l.length)=q from Hq.out.symm];exact q5H.out),show ptZ l k=p from Hp.out.symm,show ptZ l ((k + 1) % l.length)=q from Hq.out.symm]))⟩⟩⟩ hD.h
  have q5_:¬ (Co < 0):=by have h:=qg (dsQ p q x) (bdQ l x k);rw[←C5.out] at h;exact fun h1=>q5 (h.1 h1)
  have q5H:=ae q5
  clear q5
  have q5d:decide (Co < 0)=false:=decide_eq_false q5_
  gi_wp2
  repeat ((with_reducible refine And.intro ?_ ?_);exact trivial;gi_wp2)
  exact Cd.out .normal _ _ ⟨e1.h,hs,B3,B5,⟨B1,Blk,⟨_,_,_,_,_,_,_,B0,(B2.of_eq (show _=bdQ l x (k + 1) from by rw[bq_f (by have h:=Cn.out;omega) (by rw[show ptZ l k=p from Hp.out.symm,show ptZ l ((k + 1) % l.length)=q from Hq.out.symm];exact q5H.out)]))⟩⟩⟩ hD.h
 case hend0=>
  clear hs B3 B1 Blk B0
  intro D Bs hDe hn0 C2 hs hI
  replace C2:AtB D (.deferred (some [])) Bs:=⟨C2⟩
  obtain⟨B1,Blk,⟨Bf,Bc,Be,Bd,B9,Bb,Ba,B0,B2⟩⟩:=hI
  skip
  refine B0.k3l fun Bh Bi Bj Bn=>?_
  refine Blk.k3fl fun B6 B7 B8 fk Lk=>?_
  go_wp2
  clear Bh Bi Bj B6 B7 B8 fk Bn Lk
  generalize hW_:(((Bs.setCell ⟨w.heap.size + 1,0,none⟩ (.bool Bf)).setCell ⟨w.heap.size + 1,1,none⟩ (.slice Bc Be Bd)).setCell ⟨w.heap.size + 1,2,none⟩ (.slice B9 Bb Ba))=w3
  have hW:=hW_.symm
  clear hW_
  have hG:Gr [w.heap.size + 1] Bs w3:=by rw[hW];exact (Gr.refl _ _).set.set.set
  have Br:=hs.size
  have lk:=Blk.lt
  have hk:=hG.keep ⟨⟨_,Blk.ty,by decide⟩,True.intro⟩
  have Bk:Bx w3 (w.heap.size + 1) 37 #[.bool Bf,.slice Bc Be Bd,.slice B9 Bb Ba]:=by rw[hW];exact Blk.set3
  replace hs:=hs.trans (hG.d1 hs.size)
  replace C2:=C2.gr hG (az (by omega))
  replace B1:=hG.b1 B1
  replace B0:=hG.b1 B0
  replace Blk:=Bk
  clear Bk
  replace B2:=B2.keep hk
  clear hW hG hk Br lk
  have BD_:=Blk.putD (o':=.deferred none) C2.h
  have cr0:=BD_.at 0 rfl
  have cr1:=BD_.at 1 rfl
  have cr2:=BD_.at 2 rfl
  refine⟨by simp,.inl ⟨_,_,rfl,run_takeDeferred C2.h,?_⟩⟩
  refine⟨_,by simp[results,Tryz.results45,go_sem,cr0,cr1,cr2],⟨_,rfl,B2.keep (keep_putD C2.h rfl),hs.trans (belowK_b (ag _) _ D _ _ (by omega) C2.h rfl rfl)⟩⟩
 case hret0=>
  clear hs B3 B1 Blk B0
  intro c D W _ _ _ _ h
  exact h.elim
def weE (l:List Pt) (x:Pt):Int:=if fl l=0 then (if rtB x=true then 0 else 1) else fl l
def dsE (l:List Pt) (x:Pt):Rat:=if weE l x=0 then diQ l x else 0
theorem we_1 {l:List Pt} {x:Pt} (h:¬ fl l=0):weE l x=fl l:=if_neg h
theorem we_2 {l:List Pt} {x:Pt} (h:fl l=0) (k:rtB x=false):weE l x=1:=(if_pos h).trans (if_neg (by rw[k];decide))
theorem we_3 {l:List Pt} {x:Pt} (h:fl l=0) (k:rtB x=true):weE l x=0:=(if_pos h).trans (if_pos k)
theorem tj (v:Value) (l:List Pt) (x:Pt) (w:World) (hl:Pts w v l) {re:Int} (he:re=weE l x):
  Calls Tryz.prog 10 #[v,.agg #[.int .i64 x.1,.int .i64 x.2]] w (Ret2 (fun w v=>PV w v (dsE l x)) (fun _ v=>v=.int .i64 re) w):=by
 obtain⟨ao,cap,rfl,hc1,hc2,hc3⟩:=hl.slice
 have hs:=Below.refl w.heap.size w
 have HL:=ae hl
 have Cl:=ae he
 clear hl he
 go_enter Tryz.func10,Tryz.ntmps10
 go_wp2_with fail
 refine Calls.abs ?_
 intro w1 hW
 have hG:Gr [] w w1:=by rw[hW];exact (Gr.refl _ _).alloc.alloc
 have Cx:=hs.size
 have B1:Bx w1 (w.heap.size) 24 #[.int .i64 x.1,.int .i64 x.2]:=by rw[hW];exact ((Bx.new0 _ _ _).alloc _)
 have Blk:Bx w1 (w.heap.size + 1) 37 #[.bool false,.slice none 0 0,.slice none 0 0]:=by rw[hW];exact (Bx.new0 _ _ _)
 replace hs:=hs.trans (hG.below0 hs.size)
 clear hW hG
 have Cr:=Blk.lt
 with_reducible refine (tg _ l _ (be.mono IP.kept HL.out hs)).mono ?_
 rintro e w2 ⟨rfl,hb⟩
 revert B1 Blk;refine mS hs hb ?_;clear hs hb;intro hs B1 Blk
 obtain⟨C7,Bo⟩:∃s:Int,s=fl l:=⟨_,rfl⟩
 rw[←Bo]
 replace Bo:=ae Bo
 by_cases q2:C7=0
 ·have q2b:(C7 == 0)=true:=beq_iff_eq.2 (by omega)
  have q2n:(C7 != 0)=false:=bne_eq_false_iff_eq.2 (by omega)
  have Cb:=ae q2
  clear q2
  refine B1.k2l fun Bu Bv Lq=>?_
  go_wp2_with fail
  clear Bu Bv Lq
  with_reducible refine (je3 x _).mono ?_
  rintro e w3 ⟨rfl,hb⟩
  revert B1 Blk;refine mS hs hb ?_;clear hs hb;intro hs B1 Blk
  obtain⟨b3,Cc⟩:∃zz:Bool,zz=rtB x:=⟨_,rfl⟩
  rw[←Cc]
  replace Cc:=ae Cc
  by_cases q4:rtB x=true
  ·obtain rfl:b3=true:=by rw[Cc.out];exact q4
   have Cf:=ae q4
   clear q4
   have HK:=ae (kg (Bo.out.symm.trans Cb.out))
   have HX:=ae (jm Cf.out)
   refine B1.k2l fun Bu Bv Lq=>?_
   go_wp2_with fail
   clear Bu Bv Lq
   with_reducible refine (pl_where _ l x _ (be.mono IP.kept HL.out hs) (by have:=HK.out.2.1;omega) (by have:=HK.out.1;omega) HK.out.2.2 HX.out).mono ?_
   rintro e w4 ⟨rfl,hb⟩
   revert Blk;revert B1;refine mS hs hb ?_;clear hs hb;intro hs B1 Blk
   obtain⟨wz5,C6⟩:∃s:Int,s=whZ l x:=⟨_,rfl⟩
   rw[←C6]
   replace C6:=ae C6
   by_cases q6:0≤wz5
   ·have q6d:((0:Int)≤wz5)=True:=eq_true (by omega)
    have hE:=ae (show weE l x=0 from we_3 (Bo.out.symm.trans Cb.out) Cf.out)
    have C9:=ae (show re=0 from Cl.out.trans (hE.out))
    refine Blk.k3fl fun B6 B7 B8 fk Lk=>?_
    go_wp2
    clear B6 B7 B8 fk Lk
    refine bodyPost.abs ?_
    intro w5 hW
    have hG:Gr [w.heap.size + 1] w4 w5:=by rw[hW];exact (Gr.refl _ _).set.set.set
    have Br:=hs.size
    have lk:=Blk.lt
    have Bk:Bx w5 (w.heap.size + 1) 37 #[.bool false,.slice none 0 0,.slice none 0 0]:=by rw[hW];exact Blk.set3
    replace hs:=hs.trans (hG.d1 hs.size)
    replace B1:=hG.b1 B1
    replace Blk:=Bk
    clear Bk
    clear hW hG Br lk
    refine Blk.k3 fun B6 B7 B8=>?_
    exact bodyPost_ret (v:=.tuple #[.agg #[.bool false,.slice none 0 0,.slice none 0 0],.int .i64 0]) (by simp[results,Tryz.results10,go_sem,B6,B7,B8]) rfl ⟨_,_,rfl,(PV.zero _).of_eq (show _=dsE l x from ((if_pos hE.out).trans (if_pos (by rw[←C6.out];omega))).symm),(by rw[C9.out]<;>rfl),hs⟩
   have q6d:((0:Int)≤wz5)=False:=eq_false (by omega)
   refine B1.k2l fun Bu Bv Lq=>?_
   go_wp2_with fail
   clear Bu Bv Lq
   with_reducible refine (pl_boundary _ l x _ (be.mono IP.kept HL.out hs) (by have:=HK.out.2.1;omega) (by have:=HK.out.1;omega) HK.out.2.2 HX.out).mono ?_
   rintro e w5 ⟨_,rfl,h7,hb⟩
   obtain⟨sh7,ah7,nh7,ch7,Ah7,Nh7,Ch7,rfl⟩:=h7.shape
   revert Blk;revert B1;refine mS hs hb ?_;clear hs hb;intro hs B1 Blk
   have hE:=ae (show weE l x=0 from we_3 (Bo.out.symm.trans Cb.out) Cf.out)
   have C9:=ae (show re=0 from Cl.out.trans (hE.out))
   refine Blk.k3fl fun B6 B7 B8 fk Lk=>?_
   go_wp2
   clear B6 B7 B8 fk Lk
   refine bodyPost.abs ?_
   intro w6 hW
   have hG:Gr [w.heap.size + 1] w5 w6:=by rw[hW];exact (Gr.refl _ _).set.set.set
   have Br:=hs.size
   have lk:=Blk.lt
   have hk:=hG.keep ⟨⟨_,Blk.ty,by decide⟩,True.intro⟩
   have Bk:Bx w6 (w.heap.size + 1) 37 #[.bool sh7,.slice ah7 nh7 ch7,.slice Ah7 Nh7 Ch7]:=by rw[hW];exact Blk.set3
   replace hs:=hs.trans (hG.d1 hs.size)
   replace B1:=hG.b1 B1
   replace Blk:=Bk
   clear Bk
   replace h7:=h7.keep hk
   clear hW hG hk Br lk
   refine Blk.k3 fun B6 B7 B8=>?_
   exact bodyPost_ret (v:=.tuple #[.agg #[.bool sh7,.slice ah7 nh7 ch7,.slice Ah7 Nh7 Ch7],.int .i64 0]) (by simp[results,Tryz.results10,go_sem,B6,B7,B8]) rfl ⟨_,_,rfl,h7.of_eq (show _=dsE l x from ((if_pos hE.out).trans (if_neg (by rw[←C6.out];omega))).symm),(by rw[C9.out]<;>rfl),hs⟩
  obtain rfl:b3=false:=by rw[Cc.out];simpa using q4
  have Cf:=ae q4
  clear q4
  have hE:=ae (show weE l x=1 from we_2 (Bo.out.symm.trans Cb.out) (Bool.eq_false_iff.2 Cf.out))
  have C9:=ae (show re=1 from Cl.out.trans (hE.out))
  refine Blk.k3fl fun B6 B7 B8 fk Lk=>?_
  go_wp2
  clear B6 B7 B8 fk Lk
  refine bodyPost.abs ?_
  intro w4 hW
  have hG:Gr [w.heap.size + 1] w3 w4:=by rw[hW];exact (Gr.refl _ _).set.set.set
  have Br:=hs.size
  have lk:=Blk.lt
  have Bk:Bx w4 (w.heap.size + 1) 37 #[.bool false,.slice none 0 0,.slice none 0 0]:=by rw[hW];exact Blk.set3
  replace hs:=hs.trans (hG.d1 hs.size)
  replace B1:=hG.b1 B1
  replace Blk:=Bk
  clear Bk
  clear hW hG Br lk
  refine Blk.k3 fun B6 B7 B8=>?_
  exact bodyPost_ret (v:=.tuple #[.agg #[.bool false,.slice none 0 0,.slice none 0 0],.int .i64 1]) (by simp[results,Tryz.results10,go_sem,B6,B7,B8]) rfl ⟨_,_,rfl,(PV.zero _).of_eq (show _=dsE l x from (if_neg (by rw[hE.out];decide)).symm),(by rw[C9.out]<;>rfl),hs⟩
 have q2b:(C7 == 0)=false:=beq_eq_false_iff_ne.2 (by omega)
 have q2n:(C7 != 0)=true:=bne_iff_ne.2 (by omega)
 have Cb:=ae q2
 clear q2
 have hE:=ae (show weE l x=fl l from we_1 (fun h=>absurd (Bo.out.trans h) Cb.out))
 have C9:=ae (show re=C7 from Cl.out.trans (hE.out.trans Bo.out.symm))
 refine Blk.k3fl fun B6 B7 B8 fk Lk=>?_
 go_wp2
 clear B6 B7 B8 fk Lk
 refine bodyPost.abs ?_
 intro w3 hW
 have hG:Gr [w.heap.size + 1] w2 w3:=by rw[hW];exact (Gr.refl _ _).set.set.set
 have Br:=hs.size
 have lk:=Blk.lt
 have Bk:Bx w3 (w.heap.size + 1) 37 #[.bool false,.slice none 0 0,.slice none 0 0]:=by rw[hW];exact Blk.set3
 replace hs:=hs.trans (hG.d1 hs.size)
 replace B1:=hG.b1 B1
 replace Blk:=Bk
 clear Bk
 clear hW hG Br lk
 refine Blk.k3 fun B6 B7 B8=>?_
 exact bodyPost_ret (v:=.tuple #[.agg #[.bool false,.slice none 0 0,.slice none 0 0],.int .i64 C7]) (by simp[results,Tryz.results10,go_sem,B6,B7,B8]) rfl ⟨_,_,rfl,(PV.zero _).of_eq (show _=dsE l x from (if_neg (by rw[hE.out];exact fun h=>absurd (Bo.out.trans h) Cb.out)).symm),(by rw[C9.out]<;>rfl),hs⟩
end Go.Proofs.YtidmjdmmpajooaaGreat
