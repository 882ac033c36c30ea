/-
  plane: where a point lies.
-/
import Derived.Test.YtidmjdmmpajooaaGreatPkV17N
import Derived.Test.YtidmjdmmpajooaaGreatPkV0N
set_option linter.unusedSimpArgs false
set_option linter.unusedVariables false
set_option maxRecDepth 100000
set_option maxHeartbeats 16000000
namespace Go.Proofs.YtidmjdmmpajooaaGreat
open Go.RowKit Dg
attribute [local go_sem ↓] Go.wp_at_zero Go.wp_at_succ
attribute [local go_sem] Oper.semAt_some
theorem pl_where (v:Value) (l:List Pt) (x:Pt) (w:World) (hl:Pts w v l) (h0:0 < l.length) (hn:l.length≤1000) (hp:∀p∈l,WP 1048576 p) (hx:WP 1048576 x):
  Calls Tryz.prog 44 #[v,.agg #[.int .i64 x.1,.int .i64 x.2]] w (fj w (.int .i64 (whZ l x))):=by
 obtain⟨ao,cap,rfl,hc1,hc2,hc3⟩:=hl.slice
 have hs:=Below.refl w.heap.size w
 have HL:=ae hl
 have HP:=ae hp
 have HX:=ae hx
 have HN:=ae hn
 clear hl hp hx
 refine (callsIn_wide (n:=2)).1 (callsIn_of_wp_marks Tryz.func44 rfl trivial ?_)
 simp only[Tryz.ntmps44,List.size_toArray,List.length_cons,List.length_nil,Nat.reduceAdd,Nat.reduceSub,Array.replicate_succ,
   Array.replicate_zero,List.push_toArray,List.append_toArray,List.nil_append,List.cons_append]
 refine wpIn_wide.2 ?_
 go_wp2_with fail
 refine Calls.abs ?_
 intro w1 hW
 have hG:Gr [] w w1:=by rw[hW];exact (Gr.refl _ _).alloc.alloc.alloc
 have sz_w1:=hs.size
 have B3:Bx w1 (w.heap.size) 24 #[.int .i64 x.1,.int .i64 x.2]:=by rw[hW];exact (((Bx.new0 _ _ _).alloc _).alloc _)
 have Blk:Bx w1 (w.heap.size + 1) 3 #[.int .i64 0]:=by rw[hW];exact ((Bx.new0 _ _ _).alloc _)
 have B1:Bx w1 (w.heap.size + 1 + 1) 3 #[.int .i64 (-1)]:=by rw[hW];exact (Bx.new0 _ _ _)
 replace hs:=hs.trans (hG.below0 hs.size)
 clear hW hG
 have hz_w1:=B1.lt
 have Dk:=B3.lt
 have Dj:=Blk.lt
 have Cz:=B1.lt
 with_reducible refine (ph _ _ _ _).mono ?_
 rintro e w2 ⟨rfl,B4,hb⟩
 revert B3 Blk B1;refine mS hs hb ?_;clear hs hb;intro hs B3 Blk B1
 go_wp2_with fail
 have nr_q_0:=B3.lt
 have nr_k_0:=Blk.lt
 have Db:=B1.lt
 have Di:=B4.lt
 have nz_0:=hs.size
 refine edgesR (w1.heap.size) _ l w (fun k W=>Bx W (w.heap.size) 24 #[.int .i64 x.1,.int .i64 x.2]∧Bx W (w.heap.size + 1) 3 #[.int .i64 0]∧Bx W (w.heap.size + 1 + 1) 3 #[.int .i64 (whK l x k)]∧onB l x k=false) (fun c W=>c=.ret∧Bx W (w.heap.size + 1) 3 #[.int .i64 0]∧whZ l x=0) rfl rfl HL.out (by omega) hs B4 (fun _=>(.and (.bx _) (.and (.bx _) (.and (.bx _) (.prop _ _))))) (fun c=>(.and (.prop _ _) (.and (.bx _) (.prop _ _)))) ⟨B3,Blk,(by exact B1),rfl⟩ ?hbody0 ?hend0 ?hret0
 case hbody0=>
  clear hs B4 B3 Blk B1
  intro Ck Cl k W0 RR0 hlpa0 hlpb0 hk0 hn0 e1 hs B4 hI hD C2
  replace C2:=ae C2
  replace e1:AtB Cl (.loop (Ck .ready none)) W0:=⟨e1⟩
  replace hD:AtB w2.heap.size (.deferred (some [])) W0:=⟨hD⟩
  obtain⟨B3,Blk,B1,HO⟩:=hI
  skip
  have B6:=Kp.refl (w2.heap.size + 2) W0
  obtain⟨p,Hp⟩:∃z:Pt,z=ptZ l k:=⟨_,rfl⟩
  obtain⟨q,Hq⟩:∃z:Pt,z=nxZ l k:=⟨_,rfl⟩
  rw[←Hp,←Hq]
  replace Hp:=ae Hp
  replace Hq:=ae Hq
  have Bp:WP 1048576 p:=by rw[Hp.out];exact WP.pt (by decide) HP.out _
  have Bq:WP 1048576 q:=by rw[Hq.out];exact WP.pt (by decide) HP.out _
  have hwb:=wh_b l x k
  gi_wp2
  repeat ((with_reducible refine And.intro ?_ ?_);exact trivial;gi_wp2)
  generalize hW_:(W0.alloc (.cells #[.int .i64 p.1,.int .i64 p.2,.int .i64 q.1,.int .i64 q.2] 69))=w3
  have hW:=hW_.symm
  clear hW_
  have hG:Gr [] W0 w3:=by rw[hW];exact (Gr.refl _ _).alloc
  have sz_w3:=hs.size
  have nq_w3:=B3.lt
  have nk_w3:=Blk.lt
  have Dh:=B1.lt
  have nx1_w3:=B4.lt
  have B8:Bx w3 (W0.heap.size) 69 #[.int .i64 p.1,.int .i64 p.2,.int .i64 q.1,.int .i64 q.2]:=by rw[hW];exact (Bx.new0 _ _ _)
  replace hs:=hs.trans (hG.below0 hs.size)
  replace e1:=atB _ _ _ e1 (hG.below0 (ag _))
  replace hD:=atB _ _ _ hD (hG.below0 (ag _))
  replace B6:=kpJ _ _ _ B6 (hG.below0 (ag _))
  revert B4 B3 Blk B1;refine g0 hG ?_;intro B4 B3 Blk B1
  clear hW hG
  have hz_w3:=B8.lt
  refine⟨e1.h,?_⟩
  obtain⟨w4,C1⟩:∃x,x=w3.putObj Cl (.loop (Ck .busy none)):=⟨_,rfl⟩
  rw[←C1]
  have hsl:=hs.size
  replace hs:Below w.heap.size w w4:=by rw[C1];exact hs.trans (belowK_b (ag _) _ Cl _ _ (by omega) e1.h rfl rfl)
  replace B3:Bx w4 (w.heap.size) 24 #[.int .i64 x.1,.int .i64 x.2]:=by rw[C1];exact B3.putL e1.h
  replace Blk:Bx w4 (w.heap.size + 1) 3 #[.int .i64 0]:=by rw[C1];exact Blk.putL e1.h
  replace B1:Bx w4 (w.heap.size + 1 + 1) 3 #[.int .i64 (whK l x k)]:=by rw[C1];exact B1.putL e1.h
  replace B4:Bx w4 (w1.heap.size) 32 #[.slice ao l.length cap]:=by rw[C1];exact B4.putL e1.h
  replace B8:Bx w4 (W0.heap.size) 69 #[.int .i64 p.1,.int .i64 p.2,.int .i64 q.1,.int .i64 q.2]:=by rw[C1];exact B8.putL e1.h
  replace hD:AtB w2.heap.size (.deferred (some [])) w4:=by rw[C1];exact⟨(World.putObj_heap_other (by omega)).trans hD.h⟩
  replace B6:Kp (w2.heap.size + 2) W0 w4:=by rw[C1];exact B6.putL (by have:=B6.1;omega) _
  replace e1:AtB Cl (.loop (Ck .busy none)) w4:=by rw[C1];exact⟨World.putObj_heap_same (Array.getElem?_eq_some_iff.1 e1.h).1⟩
  clear C1 hsl
  refine B8.k4l fun D0 D1 D2 D3 Le=>?_
  refine B3.k2l fun Bm Bn Lq=>?_
  gi_wp2_with fail
  try ((with_reducible refine And.intro ?_ (And.intro ?_ ?_));exact trivial;exact rfl)
  repeat ((with_reducible refine And.intro ?_ ?_);exact trivial;gi_wp2_with fail)
  try ((with_reducible refine And.intro ?_ (And.intro ?_ ?_));exact trivial;exact rfl)
  clear D0 D1 D2 D3 Bm Bn Le Lq
  with_reducible refine (kb (ed_has p q x _ ⟨Bp.1.mono (by decide),Bp.2.mono (by decide)⟩ ⟨Bq.1.mono (by decide),Bq.2.mono (by decide)⟩ ⟨HX.out.1.mono (by decide),HX.out.2.mono (by decide)⟩)).mono ?_
  rintro e w5 ⟨rfl,hb⟩
  replace hs:=ar hs hb
  revert B3 Blk B1 B4 B8;refine mo hb ?_;intro B3 Blk B1 B4 B8
  replace e1:=atB _ _ _ e1 hb
  replace hD:=atB _ _ _ hD hb
  replace B6:=kpJ _ _ _ B6 hb
  clear hb
  obtain⟨b2,Cd⟩:∃zz:Bool,zz=hsZ p q x:=⟨_,rfl⟩
  rw[←Cd]
  replace Cd:=ae Cd
  by_cases q3:hsZ p q x=true
  ·obtain rfl:b2=true:=by rw[Cd.out];exact q3
   have C4:=ae q3
   clear q3
   refine Blk.k1fl fun Ce fk Lk=>?_
   gi_wp2
   repeat ((with_reducible refine And.intro ?_ ?_);exact trivial;gi_wp2)
   clear Ce fk Lk
   generalize hW_:(w5.setCell ⟨w.heap.size + 1,0,none⟩ (.int .i64 0))=w6
   have hW:=hW_.symm
   clear hW_
   have hG:Gr [w.heap.size + 1] w5 w6:=by rw[hW];exact (Gr.refl _ _).set
   have Bw:=hs.size
   have lk:=Blk.lt
   have C8:Bx w6 (w.heap.size + 1) 3 #[.int .i64 0]:=by rw[hW];exact (Bx.set Blk 0 _ rfl)
   replace hs:=hs.trans (hG.d1 hs.size)
   replace e1:=e1.gr hG (az (by have:=B6.1;omega))
   replace hD:=hD.gr hG (az (by have:=B6.1;omega))
   replace B6:=Kp.gr1 B6 hG (by have:=B6.1;omega)
   replace B3:=hG.b1 B3
   replace B1:=hG.b1 B1
   replace B4:=hG.b1 B4
   replace B8:=hG.b1 B8
   replace Blk:=C8
   clear C8
   clear hW hG Bw lk
   exact C2.out .ret _ _ ⟨e1.h,hs,B4,B6,⟨rfl,Blk,wh_on (k:=k) (by omega) (by rw[show ptZ l k=p from Hp.out.symm,show ptZ l ((k + 1) % l.length)=q from Hq.out.symm,←mw];exact C4.out)⟩⟩ hD.h
  obtain rfl:b2=false:=by rw[Cd.out];simpa using q3
  have C4:=ae q3
  clear q3
  have Co:=ae hs
  clear hs
  have hs:=Below.refl w5.heap.size w5
  have nb_q:=B3.lt
  have nb_k:=Blk.lt
  have nb_out:=B1.lt
  have nb_x1:=B4.lt
  have nb_e:=B8.lt
  have Fe1:=ae e1
  clear e1
  have FhD:=ae hD
  clear hD
  have FhT0:=ae B6
  clear B6
  gi_upto_region 6 with fail
  repeat ((with_reducible refine And.intro ?_ ?_);exact trivial;gi_upto_region 6 with fail)
  gi_cut [8,9] from 1000 (fun kv0 kv1 wz=>∃B7 B5,kv0=.pointer (some ⟨B7,0,none⟩)∧kv1=.pointer (some ⟨B5,0,none⟩)∧w5.heap.size≤B7∧B7≠w.heap.size∧B7≠(w.heap.size + 1)∧B7≠(w.heap.size + 1 + 1)∧B7≠w1.heap.size∧B7≠W0.heap.size∧w5.heap.size≤B5∧B5≠w.heap.size∧B5≠(w.heap.size + 1)∧B5≠(w.heap.size + 1 + 1)∧B5≠w1.heap.size∧B5≠W0.heap.size∧B7≠B5∧Bx wz B7 24 #[.int .i64 p.1,.int .i64 p.2]∧Bx wz B5 24 #[.int .i64 q.1,.int .i64 q.2]∧Below w5.heap.size w5 wz∧Bx wz (w.heap.size) 24 #[.int .i64 x.1,.int .i64 x.2]∧Bx wz (w.heap.size + 1) 3 #[.int .i64 0]∧Bx wz (w.heap.size + 1 + 1) 3 #[.int .i64 (whK l x k)]∧Bx wz (w1.heap.size) 32 #[.slice ao l.length cap]∧Bx wz (W0.heap.size) 69 #[.int .i64 p.1,.int .i64 p.2,.int .i64 q.1,.int .i64 q.2])
  case first=>
   refine jb5 (S:=fun w'=>w'.cell? ⟨W0.heap.size,0,none⟩=some (.int .i64 p.1)∧w'.cell? ⟨W0.heap.size,1,none⟩=some (.int .i64 p.2)∧w'.cell? ⟨W0.heap.size,2,none⟩=some (.int .i64 q.1)∧w'.cell? ⟨W0.heap.size,3,none⟩=some (.int .i64 q.2)) (by kernel_rfl) (fun _ _ h=>(show False from h)) (by kernel_rfl) 7 ?_
   refine cq.abs ?_
   intro w6 hW
   have hb:Below w5.heap.size w5 w6:=by rw[hW];exact de _
   replace hs:=ar hs hb
   revert B8;revert B4;revert B1;revert Blk;revert B3;refine mo hb ?_;intro B3 Blk B1 B4 B8
   clear hb hW
   obtain⟨FP,HP⟩:∃FP:World→Prop,∀W,FP W↔(Below w5.heap.size w5 W∧Bx W (w.heap.size) 24 #[.int .i64 x.1,.int .i64 x.2]∧Bx W (w.heap.size + 1) 3 #[.int .i64 0]∧Bx W (w.heap.size + 1 + 1) 3 #[.int .i64 (whK l x k)]∧Bx W (w1.heap.size) 32 #[.slice ao l.length cap]∧Bx W (W0.heap.size) 69 #[.int .i64 p.1,.int .i64 p.2,.int .i64 q.1,.int .i64 q.2]):=⟨_,fun _=>Iff.rfl⟩
   have HM:∀W W',FP W→Below W.heap.size W W'→FP W':=by intro W W' h hb;obtain⟨hs,B3,Blk,B1,B4,B8⟩:=(HP _).1 h;exact (HP _).2 ⟨ar hs hb,B3.mono hb,Blk.mono hb,B1.mono hb,B4.mono hb,B8.mono hb⟩
   have HC:∀W,FP W→W.cell? ⟨W0.heap.size,0,none⟩=some (.int .i64 p.1)∧W.cell? ⟨W0.heap.size,1,none⟩=some (.int .i64 p.2)∧W.cell? ⟨W0.heap.size,2,none⟩=some (.int .i64 q.1)∧W.cell? ⟨W0.heap.size,3,none⟩=some (.int .i64 q.2):=by intro W h;obtain⟨hs,B3,Blk,B1,B4,B8⟩:=(HP _).1 h;exact⟨B8.at 0 rfl,B8.at 1 rfl,B8.at 2 rfl,B8.at 3 rfl⟩
   obtain⟨NE,HN⟩:∃NE:Nat→Prop,∀g,NE g↔(w.heap.size≠g∧(w.heap.size + 1)≠g∧(w.heap.size + 1 + 1)≠g∧w1.heap.size≠g∧W0.heap.size≠g):=⟨_,fun _=>Iff.rfl⟩
   have HE:∀W,FP W→NE W.heap.size:=by intro W h;obtain⟨hs,B3,Blk,B1,B4,B8⟩:=(HP _).1 h;exact (HN _).2 (⟨Nat.ne_of_lt B3.lt,Nat.ne_of_lt Blk.lt,Nat.ne_of_lt B1.lt,Nat.ne_of_lt B4.lt,Nat.ne_of_lt B8.lt⟩)
   have HG:∀W W' g,FP W→Gr [g] W W'→aw W W'→w5.heap.size≤g→NE g→FP W':=by intro W W' g h hG hk hg hn;obtain⟨hs,B3,Blk,B1,B4,B8⟩:=(HP _).1 h;obtain⟨e_q,e_k,Cp,e_x1,e_e⟩:=(HN g).1 hn;exact (HP _).2 ⟨hs.trans (hG.below1 hs.size hg),hG.bx B3 (az e_q),hG.bx Blk (az e_k),hG.bx B1 (az Cp),hG.bx B4 (az e_x1),hG.bx B8 (az e_e)⟩
   have F:FP w6:=(HP _).2 ⟨hs,B3,Blk,B1,B4,B8⟩
   clear hs B3 Blk B1 B4 B8
   have hH:=HC _ F
   refine U_td 0 17 hH ?_
   refine U_td 1 18 hH ?_
   refine U_td 2 19 hH ?_
   refine U_td 3 20 hH ?_
   clear hH
   refine ks ?_
   intro X a0 HX HA
   have Cc:∀(W:World) (Ba:Nat) (B9:Nat),FP W→(w5.heap.size≤Ba)→(NE Ba)→(Bx W Ba 24 #[.int .i64 0,.int .i64 0])→(w5.heap.size≤B9)→(NE B9)→(Bx W B9 24 #[.int .i64 0,.int .i64 0])→(Ba≠B9)→X 2 (LB 8 63) ((a0.put (some 8) (.pointer (some ⟨Ba,0,none⟩))).put (some 9) (.pointer (some ⟨B9,0,none⟩))) W:=by
    intro W Ba B9 F Bs Br B2 Bk Bj B0 Bu
    rw[←HX.out,←HA.out]
    try simp only[LY]
    refine B2.k2fl fun Be Bf C7 Bt=>?_
    refine U_on 6 fun K hK=>?_
    go_simp
    generalize hW_:((W.setCell ⟨Ba,0,none⟩ (.int .i64 p.1)).setCell ⟨Ba,1,none⟩ (.int .i64 p.2))=w7
    have hW:=hW_.symm
    clear hW_
    have hG:Gr [Ba] W w7:=by rw[hW];exact (Gr.refl _ _).set.set
    have hk:=hG.keep ⟨⟨_,B2.ty,by decide⟩,True.intro⟩
    replace B2:Bx w7 (Ba) 24 #[.int .i64 p.1,.int .i64 p.2]:=by rw[hW];exact B2.set2
    replace F:=HG _ _ _ F hG hk Bs Br
    replace B0:=hG.b1 B0
    clear hW hG hk
    refine hK.out _ _ (HC _ F) (fun hH=>?_)
    clear hK K
    try simp only[LY]
    clear hH
    refine B0.k2fl fun Bb Bc C3 Bh=>?_
    refine dr (by kernel_rfl) rfl (by kernel_rfl) (fun K hK=>?_)
    go_simp
    refine hK.out _ _ ?_
    clear hK K
    intro w8 hW
    have hG:Gr [B9] w7 w8:=by rw[hW];exact (Gr.refl _ _).set.set
    have hk:=hG.keep ⟨⟨_,B0.ty,by decide⟩,True.intro⟩
    replace B0:Bx w8 (B9) 24 #[.int .i64 q.1,.int .i64 q.2]:=by rw[hW];exact B0.set2
    replace F:=HG _ _ _ F hG hk Bk Bj
    replace B2:=hG.b1 B2
    clear hW hG hk
    obtain⟨hs,B3,Blk,B1,B4,B8⟩:=(HP _).1 F
    try simp only[LY]
    obtain⟨De,Dd,Ct,D7,Dc⟩:=(HN _).1 Br
    obtain⟨D6,D5,Cq,Cu,D4⟩:=(HN _).1 Bj
    clear HX HA HM HP HC HG HN HE
    gi_wp2_with fail
    try ((with_reducible refine And.intro ?_ (And.intro ?_ ?_));exact trivial;exact rfl)
    repeat ((with_reducible refine And.intro ?_ ?_);exact trivial;gi_wp2_with fail)
    try ((with_reducible refine And.intro ?_ (And.intro ?_ ?_));exact trivial;exact rfl)
    gi_meet
    exact⟨Ba,B9,rfl,rfl,(by first|exact Bs|omega),(by omega),(by omega),(by omega),(by omega),(by omega),(by first|exact Bk|omega),(by omega),(by omega),(by omega),(by omega),(by omega),(by omega),B2,B0,hs,B3,Blk,B1,B4,B8⟩
   replace Cc:=ae Cc
   have Ci:∀(W:World) (B9:Nat),FP W→(w5.heap.size≤B9)→(NE B9)→(Bx W B9 24 #[.int .i64 0,.int .i64 0])→X 3 (LB 8 47) (a0.put (some 9) (.pointer (some ⟨B9,0,none⟩))) W:=by
    intro W B9 F Bk Bj B0
    rw[←HX.out,←HA.out]
    try simp only[LY]
    refine U_on 4 fun K hK=>?_
    go_simp
    refine aq ((HP _).1 F).1 (fun W1 hb B2 Bs=>?_)
    have Br:=HE _ F
    have Bu:=Nat.ne_of_gt B0.lt
    replace F:=HM _ _ F hb
    replace B0:=B0.mono hb
    clear hb
    exact hK.out _ _ (HC _ F) fun _=>bf HX HA (Cc.out W1 W.heap.size B9 F Bs Br B2 Bk Bj B0 Bu)
   replace Ci:=ae Ci
   have Ch:∀(W:World) (Ba:Nat),FP W→(w5.heap.size≤Ba)→(NE Ba)→(Bx W Ba 24 #[.int .i64 0,.int .i64 0])→X 3 (LB 8 31) (a0.put (some 8) (.pointer (some ⟨Ba,0,none⟩))) W:=by
    intro W Ba F Bs Br B2
    rw[←HX.out,←HA.out]
    try simp only[LY]
    refine U_on 5 fun K hK=>?_
    go_simp
    refine aq ((HP _).1 F).1 (fun W1 hb B0 Bk=>?_)
    have Bj:=HE _ F
    have Bu:=Nat.ne_of_lt B2.lt
    replace F:=HM _ _ F hb
    replace B2:=B2.mono hb
    clear hb
    exact hK.out _ _ (HC _ F) fun _=>bf HX HA (Cc.out W1 Ba W.heap.size F Bs Br B2 Bk Bj B0 Bu)
   replace Ch:=ae Ch
   have Cg:∀(W:World),FP W→X 4 (LB 8 15) a0 W:=by
    intro W F
    rw[←HX.out,←HA.out]
    try simp only[LY]
    refine dq (i:=4) (j:=5) (by kernel_rfl) rfl rfl  (fun K hK=>?_) (fun K hK=>?_)
    ·go_simp
     refine aq ((HP _).1 F).1 (fun W1 hb B2 Bs=>?_)
     have Br:=HE _ F
     replace F:=HM _ _ F hb
     clear hb
     exact hK.out _ _ (HC _ F) fun _=>bf HX HA (Ch.out W1 W.heap.size F Bs Br B2)
    go_simp
    refine aq ((HP _).1 F).1 (fun W1 hb B0 Bk=>?_)
    have Bj:=HE _ F
    replace F:=HM _ _ F hb
    clear hb
    exact hK.out _ _ (HC _ F) fun _=>bf HX HA (Ci.out W1 W.heap.size F Bk Bj B0)
   replace Cg:=ae Cg
   rw[←HX.out]
   have Bg:=Cg.out w6 F
   rw[←HX.out] at Bg
   exact U_at (by kernel_rfl) (by kernel_rfl) Bg
  case rest=>
   clear hs B3 Blk B1 B4 B8
   obtain⟨B7,B5,rfl,rfl,hg_low,Da,D9,Cs,Cy,D8,Df,Cx,Cw,Cm,Cr,Cv,Cn,B2,B0,hs,B3,Blk,B1,B4,B8⟩:=hcut
   have e1:=atB _ _ _ Fe1.out hs
   have hD:=atB _ _ _ FhD.out hs
   have B6:=kpJ _ _ _ FhT0.out hs
   replace hs:=ar Co.out hs
   by_cases q5:q.2 < p.2
   ·have q5d:(q.2 < p.2)=True:=eq_true (by omega)
    by_cases q6:q.2≤x.2
    ·have q6d:(q.2≤x.2)=True:=eq_true (by omega)
     by_cases q7:x.2 < p.2
     ·have q7d:(x.2 < p.2)=True:=eq_true (by omega)
      refine B2.k2 fun Be Bf=>?_
      refine B0.k2 fun Bb Bc=>?_
      refine B3.k2l fun Bm Bn Lq=>?_
      have C7:=B2.free
      have Bt:=B2.lt
      have C3:=B0.free
      have Bh:=B0.lt
      gi_wp2_with fail
      try ((with_reducible refine And.intro ?_ (And.intro ?_ ?_));exact trivial;exact rfl)
      repeat ((with_reducible refine And.intro ?_ ?_);exact trivial;gi_wp2_with fail)
      try ((with_reducible refine And.intro ?_ (And.intro ?_ ?_));exact trivial;exact rfl)
      clear Be Bf Bb Bc Bm Bn C7 C3 Bt Bh Lq
      refine CallsIn.absI ?_
      intro w6 hW
      have hG:Gr [B7,B5] wc w6:=by rw[hW];exact (Gr.refl _ _).set.set.set.set
      have Bw:=hs.size
      have Cb:=B2.lt
      have C5:=B0.lt
      have Bd:=hG.below2 hs.size (by first|omega|assumption) (by first|omega|assumption)
      have Bo:Bx w6 (B7) 24 #[.int .i64 q.1,.int .i64 q.2]:=by rw[hW];exact (Bx.far (Bx.far (Bx.set (Bx.set B2 0 _ rfl) 1 _ rfl) (by dsimp only;omega) _) (by dsimp only;omega) _)
      have Bi:Bx w6 (B5) 24 #[.int .i64 p.1,.int .i64 p.2]:=by rw[hW];exact (Bx.set (Bx.set (Bx.far (Bx.far B0 (by dsimp only;omega) _) (by dsimp only;omega) _) 0 _ rfl) 1 _ rfl)
      replace hs:=hs.trans Bd
      replace e1:=e1.gr hG (eh (by have:=B6.1;omega) (by have:=B6.1;omega))
      replace hD:=hD.gr hG (eh (by have:=B6.1;omega) (by have:=B6.1;omega))
      replace B6:=Kp.gr2 B6 hG (by have:=B6.1;omega) (by have:=B6.1;omega)
      replace B3:=hG.bx B3 (eh (by omega) (by omega))
      replace Blk:=hG.bx Blk (eh (by omega) (by omega))
      replace B1:=hG.bx B1 (eh (by omega) (by omega))
      replace B4:=hG.bx B4 (eh (by omega) (by omega))
      replace B8:=hG.bx B8 (eh (by omega) (by omega))
      replace B2:=Bo
      clear Bo
      replace B0:=Bi
      clear Bi
      clear hW hG Bd Bw Cb C5
      with_reducible refine (kb (mc q p x _ ⟨Bq.1.mono (by decide),Bq.2.mono (by decide)⟩ ⟨Bp.1.mono (by decide),Bp.2.mono (by decide)⟩ ⟨HX.out.1.mono (by decide),HX.out.2.mono (by decide)⟩)).mono ?_
      rintro e w7 ⟨rfl,hb⟩
      replace hs:=ar hs hb
      revert B3 Blk B1 B4 B8 B2 B0;refine mo hb ?_;intro B3 Blk B1 B4 B8 B2 B0
      replace e1:=atB _ _ _ e1 hb
      replace hD:=atB _ _ _ hD hb
      replace B6:=kpJ _ _ _ B6 hb
      clear hb
      obtain⟨By,Bl⟩:∃s:Int,s=sdZ q p x:=⟨_,rfl⟩
      rw[←Bl]
      have Wsg8:Wn 1 By:=by rw[Bl];exact sd_wn _ _ _
      replace Bl:=ae Bl
      by_cases q9:0 < By
      ·have q9d:((0:Int) < By)=True:=eq_true (by omega)
       have NX10:IntKind.i64.wrap (-(whK l x k))= -(whK l x k):=IntWalk.i64_in _ (by have:=wh_b l q k;omega)
       refine B1.k1fl fun C0 Cf C9=>?_
       gi_wp2
       repeat ((with_reducible refine And.intro ?_ ?_);exact trivial;gi_wp2)
       clear C0 Cf C9
       generalize hW_:(w7.setCell ⟨w.heap.size + 1 + 1,0,none⟩ (.int .i64 (-(whK l x k))))=w8
       have hW:=hW_.symm
       clear hW_
       have hG:Gr [w.heap.size + 1 + 1] w7 w8:=by rw[hW];exact (Gr.refl _ _).set
       have Bw:=hs.size
       have Cj:=B1.lt
       have Bz:Bx w8 (w.heap.size + 1 + 1) 3 #[.int .i64 (-(whK l x k))]:=by rw[hW];exact (Bx.set B1 0 _ rfl)
       replace hs:=hs.trans (hG.d1 hs.size)
       replace e1:=e1.gr hG (az (by have:=B6.1;omega))
       replace hD:=hD.gr hG (az (by have:=B6.1;omega))
       replace B6:=Kp.gr1 B6 hG (by have:=B6.1;omega)
       replace B3:=hG.b1 B3
       replace Blk:=hG.b1 Blk
       replace B4:=hG.b1 B4
       replace B8:=hG.b1 B8
       replace B2:=hG.b1 B2
       replace B0:=hG.b1 B0
       replace B1:=Bz
       clear Bz
       clear hW hG Bw Cj
       exact C2.out .normal _ _ ⟨e1.h,hs,B4,B6,⟨B3,Blk,(show Bx _ _ _ #[.int .i64 (whK l x (k + 1))] from by rw[wh_t (show ie (ptZ l k) (ptZ l ((k + 1) % l.length)) x=true from by rw[show ptZ l k=p from Hp.out.symm,show ptZ l ((k + 1) % l.length)=q from Hq.out.symm,mi (by omega),decide_eq_true (show (q.2≤x.2) from by omega),decide_eq_true (show (x.2 < p.2) from by omega),decide_eq_true (show (0 < tnZ q p x) from by have h:=@jb1 (tnZ q p x);have e:By=sgZ (tnZ q p x):=Bl.out;rw[←e] at h;omega)];rfl)];exact B1),(by rw[ix HO];exact (by rw[show ptZ l k=p from Hp.out.symm,show ptZ l ((k + 1) % l.length)=q from Hq.out.symm,←mw];exact Bool.eq_false_iff.2 C4.out))⟩⟩ hD.h
      have q9d:((0:Int) < By)=False:=eq_false (by omega)
      gi_wp2
      repeat ((with_reducible refine And.intro ?_ ?_);exact trivial;gi_wp2)
      exact C2.out .normal _ _ ⟨e1.h,hs,B4,B6,⟨B3,Blk,(show Bx _ _ _ #[.int .i64 (whK l x (k + 1))] from by rw[wh_f (show ie (ptZ l k) (ptZ l ((k + 1) % l.length)) x=false from by rw[show ptZ l k=p from Hp.out.symm,show ptZ l ((k + 1) % l.length)=q from Hq.out.symm,mi (by omega),decide_eq_true (show (q.2≤x.2) from by omega),decide_eq_true (show (x.2 < p.2) from by omega),decide_eq_false (show ¬ (0 < tnZ q p x) from by have h:=@jb1 (tnZ q p x);have e:By=sgZ (tnZ q p x):=Bl.out;rw[←e] at h;omega)];simp)];exact B1),(by rw[ix HO];exact (by rw[show ptZ l k=p from Hp.out.symm,show ptZ l ((k + 1) % l.length)=q from Hq.out.symm,←mw];exact Bool.eq_false_iff.2 C4.out))⟩⟩ hD.h
     have q7d:(x.2 < p.2)=False:=eq_false (by omega)
     refine B2.k2 fun Be Bf=>?_
     refine B0.k2 fun Bb Bc=>?_
     refine B3.k2l fun Bm Bn Lq=>?_
     have C7:=B2.free
     have Bt:=B2.lt
     have C3:=B0.free
     have Bh:=B0.lt
     gi_wp2
     repeat ((with_reducible refine And.intro ?_ ?_);exact trivial;gi_wp2)
     clear Be Bf Bb Bc Bm Bn C7 C3 Bt Bh Lq
     generalize hW_:((((wc.setCell ⟨B7,0,none⟩ (.int .i64 q.1)).setCell ⟨B7,1,none⟩ (.int .i64 q.2)).setCell ⟨B5,0,none⟩ (.int .i64 p.1)).setCell ⟨B5,1,none⟩ (.int .i64 p.2))=w6
     have hW:=hW_.symm
     clear hW_
     have hG:Gr [B7,B5] wc w6:=by rw[hW];exact (Gr.refl _ _).set.set.set.set
     have Bw:=hs.size
     have Cb:=B2.lt
     have C5:=B0.lt
     have Bd:=hG.below2 hs.size (by first|omega|assumption) (by first|omega|assumption)
     have Bo:Bx w6 (B7) 24 #[.int .i64 q.1,.int .i64 q.2]:=by rw[hW];exact (Bx.far (Bx.far (Bx.set (Bx.set B2 0 _ rfl) 1 _ rfl) (by dsimp only;omega) _) (by dsimp only;omega) _)
     have Bi:Bx w6 (B5) 24 #[.int .i64 p.1,.int .i64 p.2]:=by rw[hW];exact (Bx.set (Bx.set (Bx.far (Bx.far B0 (by dsimp only;omega) _) (by dsimp only;omega) _) 0 _ rfl) 1 _ rfl)
     replace hs:=hs.trans Bd
     replace e1:=e1.gr hG (eh (by have:=B6.1;omega) (by have:=B6.1;omega))
     replace hD:=hD.gr hG (eh (by have:=B6.1;omega) (by have:=B6.1;omega))
     replace B6:=Kp.gr2 B6 hG (by have:=B6.1;omega) (by have:=B6.1;omega)
     replace B3:=hG.bx B3 (eh (by omega) (by omega))
     replace Blk:=hG.bx Blk (eh (by omega) (by omega))
     replace B1:=hG.bx B1 (eh (by omega) (by omega))
     replace B4:=hG.bx B4 (eh (by omega) (by omega))
     replace B8:=hG.bx B8 (eh (by omega) (by omega))
     replace B2:=Bo
     clear Bo
     replace B0:=Bi
     clear Bi
     clear hW hG Bd Bw Cb C5
     exact C2.out .normal _ _ ⟨e1.h,hs,B4,B6,⟨B3,Blk,(show Bx _ _ _ #[.int .i64 (whK l x (k + 1))] from by rw[wh_f (show ie (ptZ l k) (ptZ l ((k + 1) % l.length)) x=false from by rw[show ptZ l k=p from Hp.out.symm,show ptZ l ((k + 1) % l.length)=q from Hq.out.symm,mi (by omega),decide_eq_true (show (q.2≤x.2) from by omega),decide_eq_false (show ¬ (x.2 < p.2) from by omega)];simp)];exact B1),(by rw[ix HO];exact (by rw[show ptZ l k=p from Hp.out.symm,show ptZ l ((k + 1) % l.length)=q from Hq.out.symm,←mw];exact Bool.eq_false_iff.2 C4.out))⟩⟩ hD.h
    have q6d:(q.2≤x.2)=False:=eq_false (by omega)
    refine B2.k2 fun Be Bf=>?_
    refine B0.k2 fun Bb Bc=>?_
    refine B3.k2l fun Bm Bn Lq=>?_
    have C7:=B2.free
    have Bt:=B2.lt
    have C3:=B0.free
    have Bh:=B0.lt
    gi_wp2
    repeat ((with_reducible refine And.intro ?_ ?_);exact trivial;gi_wp2)
    clear Be Bf Bb Bc Bm Bn C7 C3 Bt Bh Lq
    generalize hW_:((((wc.setCell ⟨B7,0,none⟩ (.int .i64 q.1)).setCell ⟨B7,1,none⟩ (.int .i64 q.2)).setCell ⟨B5,0,none⟩ (.int .i64 p.1)).setCell ⟨B5,1,none⟩ (.int .i64 p.2))=w6
    have hW:=hW_.symm
    clear hW_
    have hG:Gr [B7,B5] wc w6:=by rw[hW];exact (Gr.refl _ _).set.set.set.set
    have Bw:=hs.size
    have Cb:=B2.lt
    have C5:=B0.lt
    have Bd:=hG.below2 hs.size (by first|omega|assumption) (by first|omega|assumption)
    have Bo:Bx w6 (B7) 24 #[.int .i64 q.1,.int .i64 q.2]:=by rw[hW];exact (Bx.far (Bx.far (Bx.set (Bx.set B2 0 _ rfl) 1 _ rfl) (by dsimp only;omega) _) (by dsimp only;omega) _)
    have Bi:Bx w6 (B5) 24 #[.int .i64 p.1,.int .i64 p.2]:=by rw[hW];exact (Bx.set (Bx.set (Bx.far (Bx.far B0 (by dsimp only;omega) _) (by dsimp only;omega) _) 0 _ rfl) 1 _ rfl)
    replace hs:=hs.trans Bd
    replace e1:=e1.gr hG (eh (by have:=B6.1;omega) (by have:=B6.1;omega))
    replace hD:=hD.gr hG (eh (by have:=B6.1;omega) (by have:=B6.1;omega))
    replace B6:=Kp.gr2 B6 hG (by have:=B6.1;omega) (by have:=B6.1;omega)
    replace B3:=hG.bx B3 (eh (by omega) (by omega))
    replace Blk:=hG.bx Blk (eh (by omega) (by omega))
    replace B1:=hG.bx B1 (eh (by omega) (by omega))
    replace B4:=hG.bx B4 (eh (by omega) (by omega))
    replace B8:=hG.bx B8 (eh (by omega) (by omega))
    replace B2:=Bo
    clear Bo
    replace B0:=Bi
    clear Bi
    clear hW hG Bd Bw Cb C5
    exact C2.out .normal _ _ ⟨e1.h,hs,B4,B6,⟨B3,Blk,(show Bx _ _ _ #[.int .i64 (whK l x (k + 1))] from by rw[wh_f (show ie (ptZ l k) (ptZ l ((k + 1) % l.length)) x=false from by rw[show ptZ l k=p from Hp.out.symm,show ptZ l ((k + 1) % l.length)=q from Hq.out.symm,mi (by omega),decide_eq_false (show ¬ (q.2≤x.2) from by omega)];simp)];exact B1),(by rw[ix HO];exact (by rw[show ptZ l k=p from Hp.out.symm,show ptZ l ((k + 1) % l.length)=q from Hq.out.symm,←mw];exact Bool.eq_false_iff.2 C4.out))⟩⟩ hD.h
   have q5d:(q.2 < p.2)=False:=eq_false (by omega)
   by_cases q6:p.2≤x.2
   ·have q6d:(p.2≤x.2)=True:=eq_true (by omega)
    by_cases q7:x.2 < q.2
    ·have q7d:(x.2 < q.2)=True:=eq_true (by omega)
     refine B2.k2l fun Be Bf Bt=>?_
     refine B0.k2l fun Bb Bc Bh=>?_
     refine B3.k2l fun Bm Bn Lq=>?_
     gi_wp2_with fail
     try ((with_reducible refine And.intro ?_ (And.intro ?_ ?_));exact trivial;exact rfl)
     repeat ((with_reducible refine And.intro ?_ ?_);exact trivial;gi_wp2_with fail)
     try ((with_reducible refine And.intro ?_ (And.intro ?_ ?_));exact trivial;exact rfl)
     clear Be Bf Bb Bc Bm Bn Bt Bh Lq
     with_reducible refine (kb (mc p q x _ ⟨Bp.1.mono (by decide),Bp.2.mono (by decide)⟩ ⟨Bq.1.mono (by decide),Bq.2.mono (by decide)⟩ ⟨HX.out.1.mono (by decide),HX.out.2.mono (by decide)⟩)).mono ?_
     rintro e w6 ⟨rfl,hb⟩
     replace hs:=ar hs hb
     revert B8;revert B4;revert B1;revert Blk;revert B3;revert B0;revert B2;refine mo hb ?_;intro B2 B0 B3 Blk B1 B4 B8
     replace e1:=atB _ _ _ e1 hb
     replace hD:=atB _ _ _ hD hb
     replace B6:=kpJ _ _ _ B6 hb
     clear hb
     obtain⟨By,Bl⟩:∃s:Int,s=sdZ p q x:=⟨_,rfl⟩
     rw[←Bl]
     have Wsg8:Wn 1 By:=by rw[Bl];exact sd_wn _ _ _
     replace Bl:=ae Bl
     by_cases q9:0 < By
     ·have q9d:((0:Int) < By)=True:=eq_true (by omega)
      have NX10:IntKind.i64.wrap (-(whK l x k))= -(whK l x k):=IntWalk.i64_in _ (by have:=wh_b l q k;omega)
      refine B1.k1fl fun C0 Cf C9=>?_
      gi_wp2
      repeat ((with_reducible refine And.intro ?_ ?_);exact trivial;gi_wp2)
      clear C0 Cf C9
      generalize hW_:(w6.setCell ⟨w.heap.size + 1 + 1,0,none⟩ (.int .i64 (-(whK l x k))))=w7
      have hW:=hW_.symm
      clear hW_
      have hG:Gr [w.heap.size + 1 + 1] w6 w7:=by rw[hW];exact (Gr.refl _ _).set
      have Bw:=hs.size
      have Cj:=B1.lt
      have Bz:Bx w7 (w.heap.size + 1 + 1) 3 #[.int .i64 (-(whK l x k))]:=by rw[hW];exact (Bx.set B1 0 _ rfl)
      replace hs:=hs.trans (hG.d1 hs.size)
      replace e1:=e1.gr hG (az (by have:=B6.1;omega))
      replace hD:=hD.gr hG (az (by have:=B6.1;omega))
      replace B6:=Kp.gr1 B6 hG (by have:=B6.1;omega)
      replace B3:=hG.b1 B3
      replace Blk:=hG.b1 Blk
      replace B4:=hG.b1 B4
      replace B8:=hG.b1 B8
      replace B2:=hG.b1 B2
      replace B0:=hG.b1 B0
      replace B1:=Bz
      clear Bz
      clear hW hG Bw Cj
      exact C2.out .normal _ _ ⟨e1.h,hs,B4,B6,⟨B3,Blk,(show Bx _ _ _ #[.int .i64 (whK l x (k + 1))] from by rw[wh_t (show ie (ptZ l k) (ptZ l ((k + 1) % l.length)) x=true from by rw[show ptZ l k=p from Hp.out.symm,show ptZ l ((k + 1) % l.length)=q from Hq.out.symm,mh (by omega),decide_eq_true (show (p.2≤x.2) from by omega),decide_eq_true (show (x.2 < q.2) from by omega),decide_eq_true (show (0 < tnZ p q x) from by have h:=@jb1 (tnZ p q x);have e:By=sgZ (tnZ p q x):=Bl.out;rw[←e] at h;omega)];rfl)];exact B1),(by rw[ix HO];exact (by rw[show ptZ l k=p from Hp.out.symm,show ptZ l ((k + 1) % l.length)=q from Hq.out.symm,←mw];exact Bool.eq_false_iff.2 C4.out))⟩⟩ hD.h
     have q9d:((0:Int) < By)=False:=eq_false (by omega)
     gi_wp2
     repeat ((with_reducible refine And.intro ?_ ?_);exact trivial;gi_wp2)
     exact C2.out .normal _ _ ⟨e1.h,hs,B4,B6,⟨B3,Blk,(show Bx _ _ _ #[.int .i64 (whK l x (k + 1))] from by rw[wh_f (show ie (ptZ l k) (ptZ l ((k + 1) % l.length)) x=false from by rw[show ptZ l k=p from Hp.out.symm,show ptZ l ((k + 1) % l.length)=q from Hq.out.symm,mh (by omega),decide_eq_true (show (p.2≤x.2) from by omega),decide_eq_true (show (x.2 < q.2) from by omega),decide_eq_false (show ¬ (0 < tnZ p q x) from by have h:=@jb1 (tnZ p q x);have e:By=sgZ (tnZ p q x):=Bl.out;rw[←e] at h;omega)];simp)];exact B1),(by rw[ix HO];exact (by rw[show ptZ l k=p from Hp.out.symm,show ptZ l ((k + 1) % l.length)=q from Hq.out.symm,←mw];exact Bool.eq_false_iff.2 C4.out))⟩⟩ hD.h
    have q7d:(x.2 < q.2)=False:=eq_false (by omega)
    refine B2.k2l fun Be Bf Bt=>?_
    refine B0.k2l fun Bb Bc Bh=>?_
    refine B3.k2l fun Bm Bn Lq=>?_
    gi_wp2
    repeat ((with_reducible refine And.intro ?_ ?_);exact trivial;gi_wp2)
    clear Be Bf Bb Bc Bm Bn Bt Bh Lq
    exact C2.out .normal _ _ ⟨e1.h,hs,B4,B6,⟨B3,Blk,(show Bx _ _ _ #[.int .i64 (whK l x (k + 1))] from by rw[wh_f (show ie (ptZ l k) (ptZ l ((k + 1) % l.length)) x=false from by rw[show ptZ l k=p from Hp.out.symm,show ptZ l ((k + 1) % l.length)=q from Hq.out.symm,mh (by omega),decide_eq_true (show (p.2≤x.2) from by omega),decide_eq_false (show ¬ (x.2 < q.2) from by omega)];simp)];exact B1),(by rw[ix HO];exact (by rw[show ptZ l k=p from Hp.out.symm,show ptZ l ((k + 1) % l.length)=q from Hq.out.symm,←mw];exact Bool.eq_false_iff.2 C4.out))⟩⟩ hD.h
   have q6d:(p.2≤x.2)=False:=eq_false (by omega)
   refine B2.k2l fun Be Bf Bt=>?_
   refine B0.k2l fun Bb Bc Bh=>?_
   refine B3.k2l fun Bm Bn Lq=>?_
   gi_wp2
   repeat ((with_reducible refine And.intro ?_ ?_);exact trivial;gi_wp2)
   clear Be Bf Bb Bc Bm Bn Bt Bh Lq
   exact C2.out .normal _ _ ⟨e1.h,hs,B4,B6,⟨B3,Blk,(show Bx _ _ _ #[.int .i64 (whK l x (k + 1))] from by rw[wh_f (show ie (ptZ l k) (ptZ l ((k + 1) % l.length)) x=false from by rw[show ptZ l k=p from Hp.out.symm,show ptZ l ((k + 1) % l.length)=q from Hq.out.symm,mh (by omega),decide_eq_false (show ¬ (p.2≤x.2) from by omega)];simp)];exact B1),(by rw[ix HO];exact (by rw[show ptZ l k=p from Hp.out.symm,show ptZ l ((k + 1) % l.length)=q from Hq.out.symm,←mw];exact Bool.eq_false_iff.2 C4.out))⟩⟩ hD.h
 case hend0=>
  clear hs B4 B3 Blk B1
  intro D C6 hDe hn0 Bv hs hI
  replace Bv:AtB D (.deferred (some [])) C6:=⟨Bv⟩
  obtain⟨B3,Blk,B1,HO⟩:=hI
  skip
  refine B1.k1l fun C0 C9=>?_
  refine Blk.k1fl fun Ce fk Lk=>?_
  go_wp2
  clear C0 Ce fk C9 Lk
  generalize hW_:(C6.setCell ⟨w.heap.size + 1,0,none⟩ (.int .i64 (whK l x l.length)))=w3
  have hW:=hW_.symm
  clear hW_
  have hG:Gr [w.heap.size + 1] C6 w3:=by rw[hW];exact (Gr.refl _ _).set
  have Bw:=hs.size
  have lk:=Blk.lt
  have C8:Bx w3 (w.heap.size + 1) 3 #[.int .i64 (whK l x l.length)]:=by rw[hW];exact (Bx.set Blk 0 _ rfl)
  replace hs:=hs.trans (hG.d1 hs.size)
  replace Bv:=Bv.gr hG (az (by omega))
  replace B3:=hG.b1 B3
  replace B1:=hG.b1 B1
  replace Blk:=C8
  clear C8
  clear hW hG Bw lk
  have cr_:=(Blk.putD (o':=.deferred none) Bv.h).at 0 rfl
  refine⟨by simp,.inl ⟨_,_,rfl,run_takeDeferred Bv.h,?_⟩⟩
  refine⟨_,by simp[results,Tryz.results44,go_sem,cr_];rfl,⟨by rw[wh_end rfl HO],hs.trans (belowK_b (ag _) _ D _ _ (by omega) Bv.h rfl rfl)⟩⟩
 case hret0=>
  clear hs B4 B3 Blk B1
  intro c D we hDe hn0 Bv hs hI
  obtain⟨rfl,Blk,hE⟩:=hI
  replace Bv:AtB D (.deferred (some [])) we:=⟨Bv⟩
  go_wp2
  have cr_:=(Blk.putD (o':=.deferred none) Bv.h).at 0 rfl
  refine⟨by simp,.inl ⟨_,_,rfl,run_takeDeferred Bv.h,?_⟩⟩
  refine⟨_,by simp[results,Tryz.results44,go_sem,cr_];rfl,⟨by rw[hE],hs.trans (belowK_b (ag _) _ D _ _ (by omega) Bv.h rfl rfl)⟩⟩
end Go.Proofs.YtidmjdmmpajooaaGreat
