/-
  plane: ranges over the edges of a polygon: twice, sloped, where, Check.
-/
import Derived.Test.YtidmjdmmpajooaaGreatPkV12N
import Derived.Test.YtidmjdmmpajooaaGreatPlAN
import Derived.Test.YtidmjdmmpajooaaGreatPkV0N
import Derived.Test.YtidmjdmmpajooaaGreatPkV14N
set_option linter.unusedSimpArgs false
set_option linter.unusedVariables false
set_option maxRecDepth 100000
set_option maxHeartbeats 16000000
namespace Go.Proofs.YtidmjdmmpajooaaGreat
open Go.RowKit Dg
attribute [local go_sem ↓] Go.wp_at_zero Go.wp_at_succ
attribute [local go_sem] Oper.semAt_some
section
variable {α:Type} {n:Nat}
theorem jz.pv (n:Nat) {v:Value} {q:Rat}:jz n (fun W=>PV W v q):=⟨fun _ _ h hb=>h.mono hb,fun _ _ _ _ _ h hp=>h.keep (.putL hp)⟩
theorem jz.own {base size:Nat} {t T:TypeId} {R:World→List Value→α→Prop} (hR:ir R) (n:Nat) {g:Nat} {xs:List α}:jz n (fun W=>∃ov,Bx W g t #[ov]∧cw base T size R W ov xs):=
 ⟨fun _ _ ⟨ov,h,k⟩ hb=>⟨ov,h.mono hb,k.mono hR hb⟩,fun _ _ _ _ _ ⟨ov,h,k⟩ hp=>⟨ov,h.putL hp,k.putL hR hp⟩⟩
end
theorem twK_wn {l:List Pt} (h:∀p∈l,WP 1048576 p):∀k:Nat,k≤1000→Wn ((k:Int) * 2199023255552) (twK l k)
 | 0,_=>⟨by show -(((0:Nat):Int) * 2199023255552)≤(0:Int);omega,by show (0:Int)≤((0:Nat):Int) * 2199023255552;omega⟩
 | k + 1,hk=>by
  have h1:=twK_wn h k (by omega)
  have h2:=Wn.sub (Wn.mul (WP.pt (by decide) h k).1 (WP.pt (by decide) h ((k + 1) % l.length)).2) (Wn.mul (WP.pt (by decide) h k).2 (WP.pt (by decide) h ((k + 1) % l.length)).1)
  have h3:Wn ((k:Int) * 2199023255552 + (1048576 * 1048576 + 1048576 * 1048576)) (twK l (k + 1)):=h1.add h2
  exact h3.mono (by push_cast;omega)
theorem pl_twice (v:Value) (l:List Pt) (w:World) (hl:Pts w v l) (hn:l.length≤1000) (hp:∀p∈l,WP 1048576 p):
  Calls Tryz.prog 56 #[v] w (fj w (.int .i64 (twZ l))):=by
 obtain⟨ao,cap,rfl,hc1,hc2,hc3⟩:=hl.slice
 have hs:=Below.refl w.heap.size w
 have HL:=ae hl
 have HP:=ae hp
 have HN:=ae hn
 clear hl hp
 refine (callsIn_wide (n:=2)).1 (callsIn_of_wp_marks Tryz.func56 rfl trivial ?_)
 simp only[Tryz.ntmps56,List.size_toArray,List.length_cons,List.length_nil,Nat.reduceAdd,Nat.reduceSub,Array.replicate_succ,
   Array.replicate_zero,List.push_toArray,List.append_toArray,List.nil_append,List.cons_append]
 refine wpIn_wide.2 ?_
 go_wp2_with fail
 refine Calls.abs ?_
 intro w1 hW
 have hG:Gr [] w w1:=by rw[hW];exact (Gr.refl _ _).alloc
 have C6:=hs.size
 have B1:Bx w1 (w.heap.size) 3 #[.int .i64 0]:=by rw[hW];exact (Bx.new0 _ _ _)
 replace hs:=hs.trans (hG.below0 hs.size)
 clear hW hG
 have C4:=B1.lt
 have C9:=B1.lt
 with_reducible refine (ph _ _ _ _).mono ?_
 rintro e w2 ⟨rfl,B2,hb⟩
 revert B1;refine mS hs hb ?_;clear hs hb;intro hs B1
 go_wp2_with fail
 have Cb:=B1.lt
 have By:=B2.lt
 have nz_0:=hs.size
 refine edgesR (w1.heap.size) _ l w (fun k W=>Bx W (w.heap.size) 3 #[.int .i64 (twK l k)]) (fun c W=>False) rfl rfl HL.out (by omega) hs B2 (fun _=>(.bx _)) (fun c=>(.prop _ _)) (by exact B1) ?hbody0 ?hend0 ?hret0
 case hbody0=>
  clear hs B2 B1
  intro Bh Bk k W0 RR0 C2 C3 hk0 hn0 e1 hs B2 hI hD Bm
  replace Bm:=ae Bm
  replace e1:AtB Bk (.loop (Bh .ready none)) W0:=⟨e1⟩
  replace hD:AtB w2.heap.size (.deferred (some [])) W0:=⟨hD⟩
  have B1:=hI
  clear hI
  have B4:=Kp.refl (w2.heap.size + 2) W0
  obtain⟨p,Hp⟩:∃z:Pt,z=ptZ l k:=⟨_,rfl⟩
  obtain⟨q,Hq⟩:∃z:Pt,z=nxZ l k:=⟨_,rfl⟩
  rw[←Hp,←Hq]
  replace Hp:=ae Hp
  replace Hq:=ae Hq
  have Bp:WP 1048576 p:=by rw[Hp.out];exact WP.pt (by decide) HP.out _
  have Bq:WP 1048576 q:=by rw[Hq.out];exact WP.pt (by decide) HP.out _
  have BW:IntKind.i64.wrap (twK l k + (p.1 * q.2 - p.2 * q.1))=twK l k + (p.1 * q.2 - p.2 * q.1):=by rw[show twK l k + (p.1 * q.2 - p.2 * q.1)=twK l (k + 1) from by rw[Hp.out,Hq.out];rfl];exact (twK_wn HP.out (k + 1) (by omega)).wrap (by omega)
  gi_wp2
  repeat ((with_reducible refine And.intro ?_ ?_);exact trivial;gi_wp2)
  generalize hW_:(W0.alloc (.cells #[.int .i64 p.1,.int .i64 p.2,.int .i64 q.1,.int .i64 q.2] 69))=w3
  have hW:=hW_.symm
  clear hW_
  have hG:Gr [] W0 w3:=by rw[hW];exact (Gr.refl _ _).alloc
  have C7:=hs.size
  have Ce:=B1.lt
  have C1:=B2.lt
  have B3:Bx w3 (W0.heap.size) 69 #[.int .i64 p.1,.int .i64 p.2,.int .i64 q.1,.int .i64 q.2]:=by rw[hW];exact (Bx.new0 _ _ _)
  replace hs:=hs.trans (hG.below0 hs.size)
  replace e1:=atB _ _ _ e1 (hG.below0 (ag _))
  replace hD:=atB _ _ _ hD (hG.below0 (ag _))
  replace B4:=kpJ _ _ _ B4 (hG.below0 (ag _))
  revert B2 B1;refine g0 hG ?_;intro B2 B1
  clear hW hG
  have C5:=B3.lt
  refine⟨e1.h,?_⟩
  obtain⟨w4,B6⟩:∃x,x=w3.putObj Bk (.loop (Bh .busy none)):=⟨_,rfl⟩
  rw[←B6]
  have hsl:=hs.size
  replace hs:Below w.heap.size w w4:=by rw[B6];exact hs.trans (belowK_b (ag _) _ Bk _ _ (by omega) e1.h rfl rfl)
  replace B1:Bx w4 (w.heap.size) 3 #[.int .i64 (twK l k)]:=by rw[B6];exact B1.putL e1.h
  replace B2:Bx w4 (w1.heap.size) 32 #[.slice ao l.length cap]:=by rw[B6];exact B2.putL e1.h
  replace B3:Bx w4 (W0.heap.size) 69 #[.int .i64 p.1,.int .i64 p.2,.int .i64 q.1,.int .i64 q.2]:=by rw[B6];exact B3.putL e1.h
  replace hD:AtB w2.heap.size (.deferred (some [])) w4:=by rw[B6];exact⟨(World.putObj_heap_other (by omega)).trans hD.h⟩
  replace B4:Kp (w2.heap.size + 2) W0 w4:=by rw[B6];exact B4.putL (by have:=B4.1;omega) _
  replace e1:AtB Bk (.loop (Bh .busy none)) w4:=by rw[B6];exact⟨World.putObj_heap_same (Array.getElem?_eq_some_iff.1 e1.h).1⟩
  clear B6 hsl
  gi_upto_region 4 with fail
  repeat ((with_reducible refine And.intro ?_ ?_);exact trivial;gi_upto_region 4 with fail)
  refine jb5 (S:=fun w'=>w'.cell? ⟨w.heap.size,0,none⟩=some (.int .i64 (twK l k))∧w'.cell? ⟨W0.heap.size,0,none⟩=some (.int .i64 p.1)∧w'.cell? ⟨W0.heap.size,1,none⟩=some (.int .i64 p.2)∧w'.cell? ⟨W0.heap.size,2,none⟩=some (.int .i64 q.1)∧w'.cell? ⟨W0.heap.size,3,none⟩=some (.int .i64 q.2)) (by kernel_rfl) (fun _ _ h=>(show False from h)) (by kernel_rfl) 7 ?_
  refine cq.abs ?_
  intro w5 hW
  have hb:Below w4.heap.size w4 w5:=by rw[hW];exact de _
  replace hs:=ar hs hb
  revert B1 B2 B3;refine mo hb ?_;intro B1 B2 B3
  replace e1:=atB _ _ _ e1 hb
  replace hD:=atB _ _ _ hD hb
  replace B4:=kpJ _ _ _ B4 hb
  clear hb hW
  have B8:=B1.a0
  refine B3.k4 fun B9 Ba Bb Bc=>?_
  have hH:=(show w5.cell? ⟨w.heap.size,0,none⟩=some (.int .i64 (twK l k))∧w5.cell? ⟨W0.heap.size,0,none⟩=some (.int .i64 p.1)∧w5.cell? ⟨W0.heap.size,1,none⟩=some (.int .i64 p.2)∧w5.cell? ⟨W0.heap.size,2,none⟩=some (.int .i64 q.1)∧w5.cell? ⟨W0.heap.size,3,none⟩=some (.int .i64 q.2) from ⟨B8,B9,Ba,Bb,Bc⟩)
  refine cz 0 ?_ ?_ hH ?_
  rotate_left
  ·(intro w Be;(try dsimp only at Be);go_simp;try with_reducible rfl)
  try simp only[LY]
  refine cz 1 ?_ ?_ hH ?_
  rotate_left
  ·(intro w Be;(try dsimp only at Be);go_simp;try with_reducible rfl)
  try simp only[LY]
  refine cz 2 ?_ ?_ hH ?_
  rotate_left
  ·(intro w Be;(try dsimp only at Be);go_simp;try with_reducible rfl)
  try simp only[LY]
  refine cz 3 ?_ ?_ hH ?_
  rotate_left
  ·(intro w Be;(try dsimp only at Be);go_simp;try with_reducible rfl)
  try simp only[LY]
  refine cz 4 ?_ ?_ hH ?_
  rotate_left
  ·(intro w Be;(try dsimp only at Be);go_simp;try with_reducible rfl)
  try simp only[LY]
  clear hH
  refine U_on 5 fun K hK=>?_
  go_simp
  (with_reducible refine (pg p.1 p.2 q.1 q.2 _ (Wn.wmul Bp.1 Bq.2 (by decide)) (Wn.wmul Bp.2 Bq.1 (by decide)) (Wn.wsub (Wn.mul Bp.1 Bq.2) (Wn.mul Bp.2 Bq.1) (by decide))).mono ?_)
  rintro e w6 ⟨rfl,hb⟩
  replace hs:=ar hs hb
  revert B1 B2 B3;refine mo hb ?_;intro B1 B2 B3
  replace e1:=atB _ _ _ e1 hb
  replace hD:=atB _ _ _ hD hb
  replace B4:=kpJ _ _ _ B4 hb
  replace B8:=ah B8 hb
  replace B9:=ah B9 hb
  replace Ba:=ah Ba hb
  replace Bb:=ah Bb hb
  replace Bc:=ah Bc hb
  clear hb
  try gi_wp2_with fail
  refine hK.out _ _ ⟨B8,B9,Ba,Bb,Bc⟩ (fun hH=>?_)
  clear hK K
  try simp only[LY]
  refine cz 6 ?_ ?_ hH ?_
  rotate_left
  ·(intro w Be;(try dsimp only at Be);go_simp;try with_reducible rfl)
  try simp only[LY]
  clear hH
  refine B1.k1fl fun B8 fsum Bz=>?_
  refine dr (by kernel_rfl) rfl (by kernel_rfl) (fun K hK=>?_)
  go_simp
  refine hK.out _ _ ?_
  clear hK K
  intro w7 hW
  have hG:Gr [w.heap.size] w6 w7:=by rw[hW];exact (Gr.refl _ _).set
  have hsz:=hs.size
  have lsum:=B1.lt
  have Bs:Bx w7 (w.heap.size) 3 #[.int .i64 (twK l k + (p.1 * q.2 - p.2 * q.1))]:=by rw[hW];exact (Bx.set B1 0 _ rfl)
  replace hs:=hs.trans (hG.d1 hs.size)
  replace e1:=e1.gr hG (az (by have:=B4.1;omega))
  replace hD:=hD.gr hG (az (by have:=B4.1;omega))
  replace B4:=Kp.gr1 B4 hG (by have:=B4.1;omega)
  replace B2:=hG.b1 B2
  replace B3:=hG.b1 B3
  replace B1:=Bs
  clear Bs
  clear hW hG hsz lsum
  try simp only[LY]
  clear B8 B9 Ba Bb Bc
  gi_wp2
  repeat ((with_reducible refine And.intro ?_ ?_);exact trivial;gi_wp2)
  exact Bm.out .normal _ _ ⟨e1.h,hs,B2,B4,(show Bx _ _ _ #[.int .i64 (twK l (k + 1))] from by rw[show twK l (k + 1)=twK l k + (p.1 * q.2 - p.2 * q.1) from by rw[Hp.out,Hq.out];rfl];exact B1)⟩ hD.h
 case hend0=>
  clear hs B2 B1
  intro D Bo hDe hn0 Bf hs hI
  replace Bf:AtB D (.deferred (some [])) Bo:=⟨Bf⟩
  have B1:=hI
  clear hI
  refine B1.k1l fun B8 Bz=>?_
  go_wp2
  clear B8 Bz
  refine⟨by simp,.inl ⟨_,_,rfl,run_takeDeferred Bf.h,?_⟩⟩
  refine⟨_,results_tmp rfl _ _ _,rfl,hs.trans (belowK_b (ag _) _ D _ _ (by omega) Bf.h rfl rfl)⟩
 case hret0=>
  clear hs B2 B1
  intro c D W _ _ _ _ h
  exact h.elim
theorem edge_info:(Tryz.prog.info? 69).map (fun i=>(i.zero,i.size,i.bytes))=some (some (.agg #[.int .i64 0,.int .i64 0,.int .i64 0,.int .i64 0]),4,32):=by kernel_rfl
theorem slK_len (l:List Pt):∀k,(slK l k).length≤k
 | 0=>ag _
 | k + 1=>by
  have h:=slK_len l k
  unfold slK
  split
  ·omega
  rw[List.length_append,List.length_singleton];omega
theorem slK_yes {l:List Pt} {k:Nat} (h:¬ (ptZ l k).1=(nxZ l k).1):slK l (k + 1)=slK l k ++ [(ptZ l k,nxZ l k)]:=by
 exact if_neg h
theorem slK_no {l:List Pt} {k:Nat} (h:(ptZ l k).1=(nxZ l k).1):slK l (k + 1)=slK l k:=by
 exact if_pos h
theorem pl_sloped (v:Value) (l:List Pt) (w:World) (hl:Pts w v l) (hn:l.length≤1000) (hp:∀p∈l,WP 1048576 p):
  Calls Tryz.prog 97 #[v] w (Ret1 (fun w v=>Rows 4 69 IE w v (slE l)) w):=by
 obtain⟨ao,cap,rfl,hc1,hc2,hc3⟩:=hl.slice
 have hs:=Below.refl w.heap.size w
 have HL:=ae hl
 have HP:=ae hp
 have HN:=ae hn
 clear hl hp
 obtain⟨i0,hi,hz0,hz1,hz2⟩:=info_parts edge_info
 refine (callsIn_wide (n:=2)).1 (callsIn_of_wp_marks Tryz.func97 rfl trivial ?_)
 simp only[Tryz.ntmps97,List.size_toArray,List.length_cons,List.length_nil,Nat.reduceAdd,Nat.reduceSub,Array.replicate_succ,
   Array.replicate_zero,List.push_toArray,List.append_toArray,List.nil_append,List.cons_append]
 refine wpIn_wide.2 ?_
 go_wp2_with fail
 refine Calls.abs ?_
 intro w1 hW
 have hG:Gr [] w w1:=by rw[hW];exact (Gr.refl _ _).alloc
 have C6:=hs.size
 have B0:Bx w1 (w.heap.size) 129 #[.slice none 0 0]:=by rw[hW];exact (Bx.new0 _ _ _)
 replace hs:=hs.trans (hG.below0 hs.size)
 clear hW hG
 have C4:=B0.lt
 have C8:=B0.lt
 with_reducible refine (ph _ _ _ _).mono ?_
 rintro e w2 ⟨rfl,B2,hb⟩
 revert B0;refine mS hs hb ?_;clear hs hb;intro hs B0
 go_wp2_with fail
 have Ca:=B0.lt
 have By:=B2.lt
 have nw_out:=hs.size
 have nz_0:=hs.size
 refine edgesR (w1.heap.size) _ l w (fun k W=>(∃ov,Bx W (w.heap.size) 129 #[ov]∧cw w.heap.size 69 4 IE W ov (slK l k))) (fun c W=>False) rfl rfl HL.out (by omega) hs B2 (fun _=>(.own IE.kept _)) (fun c=>(.prop _ _)) ⟨_,B0,cw.nil _ _ _ _ _⟩ ?hbody0 ?hend0 ?hret0
 case hbody0=>
  clear hs B2 B0
  intro Bh Bk k W0 RR0 C2 C3 hk0 hn0 e1 hs B2 hI hD Bm
  replace Bm:=ae Bm
  replace e1:AtB Bk (.loop (Bh .ready none)) W0:=⟨e1⟩
  replace hD:AtB w2.heap.size (.deferred (some [])) W0:=⟨hD⟩
  obtain⟨ov,B0,B5⟩:=hI
  skip
  have B4:=Kp.refl (w2.heap.size + 2) W0
  obtain⟨p,Hp⟩:∃z:Pt,z=ptZ l k:=⟨_,rfl⟩
  obtain⟨q,Hq⟩:∃z:Pt,z=nxZ l k:=⟨_,rfl⟩
  rw[←Hp,←Hq]
  replace Hp:=ae Hp
  replace Hq:=ae Hq
  have Bp:WP 1048576 p:=by rw[Hp.out];exact WP.pt (by decide) HP.out _
  have Bq:WP 1048576 q:=by rw[Hq.out];exact WP.pt (by decide) HP.out _
  gi_wp2
  repeat ((with_reducible refine And.intro ?_ ?_);exact trivial;gi_wp2)
  generalize hW_:(W0.alloc (.cells #[.int .i64 p.1,.int .i64 p.2,.int .i64 q.1,.int .i64 q.2] 69))=w3
  have hW:=hW_.symm
  clear hW_
  have hG:Gr [] W0 w3:=by rw[hW];exact (Gr.refl _ _).alloc
  have C7:=hs.size
  have Cc:=B0.lt
  have C1:=B2.lt
  have B3:Bx w3 (W0.heap.size) 69 #[.int .i64 p.1,.int .i64 p.2,.int .i64 q.1,.int .i64 q.2]:=by rw[hW];exact (Bx.new0 _ _ _)
  have Bg:=B5.ap (g:=W0.heap.size) (by omega)
  replace hs:=hs.trans (hG.below0 hs.size)
  replace e1:=atB _ _ _ e1 (hG.below0 (ag _))
  replace hD:=atB _ _ _ hD (hG.below0 (ag _))
  replace B4:=kpJ _ _ _ B4 (hG.below0 (ag _))
  revert B2 B0;refine g0 hG ?_;intro B2 B0
  replace B5:=B5.mono IE.kept (hG.below0 (ag _))
  clear hW hG
  have C5:=B3.lt
  refine⟨e1.h,?_⟩
  obtain⟨w4,B6⟩:∃x,x=w3.putObj Bk (.loop (Bh .busy none)):=⟨_,rfl⟩
  rw[←B6]
  have hsl:=hs.size
  replace hs:Below w.heap.size w w4:=by rw[B6];exact hs.trans (belowK_b (ag _) _ Bk _ _ (by omega) e1.h rfl rfl)
  replace B0:Bx w4 (w.heap.size) 129 #[ov]:=by rw[B6];exact B0.putL e1.h
  replace B2:Bx w4 (w1.heap.size) 32 #[.slice ao l.length cap]:=by rw[B6];exact B2.putL e1.h
  replace B3:Bx w4 (W0.heap.size) 69 #[.int .i64 p.1,.int .i64 p.2,.int .i64 q.1,.int .i64 q.2]:=by rw[B6];exact B3.putL e1.h
  replace B5:cw w.heap.size 69 4 IE w4 ov (slK l k):=by rw[B6];exact B5.putL IE.kept e1.h
  replace hD:AtB w2.heap.size (.deferred (some [])) w4:=by rw[B6];exact⟨(World.putObj_heap_other (by omega)).trans hD.h⟩
  replace B4:Kp (w2.heap.size + 2) W0 w4:=by rw[B6];exact B4.putL (by have:=B4.1;omega) _
  replace e1:AtB Bk (.loop (Bh .busy none)) w4:=by rw[B6];exact⟨World.putObj_heap_same (Array.getElem?_eq_some_iff.1 e1.h).1⟩
  clear B6 hsl
  by_cases q2:p.1=q.1
  ·have q2b:(p.1 == q.1)=true:=beq_iff_eq.2 (by omega)
   have q2n:(p.1 != q.1)=false:=bne_eq_false_iff_eq.2 (by omega)
   have q2H:=ae q2
   clear q2
   refine B3.k4l fun B9 Ba Bb Bc Le=>?_
   gi_wp2
   repeat ((with_reducible refine And.intro ?_ ?_);exact trivial;gi_wp2)
   clear B9 Ba Bb Bc Le
   exact Bm.out .normal _ _ ⟨e1.h,hs,B2,B4,⟨_,B0,(by rw[slK_no (by rw[←Hp.out,←Hq.out];exact q2H.out)];exact B5)⟩⟩ hD.h
  have q2b:(p.1 == q.1)=false:=beq_eq_false_iff_ne.2 (by omega)
  have q2n:(p.1 != q.1)=true:=bne_iff_ne.2 (by omega)
  have q2H:=ae q2
  clear q2
  refine B3.k4l fun B9 Ba Bb Bc Le=>?_
  refine B0.k1l fun Bd Bn=>?_
  gi_wp2_with (gi_at_builtin;refine wpListIn.stop ?_)
  refine⟨?_⟩
  clear B9 Ba Bb Bc Bd Le Bn
  refine wpListIn.absI ?_
  intro w5 hW
  have hG:Gr [] w4 w5:=by rw[hW];exact (Gr.refl _ _).alloc
  have sz_w5:=hs.size
  have Cd:=B0.lt
  have nx1_w5:=B2.lt
  have ne_w5:=B3.lt
  have Bv:Bx w5 (w4.heap.size) 69 #[.int .i64 p.1,.int .i64 p.2,.int .i64 q.1,.int .i64 q.2]:=by rw[hW];exact (Bx.new0 _ _ _)
  replace hs:=hs.trans (hG.below0 hs.size)
  replace e1:=atB _ _ _ e1 (hG.below0 (ag _))
  replace hD:=atB _ _ _ hD (hG.below0 (ag _))
  replace B4:=kpJ _ _ _ B4 (hG.below0 (ag _))
  revert B0 B2 B3;refine g0 hG ?_;intro B0 B2 B3
  replace B5:=B5.mono IE.kept (hG.below0 (ag _))
  clear hW hG
  have hz_w5:=Bv.lt
  obtain⟨css,ho1,ho2,ho3,Bj⟩:=B5
  refine tv _ rfl _ _ _ rfl w.heap.size 69 i0 _ 4 32 Tryz.underlying129 hi hz0 hz1 hz2 rfl (by omega) _ _ css.flatten rfl Bj ⟨w4.heap.size,0,none⟩ 1 1 [.int .i64 p.1,.int .i64 p.2,.int .i64 q.1,.int .i64 q.2] rfl rfl Bv.news ?_ (by omega) ?_ ?_ ?_ _ rfl ?_
  ·intro u hu;simp only[List.mem_cons,List.mem_nil_iff,or_false] at hu;rcases hu with rfl|rfl|rfl|rfl<;>rfl
  ·unfold maxLen;(have:=slK_len l k;omega)
  ·(have:=slK_len l k;omega)
  ·exact hs.size
  intro C0 Bt w6 Bw Bi hat hlt_
  have hk_:=aw.owns Bj Bi (by decide)
  have ho:=iu Bj Bi
  replace hs:=hs.grown Bi hs.size (fun k hk=>(Bj.lt k hk).1)
  replace B5:=cw.push' IE.kept ho1 ho2 ho3 (x:=(p,q)) rfl rfl (by simp) Bw hk_
  replace B0:=B0.only ho (by decide)
  replace B2:=B2.only ho (by decide)
  have Bl:=Bg.app hat B3.lt
  replace B3:=B3.grown Bi Bg.ne
  replace Bg:=Bl
  clear Bl
  replace e1:=e1.onlyL ho (by decide) (by decide)
  replace hD:=hD.onlyD ho (by decide) (by decide)
  replace B4:=B4.only ho (by decide) (by decide)
  clear hk_ ho ho1 ho2 ho3 Bj Bw Bi hat hlt_ Bv
  refine B0.k1fl fun Bd fout Bn=>?_
  gi_wp2
  repeat ((with_reducible refine And.intro ?_ ?_);exact trivial;gi_wp2)
  clear Bd fout Bn
  generalize hW_:(w6.setCell ⟨w.heap.size,0,none⟩ (.slice (some ⟨C0,0,none⟩) ((slK l k).length + 1) Bt))=w7
  have hW:=hW_.symm
  clear hW_
  have hG:Gr [w.heap.size] w6 w7:=by rw[hW];exact (Gr.refl _ _).set
  have hsz:=hs.size
  have lout:=B0.lt
  have Bu:=B0.ty
  have Br:Bx w7 (w.heap.size) 129 #[.slice (some ⟨C0,0,none⟩) ((slK l k).length + 1) Bt]:=by rw[hW];exact (Bx.set B0 0 _ rfl)
  replace hs:=hs.trans (hG.d1 hs.size)
  replace e1:=e1.gr hG (az (by have:=B4.1;omega))
  replace hD:=hD.gr hG (az (by have:=B4.1;omega))
  replace B4:=Kp.gr1 B4 hG (by have:=B4.1;omega)
  replace B2:=hG.b1 B2
  replace B3:=hG.b1 B3
  replace B0:=Br
  clear Br
  have ho:dg 129 w6 w7:=hG.onlyT (by intro g hg;simp only[List.mem_cons,List.mem_nil_iff,or_false] at hg;rcases hg with rfl<;>first|exact Bu)
  replace B5:=B5.onlyT IE.kept ho (by decide) (by decide)
  clear ho
  clear hW hG hsz lout Bu
  exact Bm.out .normal _ _ ⟨e1.h,hs,B2,B4,⟨_,B0,(by rw[slK_yes (by rw[←Hp.out,←Hq.out];exact q2H.out),←Hp.out,←Hq.out];exact B5)⟩⟩ hD.h
 case hend0=>
  clear hs B2 B0
  intro D Bo hDe hn0 Bf hs hI
  replace Bf:AtB D (.deferred (some [])) Bo:=⟨Bf⟩
  obtain⟨ov,B0,B5⟩:=hI
  skip
  refine B0.k1l fun Bd Bn=>?_
  go_wp2
  clear Bd Bn
  refine⟨by simp,.inl ⟨_,_,rfl,run_takeDeferred Bf.h,?_⟩⟩
  refine⟨_,results_tmp rfl _ _ _,_,rfl,(B5.putD IE.kept Bf.h rfl).rows,hs.trans (belowK_b (ag _) _ D _ _ (by omega) Bf.h rfl rfl)⟩
 case hret0=>
  clear hs B2 B0
  intro c D W _ _ _ _ h
  exact h.elim
end Go.Proofs.YtidmjdmmpajooaaGreat
