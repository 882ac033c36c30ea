/-
  A box that moves along a path: when it runs into an obstacle: plain.
-/
import Derived.Test.YtidmjdmmpajooaaGreatPkV0N
import Derived.Test.YtidmjdmmpajooaaGreatPkV17N
import Derived.Test.YtidmjdmmpajooaaGreatPkV3N
import Derived.Test.YtidmjdmmpajooaaGreatPlXN
import Derived.Test.YtidmjdmmpajooaaGreatPkV2N
set_option linter.unusedSimpArgs false
set_option linter.unusedVariables false
set_option maxRecDepth 100000
set_option maxHeartbeats 16000000
namespace Go.Proofs.YtidmjdmmpajooaaGreat
def tmL (a d lo hi:Int):Rat:=if d=0 then -1 else if d < 0 then ((hi - a:Int):Rat) / (d:Rat) else ((lo - a:Int):Rat) / (d:Rat)
def tmH (a d lo hi:Int):Rat:=if d=0 then 2 else if d < 0 then ((lo - a:Int):Rat) / (d:Rat) else ((hi - a:Int):Rat) / (d:Rat)
def tmB (a d lo hi:Int):Bool:=!decide (d=0) || (decide (lo < a) && decide (a < hi))
def mxR (x y:Rat):Rat:=if x < y then y else x
def mnR (x y:Rat):Rat:=if y < x then y else x
abbrev Bxx:=Pt × Pt
def hitL (a b:Pt) (w h:Int) (o:Bxx):Rat:=mxR (tmL a.1 (b.1 - a.1) (o.1.1 - w) (o.2.1 + w)) (tmL a.2 (b.2 - a.2) (o.1.2 - h) (o.2.2 + h))
def hitH (a b:Pt) (w h:Int) (o:Bxx):Rat:=mnR (tmH a.1 (b.1 - a.1) (o.1.1 - w) (o.2.1 + w)) (tmH a.2 (b.2 - a.2) (o.1.2 - h) (o.2.2 + h))
def hitB (a b:Pt) (w h:Int) (o:Bxx):Bool:=
 tmB a.1 (b.1 - a.1) (o.1.1 - w) (o.2.1 + w) && (tmB a.2 (b.2 - a.2) (o.1.2 - h) (o.2.2 + h) && (decide (hitL a b w h o < hitH a b w h o) && (decide (hitL a b w h o < 1) && decide (0 < hitH a b w h o))))
end Go.Proofs.YtidmjdmmpajooaaGreat
namespace Go.Proofs.YtidmjdmmpajooaaGreat
def bxZ (l:List Bxx) (i:Nat):Bxx:=l.getD i ((0,0),(0,0))
def hitN (path:List Pt) (w h:Int) (obs:List Bxx) (i k:Nat):Bool:=hitB (ptZ path i) (ptZ path (i + 1)) w h (bxZ obs k)
def SwR (path:List Pt) (w h:Int) (obs:List Bxx) (i k:Int):Prop:=
 (i= -1∧k= -1∧∀a b,a + 1 < path.length→b < obs.length→hitN path w h obs a b=false)∨
 ∃a b:Nat,i=a∧k=b∧a + 1 < path.length∧b < obs.length∧hitN path w h obs a b=true∧(∀c d,c < a→d < obs.length→hitN path w h obs c d=false)∧∀d,d < b→hitN path w h obs a d=false
theorem SwR.neg {path:List Pt} {w h:Int} {obs:List Bxx} {i k:Int} (h1:SwR path w h obs i k):(i < 0↔k < 0)∧(i < 0↔∀a b,a + 1 < path.length→b < obs.length→hitN path w h obs a b=false)∧(0 < path.length→i < path.length - 1)∧k < obs.length:=by
 rcases h1 with ⟨rfl,rfl,h1⟩|⟨a,b,rfl,rfl,ha,hb,hh,hf,ho⟩
 ·exact⟨by omega,⟨fun _=>h1,fun _=>by omega⟩,fun _=>by omega,by omega⟩
 ·refine⟨by omega,⟨fun h=>by omega,fun h=>?_⟩,fun _=>by omega,by omega⟩
  rw[h a b ha hb] at hh;cases hh
end Go.Proofs.YtidmjdmmpajooaaGreat
namespace Go.Proofs.YtidmjdmmpajooaaGreat
open Go.RowKit Dg
attribute [local go_sem ↓] Go.wp_at_zero Go.wp_at_succ
end Go.Proofs.YtidmjdmmpajooaaGreat
namespace Go.Proofs.YtidmjdmmpajooaaGreat
open Go.RowKit Dg
attribute [local go_sem ↓] Go.wp_at_zero Go.wp_at_succ
attribute [local go_sem] Oper.semAt_some
def tcP (l m:List Pt) (i j:Nat):Bool:=meZ (ptZ l i) (nxZ l i) (ptZ m j) (nxZ m j)
def tcZ (l m:List Pt):Bool:=decide (0≤whZ l (ptZ m 0)) || (decide (0≤whZ m (ptZ l 0)) || (List.range l.length).any fun i=>(List.range m.length).any fun j=>tcP l m i j)
theorem tc_1 {l m:List Pt} (h:0≤whZ l (ptZ m 0)):tcZ l m=true:=by unfold tcZ;rw[decide_eq_true h];rfl
theorem tc_2 {l m:List Pt} (h:0≤whZ m (ptZ l 0)):tcZ l m=true:=by unfold tcZ;rw[decide_eq_true h,Bool.true_or,Bool.or_true]
theorem tc_3 {l m:List Pt} {i j:Nat} (hi:i < l.length) (hj:j < m.length) (h:tcP l m i j=true):tcZ l m=true:=by
 unfold tcZ
 rw[List.any_eq_true.2 ⟨i,List.mem_range.2 hi,List.any_eq_true.2 ⟨j,List.mem_range.2 hj,h⟩⟩,Bool.or_true,Bool.or_true]
theorem tc_no {l m:List Pt} (h1:¬ 0≤whZ l (ptZ m 0)) (h2:¬ 0≤whZ m (ptZ l 0)) (h:∀i,i < l.length→∀j,j < m.length→tcP l m i j=false):tcZ l m=false:=by
 unfold tcZ
 rw[decide_eq_false h1,decide_eq_false h2,List.any_eq_false.2 (fun i hi=>by rw[List.any_eq_false.2 (fun j hj=>by rw[h i (List.mem_range.1 hi) j (List.mem_range.1 hj)];exact Bool.false_ne_true)];exact Bool.false_ne_true)]
 rfl
theorem upto_ {p:Nat→Prop} {k:Nat} (h:∀j,j < k→p j) (hk:p k):∀j,j < k + 1→p j:=fun j hj=>by
 by_cases e:j=k
 ·rw[e];exact hk
 exact h j (by omega)
def onlyN (Q:Exit→Act→World→Prop):Exit→Act→World→Prop
 | .normal,a,w=>Q .normal a w
 | _,_,_=>False
theorem onlyN_in {Q:Exit→Act→World→Prop} {a:Act} {w:World} (h:Q .normal a w):onlyN Q .normal a w:=h
theorem U_regionN {ops:Array Oper} {Q:Exit→Act→World→Prop} {S:World→Prop} {id:Nat} {a:Act} {w:World} (hm:Tryz.prog.follows .mixedOrders=true) (m:Nat)
  (h:cq Tryz.prog .any ops (onlyN Q) S m ops.size (Array.replicate ops.size false) a w.drew):(Code.region id ops true).wp Tryz.prog Q a w:=
 wp_mono (bw hm m h) fun e a w q=>by cases e<;>first|exact q|exact q.elim
theorem p0_wp {l:List Pt} (h:∀p∈l,WP 1048576 p) (k:Nat):WP 1048576 (ptZ l k):=WP.pt (by decide) h k
theorem pl_touch (v u:Value) (l mm:List Pt) (w:World) (hl:Pts w v l) (hm:Pts w u mm) (h0:0 < l.length) (k0:0 < mm.length) (hn:l.length≤1000) (kn:mm.length≤1000) (hp:∀p∈l,WP 1048576 p) (hq:∀p∈mm,WP 1048576 p):
  Calls Tryz.prog 68 #[v,u] w (fj w (.bool (tcZ l mm))):=by
 obtain⟨ab,aq,ac,rfl,ha1,ha2⟩:=ep hl h0
 obtain⟨bb,bq,bc,rfl,hb1,hb2⟩:=ep hm k0
 have hs:=Below.refl w.heap.size w
 have HL:=ae hl
 have HM:=ae hm
 have HP:=ae hp
 have HQ:=ae hq
 clear hl hm hp hq
 refine (callsIn_wide (n:=2)).1 (callsIn_of_wp_marks Tryz.func68 rfl trivial ?_)
 simp only[Tryz.ntmps68,List.size_toArray,List.length_cons,List.length_nil,Nat.reduceAdd,Nat.reduceSub,Array.replicate_succ,
   Array.replicate_zero,List.push_toArray,List.append_toArray,List.nil_append,List.cons_append]
 refine wpIn_wide.2 ?_
 go_upto_region 1 with fail
 refine Code.abs ?_
 intro w1 hW
 have hG:Gr [] w w1:=by rw[hW];exact (Gr.refl _ _).alloc.alloc
 have sz_w1:=hs.size
 have Blb:Bx w1 (w.heap.size) 32 #[.slice (some ⟨bb,bq,none⟩) mm.length bc]:=by rw[hW];exact ((Bx.new0 _ _ _).alloc _)
 have Blk:Bx w1 (w.heap.size + 1) 4 #[.bool false]:=by rw[hW];exact (Bx.new0 _ _ _)
 replace hs:=hs.trans (hG.below0 hs.size)
 clear hW hG
 have hz_w1:=Blk.lt
 obtain⟨B1,B2,le1⟩:=ij (be.mono IP.kept HM.out hs) (show 0 < mm.length by omega)
 simp only[Nat.zero_mul,Nat.add_zero] at B1 B2
 obtain⟨pe1,Hpe1⟩:∃z:Pt,z=ptZ mm 0:=⟨_,rfl⟩
 rw[←Hpe1] at B1 B2
 have Bpe1:WP 1048576 pe1:=by rw[Hpe1];exact p0_wp HQ.out 0
 replace Hpe1:=ae Hpe1
 obtain⟨wz2,Hwz2⟩:∃s:Int,s=whZ l pe1:=⟨_,rfl⟩
 replace Hwz2:=ae Hwz2
 by_cases q3:0≤wz2
 ·have q3d:((0:Int)≤wz2)=True:=eq_true (by omega)
  refine U_regionN (S:=fun w'=>w'.cell? ⟨w.heap.size,0,none⟩=some (.slice (some ⟨bb,bq,none⟩) mm.length bc)∧w'.cell? ⟨bb,bq,none⟩=some (.int .i64 pe1.1)∧w'.cell? ⟨bb,bq + 1,none⟩=some (.int .i64 pe1.2)) (by kernel_rfl) 14 ?_
  refine cq.abs ?_
  intro w2 hW
  have hb:Below w1.heap.size w1 w2:=by rw[hW];exact de _
  replace hs:=ar hs hb
  revert Blb Blk;refine mo hb ?_;intro Blb Blk
  replace B1:=ah B1 hb
  replace B2:=ah B2 hb
  clear hb hW
  have B4:=Blb.a0
  have hH:=(show w2.cell? ⟨w.heap.size,0,none⟩=some (.slice (some ⟨bb,bq,none⟩) mm.length bc)∧w2.cell? ⟨bb,bq,none⟩=some (.int .i64 pe1.1)∧w2.cell? ⟨bb,bq + 1,none⟩=some (.int .i64 pe1.2) from ⟨B4,B1,B2⟩)
  refine U_tq 0 9 hH ?_
  refine U_tq 1 10 hH ?_
  refine U_tq 2 11 hH ?_
  refine U_tq 3 12 hH ?_
  clear hH
  refine U_on 4 fun K hK=>?_
  go_simp
  (with_reducible refine (pl_where _ l pe1 _ (be.mono IP.kept HL.out hs) (by omega) (by omega) HP.out (Bpe1)).mono ?_)
  rintro e w3 ⟨rfl,hb⟩
  replace hs:=ar hs hb
  revert Blb Blk;refine mo hb ?_;intro Blb Blk
  replace B4:=ah B4 hb
  replace B1:=ah B1 hb
  replace B2:=ah B2 hb
  clear hb
  rw[←Hwz2.out]
  try go_wp2_with fail
  refine hK.out _ _ ⟨B4,B1,B2⟩ (fun hH=>?_)
  clear hK K
  try simp only[LY]
  refine U_tq 5 14 hH ?_
  refine U_tq 6 15 hH ?_
  refine ff 7 16 hH ?_
  simp only[LY]
  refine ff 8 17 hH ?_
  simp only[LY]
  refine ff 9 18 hH ?_
  simp only[LY]
  refine ff 10 19 hH ?_
  simp only[LY]
  clear hH
  refine U_on 11 fun K hK=>?_
  go_simp
  refine hK.out _ _ ⟨B4,B1,B2⟩ (fun hH=>?_)
  clear hK K
  try simp only[LY]
  refine ff 12 21 hH ?_
  simp only[LY]
  refine U_tq 13 22 hH ?_
  clear hH
  refine im (by kernel_rfl) (onlyN_in ?_)
  clear B4 B1 B2
  have hE:=ae (show tcZ l mm=true from tc_1 (by rw[←Hpe1.out,←Hwz2.out];omega))
  refine Blk.k1fl fun B7 fk Lk=>?_
  go_wp2
  clear B7 fk Lk le1
  generalize hW_:(w3.setCell ⟨w.heap.size + 1,0,none⟩ (.bool true))=w4
  have hW:=hW_.symm
  clear hW_
  have hG:Gr [w.heap.size + 1] w3 w4:=by rw[hW];exact (Gr.refl _ _).set
  have hsz:=hs.size
  have lk:=Blk.lt
  have Bl1k:Bx w4 (w.heap.size + 1) 4 #[.bool true]:=by rw[hW];exact (Bx.set Blk 0 _ rfl)
  replace hs:=hs.trans (hG.d1 hs.size)
  replace Blb:=hG.b1 Blb
  replace Blk:=Bl1k
  clear Bl1k
  clear hW hG hsz lk
  have cr_:=Blk.at 0 rfl
  refine⟨_,by simp[results,Tryz.results68,go_sem,cr_];rfl,⟨by rw[hE.out],hs⟩⟩
 have q3d:((0:Int)≤wz2)=False:=eq_false (by omega)
 obtain⟨B5,B6,le4⟩:=ij (be.mono IP.kept HL.out hs) (show 0 < l.length by omega)
 simp only[Nat.zero_mul,Nat.add_zero] at B5 B6
 obtain⟨pe4,Hpe4⟩:∃z:Pt,z=ptZ l 0:=⟨_,rfl⟩
 rw[←Hpe4] at B5 B6
 have Bpe4:WP 1048576 pe4:=by rw[Hpe4];exact p0_wp HP.out 0
 replace Hpe4:=ae Hpe4
 obtain⟨wz5,Hwz5⟩:∃s:Int,s=whZ mm pe4:=⟨_,rfl⟩
 replace Hwz5:=ae Hwz5
 refine U_regionN (S:=fun w'=>w'.cell? ⟨w.heap.size,0,none⟩=some (.slice (some ⟨bb,bq,none⟩) mm.length bc)∧w'.cell? ⟨bb,bq,none⟩=some (.int .i64 pe1.1)∧w'.cell? ⟨bb,bq + 1,none⟩=some (.int .i64 pe1.2)∧w'.cell? ⟨ab,aq,none⟩=some (.int .i64 pe4.1)∧w'.cell? ⟨ab,aq + 1,none⟩=some (.int .i64 pe4.2)) (by kernel_rfl) 14 ?_
 refine cq.abs ?_
 intro w2 hW
 have hb:Below w1.heap.size w1 w2:=by rw[hW];exact de _
 replace hs:=ar hs hb
 revert Blb Blk;refine mo hb ?_;intro Blb Blk
 replace B1:=ah B1 hb
 replace B2:=ah B2 hb
 replace B5:=ah B5 hb
 replace B6:=ah B6 hb
 clear hb hW
 have B4:=Blb.a0
 have hH:=(show w2.cell? ⟨w.heap.size,0,none⟩=some (.slice (some ⟨bb,bq,none⟩) mm.length bc)∧w2.cell? ⟨bb,bq,none⟩=some (.int .i64 pe1.1)∧w2.cell? ⟨bb,bq + 1,none⟩=some (.int .i64 pe1.2)∧w2.cell? ⟨ab,aq,none⟩=some (.int .i64 pe4.1)∧w2.cell? ⟨ab,aq + 1,none⟩=some (.int .i64 pe4.2) from ⟨B4,B1,B2,B5,B6⟩)
 refine U_tq 0 9 hH ?_
 refine U_tq 1 10 hH ?_
 refine U_tq 2 11 hH ?_
 refine U_tq 3 12 hH ?_
 clear hH
 refine U_on 4 fun K hK=>?_
 go_simp
 (with_reducible refine (pl_where _ l pe1 _ (be.mono IP.kept HL.out hs) (by omega) (by omega) HP.out (Bpe1)).mono ?_)
 rintro e w3 ⟨rfl,hb⟩
 replace hs:=ar hs hb
 revert Blb Blk;refine mo hb ?_;intro Blb Blk
 replace B4:=ah B4 hb
 replace B1:=ah B1 hb
 replace B2:=ah B2 hb
 replace B5:=ah B5 hb
 replace B6:=ah B6 hb
 clear hb
 rw[←Hwz2.out]
 try go_wp2_with fail
 refine hK.out _ _ ⟨B4,B1,B2,B5,B6⟩ (fun hH=>?_)
 clear hK K
 try simp only[LY]
 refine U_tq 5 14 hH ?_
 refine U_tq 6 15 hH ?_
 refine U_tq 7 16 hH ?_
 refine U_tq 8 17 hH ?_
 refine U_tq 9 18 hH ?_
 refine U_tq 10 19 hH ?_
 clear hH
 refine U_on 11 fun K hK=>?_
 go_simp
 (with_reducible refine (pl_where _ mm pe4 _ (be.mono IP.kept HM.out hs) (by omega) (by omega) HQ.out (Bpe4)).mono ?_)
 rintro e w4 ⟨rfl,hb⟩
 replace hs:=ar hs hb
 revert Blb Blk;refine mo hb ?_;intro Blb Blk
 replace B4:=ah B4 hb
 replace B1:=ah B1 hb
 replace B2:=ah B2 hb
 replace B5:=ah B5 hb
 replace B6:=ah B6 hb
 clear hb
 rw[←Hwz5.out]
 try go_wp2_with fail
 refine hK.out _ _ ⟨B4,B1,B2,B5,B6⟩ (fun hH=>?_)
 clear hK K
 try simp only[LY]
 refine U_tq 12 21 hH ?_
 refine U_tq 13 22 hH ?_
 clear hH
 refine im (by kernel_rfl) (onlyN_in ?_)
 clear B4 B1 B2 B5 B6
 by_cases q6:0≤wz5
 ·have q6d:((0:Int)≤wz5)=True:=eq_true (by omega)
  have hE:=ae (show tcZ l mm=true from tc_2 (by rw[←Hpe4.out,←Hwz5.out];omega))
  refine Blk.k1fl fun B7 fk Lk=>?_
  go_wp2
  clear B7 fk Lk le1 le4
  generalize hW_:(w4.setCell ⟨w.heap.size + 1,0,none⟩ (.bool true))=w5
  have hW:=hW_.symm
  clear hW_
  have hG:Gr [w.heap.size + 1] w4 w5:=by rw[hW];exact (Gr.refl _ _).set
  have hsz:=hs.size
  have lk:=Blk.lt
  have Bl1k:Bx w5 (w.heap.size + 1) 4 #[.bool true]:=by rw[hW];exact (Bx.set Blk 0 _ rfl)
  replace hs:=hs.trans (hG.d1 hs.size)
  replace Blb:=hG.b1 Blb
  replace Blk:=Bl1k
  clear Bl1k
  clear hW hG hsz lk
  have cr_:=Blk.at 0 rfl
  refine⟨_,by simp[results,Tryz.results68,go_sem,cr_];rfl,⟨by rw[hE.out],hs⟩⟩
 have q6d:((0:Int)≤wz5)=False:=eq_false (by omega)
 have HN1:=ae (show ¬ 0≤whZ l (ptZ mm 0) from by rw[←Hpe1.out,←Hwz2.out];omega)
 have HN2:=ae (show ¬ 0≤whZ mm (ptZ l 0) from by rw[←Hpe4.out,←Hwz5.out];omega)
 go_wp2_with fail
 clear le1 le4
 have ny_b_x7:=Blb.lt
 have ny_k_x7:=Blk.lt
 with_reducible refine (ph _ _ _ _).mono ?_
 rintro e w5 ⟨rfl,B0,hb⟩
 revert Blb Blk;refine mS hs hb ?_;clear hs hb;intro hs Blb Blk
 go_wp2_with fail
 have nr_b_0:=Blb.lt
 have nr_k_0:=Blk.lt
 have nr_x7_0:=B0.lt
 have nz_0:=hs.size
 refine edgesR (w4.heap.size) _ l w (fun k W=>Bx W (w.heap.size) 32 #[.slice (some ⟨bb,bq,none⟩) mm.length bc]∧Bx W (w.heap.size + 1) 4 #[.bool false]∧(∀i,i < k→∀j,j < mm.length→tcP l mm i j=false)) (fun c W=>c=.ret∧Bx W (w.heap.size + 1) 4 #[.bool true]∧tcZ l mm=true) rfl rfl HL.out (by omega) hs B0 (fun _=>(.and (.bx _) (.and (.bx _) (.prop _ _)))) (fun c=>(.and (.prop _ _) (.and (.bx _) (.prop _ _)))) ⟨Blb,Blk,(fun j hj=>absurd hj (by omega))⟩ ?hbody0 ?hend0 ?hret0
 case hbody0=>
  clear hs B0 Blb Blk
  intro rec0 lp0 k W0 RR0 hlpa0 hlpb0 hk0 hn0 e1 hs B0 hI hD hR0
  replace hR0:=ae hR0
  replace e1:AtB lp0 (.loop (rec0 .ready none)) W0:=⟨e1⟩
  replace hD:AtB w5.heap.size (.deferred (some [])) W0:=⟨hD⟩
  obtain⟨Blb,Blk,HB⟩:=hI
  skip
  have hT0:=Kp.refl (w5.heap.size + 2) W0
  obtain⟨p,Hp⟩:∃z:Pt,z=ptZ l k:=⟨_,rfl⟩
  obtain⟨q,Hq⟩:∃z:Pt,z=nxZ l k:=⟨_,rfl⟩
  rw[←Hp,←Hq]
  replace Hp:=ae Hp
  replace Hq:=ae Hq
  have Bp:WP 1048576 p:=by rw[Hp.out];exact WP.pt (by decide) HP.out _
  have Bq:WP 1048576 q:=by rw[Hq.out];exact WP.pt (by decide) HP.out _
  gi_wp2
  repeat ((with_reducible refine And.intro ?_ ?_);exact trivial;gi_wp2)
  generalize hW_:(W0.alloc (.cells #[.int .i64 p.1,.int .i64 p.2,.int .i64 q.1,.int .i64 q.2] 69))=w6
  have hW:=hW_.symm
  clear hW_
  have hG:Gr [] W0 w6:=by rw[hW];exact (Gr.refl _ _).alloc
  have sz_w6:=hs.size
  have nb_w6:=Blb.lt
  have nk_w6:=Blk.lt
  have nx7_w6:=B0.lt
  have Ble:Bx w6 (W0.heap.size) 69 #[.int .i64 p.1,.int .i64 p.2,.int .i64 q.1,.int .i64 q.2]:=by rw[hW];exact (Bx.new0 _ _ _)
  replace hs:=hs.trans (hG.below0 hs.size)
  replace e1:=atB _ _ _ e1 (hG.below0 (ag _))
  replace hD:=atB _ _ _ hD (hG.below0 (ag _))
  replace hT0:=kpJ _ _ _ hT0 (hG.below0 (ag _))
  revert B0 Blb Blk;refine g0 hG ?_;intro B0 Blb Blk
  clear hW hG
  have hz_w6:=Ble.lt
  refine⟨e1.h,?_⟩
  obtain⟨w7,hPL⟩:∃x,x=w6.putObj lp0 (.loop (rec0 .busy none)):=⟨_,rfl⟩
  rw[←hPL]
  have hsl:=hs.size
  replace hs:Below w.heap.size w w7:=by rw[hPL];exact hs.trans (belowK_b (ag _) _ lp0 _ _ (by omega) e1.h rfl rfl)
  replace Blb:Bx w7 (w.heap.size) 32 #[.slice (some ⟨bb,bq,none⟩) mm.length bc]:=by rw[hPL];exact Blb.putL e1.h
  replace Blk:Bx w7 (w.heap.size + 1) 4 #[.bool false]:=by rw[hPL];exact Blk.putL e1.h
  replace B0:Bx w7 (w4.heap.size) 32 #[.slice (some ⟨ab,aq,none⟩) l.length ac]:=by rw[hPL];exact B0.putL e1.h
  replace Ble:Bx w7 (W0.heap.size) 69 #[.int .i64 p.1,.int .i64 p.2,.int .i64 q.1,.int .i64 q.2]:=by rw[hPL];exact Ble.putL e1.h
  replace hD:AtB w5.heap.size (.deferred (some [])) w7:=by rw[hPL];exact⟨(World.putObj_heap_other (by omega)).trans hD.h⟩
  replace hT0:Kp (w5.heap.size + 2) W0 w7:=by rw[hPL];exact hT0.putL (by have:=hT0.1;omega) _
  replace e1:AtB lp0 (.loop (rec0 .busy none)) w7:=by rw[hPL];exact⟨World.putObj_heap_same (Array.getElem?_eq_some_iff.1 e1.h).1⟩
  clear hPL hsl
  refine Blb.k1l fun B4 Lb=>?_
  gi_wp2_with fail
  try ((with_reducible refine And.intro ?_ (And.intro ?_ ?_));exact trivial;exact rfl)
  repeat ((with_reducible refine And.intro ?_ ?_);exact trivial;gi_wp2_with fail)
  try ((with_reducible refine And.intro ?_ (And.intro ?_ ?_));exact trivial;exact rfl)
  clear B4 Lb
  have ny_b_x8:=Blb.lt
  have ny_k_x8:=Blk.lt
  have ny_x7_x8:=B0.lt
  have ny_e_x8:=Ble.lt
  with_reducible refine (kb (ph _ _ _ _)).mono ?_
  rintro e w8 ⟨rfl,B3,hb⟩
  replace hs:=ar hs hb
  revert Blb Blk B0 Ble;refine mo hb ?_;intro Blb Blk B0 Ble
  replace e1:=atB _ _ _ e1 hb
  replace hD:=atB _ _ _ hD hb
  replace hT0:=kpJ _ _ _ hT0 hb
  clear hb
  gi_wp2_with fail
  try ((with_reducible refine And.intro ?_ (And.intro ?_ ?_));exact trivial;exact rfl)
  repeat ((with_reducible refine And.intro ?_ ?_);exact trivial;gi_wp2_with fail)
  try ((with_reducible refine And.intro ?_ (And.intro ?_ ?_));exact trivial;exact rfl)
  have nr_b_1:=Blb.lt
  have nr_k_1:=Blk.lt
  have nr_x7_1:=B0.lt
  have nr_e_1:=Ble.lt
  have nr_x8_1:=B3.lt
  have nz_1:=hs.size
  refine edgesN (w7.heap.size) _ mm w (fun m W=>Bx W (w.heap.size) 32 #[.slice (some ⟨bb,bq,none⟩) mm.length bc]∧Bx W (w.heap.size + 1) 4 #[.bool false]∧Bx W (w4.heap.size) 32 #[.slice (some ⟨ab,aq,none⟩) l.length ac]∧Bx W (W0.heap.size) 69 #[.int .i64 p.1,.int .i64 p.2,.int .i64 q.1,.int .i64 q.2]∧AtB lp0 (.loop (rec0 .busy none)) W∧AtB w5.heap.size (.deferred (some [])) W∧Kp (w5.heap.size + 2) W0 W∧(∀j,j < m→tcP l mm k j=false)) (fun c W=>c=.ret∧Bx W (w.heap.size + 1) 4 #[.bool true]∧tcZ l mm=true∧Bx W (w4.heap.size) 32 #[.slice (some ⟨ab,aq,none⟩) l.length ac]∧AtB lp0 (.loop (rec0 .busy none)) W∧AtB w5.heap.size (.deferred (some [])) W∧Kp (w5.heap.size + 2) W0 W) e1.h rfl rfl HM.out (by omega) hs B3 (fun _=>(.and (.bx _) (.and (.bx _) (.and (.bx _) (.and (.bx _) (.and (.atB (Array.getElem?_eq_some_iff.1 e1.h).1) (.and (.atB (Array.getElem?_eq_some_iff.1 hD.h).1) (.and (.kp hT0.1) (.prop _ _))))))))) (fun c=>(.and (.prop _ _) (.and (.bx _) (.and (.prop _ _) (.and (.bx _) (.and (.atB (Array.getElem?_eq_some_iff.1 e1.h).1) (.and (.atB (Array.getElem?_eq_some_iff.1 hD.h).1) (.kp hT0.1)))))))) ⟨Blb,Blk,B0,Ble,e1,hD,hT0,(fun j hj=>absurd hj (by omega))⟩ ?hbody1 ?hend1 ?hret1
  case hbody1=>
   clear hs B3 Blb Blk B0 Ble e1 hD hT0
   intro rec1 lp1 m W1 RR1 hlpa1 hlpb1 hk1 hn1 e1 hs B3 hI hR1
   replace hR1:=ae hR1
   have e2:AtB lp1 (.loop (rec1 .ready none)) W1:=⟨e1⟩
   clear e1
   obtain⟨Blb,Blk,B0,Ble,e1,hD,hT0,HI⟩:=hI
   skip
   have hT1:=Kp.refl (w8.heap.size + 1) W1
   obtain⟨pc,Hpc⟩:∃z:Pt,z=ptZ mm m:=⟨_,rfl⟩
   obtain⟨pd,Hpd⟩:∃z:Pt,z=nxZ mm m:=⟨_,rfl⟩
   rw[←Hpc,←Hpd]
   replace Hpc:=ae Hpc
   replace Hpd:=ae Hpd
   have Bpc:WP 1048576 pc:=by rw[Hpc.out];exact WP.pt (by decide) HQ.out _
   have Bpd:WP 1048576 pd:=by rw[Hpd.out];exact WP.pt (by decide) HQ.out _
   gi_wp2
   repeat ((with_reducible refine And.intro ?_ ?_);exact trivial;gi_wp2)
   generalize hW_:(W1.alloc (.cells #[.int .i64 pc.1,.int .i64 pc.2,.int .i64 pd.1,.int .i64 pd.2] 69))=w9
   have hW:=hW_.symm
   clear hW_
   have hG:Gr [] W1 w9:=by rw[hW];exact (Gr.refl _ _).alloc
   have sz_w9:=hs.size
   have nb_w9:=Blb.lt
   have nk_w9:=Blk.lt
   have nx7_w9:=B0.lt
   have ne_w9:=Ble.lt
   have nx8_w9:=B3.lt
   have Blf:Bx w9 (W1.heap.size) 69 #[.int .i64 pc.1,.int .i64 pc.2,.int .i64 pd.1,.int .i64 pd.2]:=by rw[hW];exact (Bx.new0 _ _ _)
   replace hs:=hs.trans (hG.below0 hs.size)
   replace e1:=atB _ _ _ e1 (hG.below0 (ag _))
   replace hD:=atB _ _ _ hD (hG.below0 (ag _))
   replace hT0:=kpJ _ _ _ hT0 (hG.below0 (ag _))
   replace e2:=atB _ _ _ e2 (hG.below0 (ag _))
   replace hT1:=kpJ _ _ _ hT1 (hG.below0 (ag _))
   revert B3 Blb Blk B0 Ble;refine g0 hG ?_;intro B3 Blb Blk B0 Ble
   clear hW hG
   have hz_w9:=Blf.lt
   refine⟨e2.h,?_⟩
   obtain⟨w10,hPL⟩:∃x,x=w9.putObj lp1 (.loop (rec1 .busy none)):=⟨_,rfl⟩
   rw[←hPL]
   have hsl:=hs.size
   replace hs:Below w.heap.size w w10:=by rw[hPL];exact hs.trans (belowK_b (ag _) _ lp1 _ _ (by omega) e2.h rfl rfl)
   replace Blb:Bx w10 (w.heap.size) 32 #[.slice (some ⟨bb,bq,none⟩) mm.length bc]:=by rw[hPL];exact Blb.putL e2.h
   replace Blk:Bx w10 (w.heap.size + 1) 4 #[.bool false]:=by rw[hPL];exact Blk.putL e2.h
   replace B0:Bx w10 (w4.heap.size) 32 #[.slice (some ⟨ab,aq,none⟩) l.length ac]:=by rw[hPL];exact B0.putL e2.h
   replace Ble:Bx w10 (W0.heap.size) 69 #[.int .i64 p.1,.int .i64 p.2,.int .i64 q.1,.int .i64 q.2]:=by rw[hPL];exact Ble.putL e2.h
   replace B3:Bx w10 (w7.heap.size) 32 #[.slice (some ⟨bb,bq,none⟩) mm.length bc]:=by rw[hPL];exact B3.putL e2.h
   replace Blf:Bx w10 (W1.heap.size) 69 #[.int .i64 pc.1,.int .i64 pc.2,.int .i64 pd.1,.int .i64 pd.2]:=by rw[hPL];exact Blf.putL e2.h
   replace e1:AtB lp0 (.loop (rec0 .busy none)) w10:=by rw[hPL];exact⟨(World.putObj_heap_other (by omega)).trans e1.h⟩
   replace hD:AtB w5.heap.size (.deferred (some [])) w10:=by rw[hPL];exact⟨(World.putObj_heap_other (by omega)).trans hD.h⟩
   replace hT0:Kp (w5.heap.size + 2) W0 w10:=by rw[hPL];exact hT0.putL (by have:=hT0.1;have:=hT1.1;omega) _
   replace hT1:Kp (w8.heap.size + 1) W1 w10:=by rw[hPL];exact hT1.putL (by have:=hT0.1;have:=hT1.1;omega) _
   replace e2:AtB lp1 (.loop (rec1 .busy none)) w10:=by rw[hPL];exact⟨World.putObj_heap_same (Array.getElem?_eq_some_iff.1 e2.h).1⟩
   clear hPL hsl
   refine Ble.k4l fun B8 B9 Ba Bb Le=>?_
   refine Blf.k4l fun Bc Bd Be Bf Lf=>?_
   gi_wp2_with fail
   try ((with_reducible refine And.intro ?_ (And.intro ?_ ?_));exact trivial;exact rfl)
   repeat ((with_reducible refine And.intro ?_ ?_);exact trivial;gi_wp2_with fail)
   try ((with_reducible refine And.intro ?_ (And.intro ?_ ?_));exact trivial;exact rfl)
   clear B8 B9 Ba Bb Bc Bd Be Bf Le Lf
   with_reducible refine (kb (vi p q pc pd _ ⟨Bp.1.mono (by decide),Bp.2.mono (by decide)⟩ ⟨Bq.1.mono (by decide),Bq.2.mono (by decide)⟩ ⟨Bpc.1.mono (by decide),Bpc.2.mono (by decide)⟩ ⟨Bpd.1.mono (by decide),Bpd.2.mono (by decide)⟩)).mono ?_
   rintro e w11 ⟨rfl,hb⟩
   replace hs:=ar hs hb
   revert Blb Blk B0 Ble B3 Blf;refine mo hb ?_;intro Blb Blk B0 Ble B3 Blf
   replace e1:=atB _ _ _ e1 hb
   replace hD:=atB _ _ _ hD hb
   replace hT0:=kpJ _ _ _ hT0 hb
   replace e2:=atB _ _ _ e2 hb
   replace hT1:=kpJ _ _ _ hT1 hb
   clear hb
   obtain⟨b9,Hb9⟩:∃zz:Bool,zz=meZ p q pc pd:=⟨_,rfl⟩
   rw[←Hb9]
   replace Hb9:=ae Hb9
   by_cases q10:meZ p q pc pd=true
   ·obtain rfl:b9=true:=by rw[Hb9.out];exact q10
    have q10H:=ae q10
    clear q10
    refine Blk.k1fl fun B7 fk Lk=>?_
    gi_wp2
    repeat ((with_reducible refine And.intro ?_ ?_);exact trivial;gi_wp2)
    clear B7 fk Lk
    generalize hW_:(w11.setCell ⟨w.heap.size + 1,0,none⟩ (.bool true))=w12
    have hW:=hW_.symm
    clear hW_
    have hG:Gr [w.heap.size + 1] w11 w12:=by rw[hW];exact (Gr.refl _ _).set
    have hsz:=hs.size
    have lk:=Blk.lt
    have Bl1k:Bx w12 (w.heap.size + 1) 4 #[.bool true]:=by rw[hW];exact (Bx.set Blk 0 _ rfl)
    replace hs:=hs.trans (hG.d1 hs.size)
    replace e1:=e1.gr hG (az (by have:=hT0.1;omega))
    replace hD:=hD.gr hG (az (by have:=hT0.1;omega))
    replace hT0:=Kp.gr1 hT0 hG (by have:=hT0.1;omega)
    replace e2:=e2.gr hG (az (by have:=hT0.1;have:=hT1.1;omega))
    replace hT1:=Kp.gr1 hT1 hG (by have:=hT0.1;have:=hT1.1;omega)
    replace Blb:=hG.b1 Blb
    replace B0:=hG.b1 B0
    replace Ble:=hG.b1 Ble
    replace B3:=hG.b1 B3
    replace Blf:=hG.b1 Blf
    replace Blk:=Bl1k
    clear Bl1k
    clear hW hG hsz lk
    exact hR1.out .ret _ _ ⟨e2.h,hs,B3,hT1,⟨rfl,Blk,tc_3 (by omega) (by omega) (show tcP l mm k _=true from by unfold tcP;rw[show ptZ l k=p from Hp.out.symm,show nxZ l k=q from Hq.out.symm,show ptZ mm _=pc from Hpc.out.symm,show nxZ mm _=pd from Hpd.out.symm];exact q10H.out),B0,e1,hD,hT0⟩⟩
   obtain rfl:b9=false:=by rw[Hb9.out];simpa using q10
   have q10H:=ae q10
   clear q10
   gi_wp2
   repeat ((with_reducible refine And.intro ?_ ?_);exact trivial;gi_wp2)
   exact hR1.out .normal _ _ ⟨e2.h,hs,B3,hT1,⟨Blb,Blk,B0,Ble,e1,hD,hT0,upto_ HI (show tcP l mm k _=false from by unfold tcP;rw[show ptZ l k=p from Hp.out.symm,show nxZ l k=q from Hq.out.symm,show ptZ mm _=pc from Hpc.out.symm,show nxZ mm _=pd from Hpd.out.symm];exact Bool.eq_false_iff.2 q10H.out)⟩⟩
  case hend1=>
   clear hs B3 Blb Blk B0 Ble e1 hD hT0
   intro we1 hn1 hs hI
   obtain⟨Blb,Blk,B0,Ble,e1,hD,hT0,HI⟩:=hI
   skip
   gi_wp2
   repeat ((with_reducible refine And.intro ?_ ?_);exact trivial;gi_wp2)
   exact hR0.out .normal _ _ ⟨e1.h,hs,B0,hT0,⟨Blb,Blk,upto_ HB HI⟩⟩ hD.h
  case hret1=>
   clear hs B3 Blb Blk B0 Ble e1 hD hT0
   intro c we hn1 hs hI
   obtain⟨rfl,Blk,hE',B0,e1,hD,hT0⟩:=hI
   gi_wp2
   repeat ((with_reducible refine And.intro ?_ ?_);exact trivial;gi_wp2)
   exact hR0.out .ret _ _ ⟨e1.h,hs,B0,hT0,⟨rfl,Blk,hE'⟩⟩ hD.h
 case hend0=>
  clear hs B0 Blb Blk
  intro D we0 hDe hn0 hDk hs hI
  replace hDk:AtB D (.deferred (some [])) we0:=⟨hDk⟩
  obtain⟨Blb,Blk,HB⟩:=hI
  skip
  refine Blk.k1fl fun B7 fk Lk=>?_
  go_wp2
  clear B7 fk Lk
  generalize hW_:(we0.setCell ⟨w.heap.size + 1,0,none⟩ (.bool false))=w6
  have hW:=hW_.symm
  clear hW_
  have hG:Gr [w.heap.size + 1] we0 w6:=by rw[hW];exact (Gr.refl _ _).set
  have hsz:=hs.size
  have lk:=Blk.lt
  have Bl1k:Bx w6 (w.heap.size + 1) 4 #[.bool false]:=by rw[hW];exact (Bx.set Blk 0 _ rfl)
  replace hs:=hs.trans (hG.d1 hs.size)
  replace hDk:=hDk.gr hG (az (by omega))
  replace Blb:=hG.b1 Blb
  replace Blk:=Bl1k
  clear Bl1k
  clear hW hG hsz lk
  have cr_:=(Blk.putD (o':=.deferred none) hDk.h).at 0 rfl
  refine⟨by simp,.inl ⟨_,_,rfl,run_takeDeferred hDk.h,?_⟩⟩
  refine⟨_,by simp[results,Tryz.results68,go_sem,cr_];rfl,⟨by rw[show tcZ l mm=false from tc_no (by have:=HN1.out;omega) (by have:=HN2.out;omega) HB],hs.trans (belowK_b (ag _) _ D _ _ (by omega) hDk.h rfl rfl)⟩⟩
 case hret0=>
  clear hs B0 Blb Blk
  intro c D we hDe hn0 hDk hs hI
  obtain⟨rfl,Blk,hE⟩:=hI
  replace hDk:AtB D (.deferred (some [])) we:=⟨hDk⟩
  go_wp2
  have cr_:=(Blk.putD (o':=.deferred none) hDk.h).at 0 rfl
  refine⟨by simp,.inl ⟨_,_,rfl,run_takeDeferred hDk.h,?_⟩⟩
  refine⟨_,by simp[results,Tryz.results68,go_sem,cr_];rfl,⟨by rw[hE],hs.trans (belowK_b (ag _) _ D _ _ (by omega) hDk.h rfl rfl)⟩⟩
end Go.Proofs.YtidmjdmmpajooaaGreat
namespace Go.Proofs.YtidmjdmmpajooaaGreat
theorem fr_wn2 {p q:Pt} (hp:WP 1048576 p) (hq:WP 1048576 q):Wn 17592186044416 (frZ p q):=by
 unfold frZ dtZ mnZ
 exact ((Wn.mul (hq.1.sub hp.1) (hq.1.sub hp.1)).add (Wn.mul (hq.2.sub hp.2) (hq.2.sub hp.2))).mono (by decide)
theorem dt_wn {p q:Pt} (hp:WP 2097152 p) (hq:WP 2097152 q):Wn 17592186044416 (dtZ p q):=by
 unfold dtZ
 exact ((Wn.mul hp.1 hq.1).add (Wn.mul hp.2 hq.2)).mono (by decide)
theorem cr_wn {p q:Pt} (hp:WP 2097152 p) (hq:WP 2097152 q):Wn 17592186044416 (crZ p q):=by
 unfold crZ
 exact ((Wn.mul hp.1 hq.2).sub (Wn.mul hp.2 hq.1)).mono (by decide)
theorem wg {p q:Pt} (hp:WP 1048576 p) (hq:WP 1048576 q):WP 2097152 (mnZ p q):=⟨hp.1.sub hq.1,hp.2.sub hq.2⟩
theorem dq_1 {a b q:Pt} (h:dtZ (mnZ q a) (mnZ b a)≤0):dsQ a b q=(frZ a q:Rat):=if_pos h
theorem dq_2 {a b q:Pt} (h:¬ dtZ (mnZ q a) (mnZ b a)≤0) (k:dtZ (mnZ b a) (mnZ b a)≤dtZ (mnZ q a) (mnZ b a)):dsQ a b q=(frZ b q:Rat):=(if_neg h).trans (if_pos k)
theorem dq_3 {a b q:Pt} (h:¬ dtZ (mnZ q a) (mnZ b a)≤0) (k:¬ dtZ (mnZ b a) (mnZ b a)≤dtZ (mnZ q a) (mnZ b a)):dsQ a b q=((crZ (mnZ b a) (mnZ q a):Int):Rat) * ((crZ (mnZ b a) (mnZ q a):Int):Rat) / ((dtZ (mnZ b a) (mnZ b a):Int):Rat):=(if_neg h).trans (if_neg k)
end Go.Proofs.YtidmjdmmpajooaaGreat
