/-
  The reference's words for polygons: twice the area; which point is ahead.
-/
import Derived.Test.YtbnomdlojmgigaaGreatPlUP
import Derived.Test.YtbnomdlojmgigaaGreatPkP14P
set_option linter.unusedSimpArgs false
set_option linter.unusedVariables false
set_option maxRecDepth 100000
set_option maxHeartbeats 4000000
namespace Go.Proofs.YtbnomdlojmgigaaGreat
open Go.RowKit Dg
attribute [local go_sem ↓] Go.wp_at_zero Go.wp_at_succ
theorem tw_bR {l:List Pt} (hr:∀j,WP 1048576 (ptZ l j)):∀k:Nat,k≤1000→Wn ((k:Int) * 2199023255552) (twK l k)
 | 0,_=>by show Wn _ 0;exact⟨by omega,by omega⟩
 | k + 1,hk=>by
  have h1:=tw_bR hr k (by omega)
  have h2:=Wn.sub (Wn.mul (hr k).1 (hr ((k + 1) % l.length)).2) (Wn.mul (hr k).2 (hr ((k + 1) % l.length)).1)
  have h3:Wn ((k:Int) * 2199023255552 + (1048576 * 1048576 + 1048576 * 1048576)) (twK l (k + 1)):=h1.add h2
  exact h3.mono (by push_cast;omega)
theorem ptR {l:List Pt} (hr:∀j,j < l.length→rtB (ptZ l j)=true) (j:Nat):WP 1048576 (ptZ l j):=by
 by_cases h:j < l.length
 ·exact jm (hr j h)
 unfold ptZ
 rw[List.getD_eq_getElem?_getD,List.getElem?_eq_none (by omega)]
 exact⟨Wn.lit (by decide) (by decide),Wn.lit (by decide) (by decide)⟩
theorem r2_less (p q:Pt) (w:World):Calls Tryz.prog 66 #[.agg #[.int .i64 p.1,.int .i64 p.2],.agg #[.int .i64 q.1,.int .i64 q.2]] w (fj w (.bool (lsB p q))):=by
 have hs:=Below.refl w.heap.size w
 go_enter Tryz.func66,Tryz.ntmps66
 by_cases q1:p.1 < q.1
 ·have q1d:(p.1 < q.1)=True:=eq_true (by omega)
  go_wp2
  refine bodyPost.abs ?_
  intro w1 hW
  have hG:Gr [] w w1:=by rw[hW];exact (Gr.refl _ _).alloc.alloc
  have Bf:=hs.size
  have Blp:Bx w1 (w.heap.size) 31 #[.int .i64 p.1,.int .i64 p.2]:=by rw[hW];exact ((Bx.new0 _ _ _).alloc _)
  have B4:Bx w1 (w.heap.size + 1) 31 #[.int .i64 q.1,.int .i64 q.2]:=by rw[hW];exact (Bx.new0 _ _ _)
  replace hs:=hs.trans (hG.below0 hs.size)
  clear hW hG
  have Be:=B4.lt
  go_ret
  exact⟨by rw[show lsB p q=true from by unfold lsB;rw[decide_eq_true (show (p.1 < q.1) from by omega)];simp];rfl,hs⟩
 have q1d:(p.1 < q.1)=False:=eq_false (by omega)
 by_cases q2:p.1=q.1
 ·have q2b:(p.1 == q.1)=true:=beq_iff_eq.2 (by omega)
  have q2n:(p.1 != q.1)=false:=bne_eq_false_iff_eq.2 (by omega)
  have Bg:=ae q2
  clear q2
  by_cases q3:p.2 < q.2
  ·have q3d:(p.2 < q.2)=True:=eq_true (by omega)
   try simp only[q3d]
   go_wp2
   refine bodyPost.abs ?_
   intro w1 hW
   have hG:Gr [] w w1:=by rw[hW];exact (Gr.refl _ _).alloc.alloc
   have Bf:=hs.size
   have Blp:Bx w1 (w.heap.size) 31 #[.int .i64 p.1,.int .i64 p.2]:=by rw[hW];exact ((Bx.new0 _ _ _).alloc _)
   have B4:Bx w1 (w.heap.size + 1) 31 #[.int .i64 q.1,.int .i64 q.2]:=by rw[hW];exact (Bx.new0 _ _ _)
   replace hs:=hs.trans (hG.below0 hs.size)
   clear hW hG
   have Be:=B4.lt
   go_ret
   exact⟨by rw[show lsB p q=true from by unfold lsB;rw[decide_eq_false (show ¬ (p.1 < q.1) from by omega)];rw[decide_eq_true (show (p.1=q.1) from Bg.out)];rw[decide_eq_true (show (p.2 < q.2) from by omega)];simp];rfl,hs⟩
  have q3d:(p.2 < q.2)=False:=eq_false (by omega)
  try simp only[q3d]
  go_wp2
  refine bodyPost.abs ?_
  intro w1 hW
  have hG:Gr [] w w1:=by rw[hW];exact (Gr.refl _ _).alloc.alloc
  have Bf:=hs.size
  have Blp:Bx w1 (w.heap.size) 31 #[.int .i64 p.1,.int .i64 p.2]:=by rw[hW];exact ((Bx.new0 _ _ _).alloc _)
  have B4:Bx w1 (w.heap.size + 1) 31 #[.int .i64 q.1,.int .i64 q.2]:=by rw[hW];exact (Bx.new0 _ _ _)
  replace hs:=hs.trans (hG.below0 hs.size)
  clear hW hG
  have Be:=B4.lt
  go_ret
  exact⟨by rw[show lsB p q=false from by unfold lsB;rw[decide_eq_false (show ¬ (p.1 < q.1) from by omega)];rw[decide_eq_true (show (p.1=q.1) from Bg.out)];rw[decide_eq_false (show ¬ (p.2 < q.2) from by omega)];simp];rfl,hs⟩
 have q2b:(p.1 == q.1)=false:=beq_eq_false_iff_ne.2 (by omega)
 have q2n:(p.1 != q.1)=true:=bne_iff_ne.2 (by omega)
 have Bg:=ae q2
 clear q2
 go_wp2
 refine bodyPost.abs ?_
 intro w1 hW
 have hG:Gr [] w w1:=by rw[hW];exact (Gr.refl _ _).alloc.alloc
 have Bf:=hs.size
 have Blp:Bx w1 (w.heap.size) 31 #[.int .i64 p.1,.int .i64 p.2]:=by rw[hW];exact ((Bx.new0 _ _ _).alloc _)
 have B4:Bx w1 (w.heap.size + 1) 31 #[.int .i64 q.1,.int .i64 q.2]:=by rw[hW];exact (Bx.new0 _ _ _)
 replace hs:=hs.trans (hG.below0 hs.size)
 clear hW hG
 have Be:=B4.lt
 go_ret
 exact⟨by rw[show lsB p q=false from by unfold lsB;rw[decide_eq_false (show ¬ (p.1 < q.1) from by omega)];rw[decide_eq_false (show ¬ (p.1=q.1) from Bg.out)];simp];rfl,hs⟩
theorem r2_Twice (v:Value) (l:List Pt) (w:World) (hl:Pts w v l) (h0:0 < l.length) (h16:l.length≤16) (hr:∀j,j < l.length→rtB (ptZ l j)=true):
  Calls Tryz.prog 27 #[v] w (fj w (.int .i64 (twZ l))):=by
 obtain⟨bb,oo,cap,rfl,hc1,hc2⟩:=ep hl h0
 have hs:=Below.refl w.heap.size w
 have HPR:=ae (fun j=>ptR hr j)
 have HL:=ae hl
 have HRA:=ae hr
 clear hl hr
 go_enter Tryz.func27,Tryz.ntmps27
 go_wp2
 go_loopw [3,4] (fun s3 s4 wq=>∃k:Nat,k≤l.length∧s4=.int .i64 k∧s3=.int .i64 (twK l k)∧Below w.heap.size w wq) (fun s3 s4 _=>l.length - (intOf s4).toNat)
 case atStart=>exact⟨0,Nat.zero_le _,rfl,rfl,hs⟩
 case round=>
  clear hs
  obtain⟨k,k_le,rfl,rfl,hs⟩:=hrel
  obtain⟨wl1,hwo⟩:∃x,x=wr:=⟨_,rfl⟩
  subst hwo
  have HTB:=ae ((tw_bR HPR.out k (by omega)).mono (show (k:Int) * 2199023255552≤2199023255552000 by omega))
  by_cases q1:k < l.length
  ·have q1d:((k:Int) < (l.length:Int))=True:=eq_true (by omega)
   obtain⟨B1,Ba⟩:∃z:Pt,z=ptZ l ((k + 1) % l.length):=⟨_,rfl⟩
   have B6:WP 1048576 B1:=by rw[Ba];exact jm (HRA.out _ (Nat.mod_lt _ (by omega)))
   replace Ba:=ae Ba
   go_wp2_with fail
   with_reducible refine (dp _ l k ((k:Int)) _ (be.mono IP.kept HL.out hs) (by omega) (by omega) (by omega) (by omega) Ba.out).mono ?_
   rintro e B5 ⟨rfl,hb⟩
   replace hs:=ar hs hb
   clear hb
   go_upto_region 6 with fail
   refine Code.abs ?_
   intro Bc hW
   have hG:Gr [] B5 Bc:=by rw[hW];exact (Gr.refl _ _).alloc
   have sz_w22:=hs.size
   have B4:Bx Bc (B5.heap.size) 31 #[.int .i64 B1.1,.int .i64 B1.2]:=by rw[hW];exact (Bx.new0 _ _ _)
   replace hs:=hs.trans (hG.below0 hs.size)
   clear hW hG
   have hz_w22:=B4.lt
   obtain⟨B8,B9,le3⟩:=ij (be.mono IP.kept HL.out hs) (show k < l.length by omega)
   obtain⟨B2,Bb⟩:∃z:Pt,z=ptZ l k:=⟨_,rfl⟩
   rw[←Bb] at B8 B9
   have B7:WP 1048576 B2:=by rw[Bb];exact (jm (HRA.out k (by omega)))
   replace Bb:=ae Bb
   have AX4:IntKind.i64.wrap (B2.1 * B1.2)=B2.1 * B1.2:=Wn.wmul B7.1 B6.2 (by decide)
   have AX5:IntKind.i64.wrap (twK l k + B2.1 * B1.2)=twK l k + B2.1 * B1.2:=Wn.wadd HTB.out (Wn.mul B7.1 B6.2) (by decide)
   have AX6:IntKind.i64.wrap (B2.2 * B1.1)=B2.2 * B1.1:=Wn.wmul B7.2 B6.1 (by decide)
   have AX7:IntKind.i64.wrap (twK l k + B2.1 * B1.2 - B2.2 * B1.1)=twK l k + B2.1 * B1.2 - B2.2 * B1.1:=Wn.wsub (Wn.add HTB.out (Wn.mul B7.1 B6.2)) (Wn.mul B7.2 B6.1) (by decide)
   refine bw (S:=fun w'=>w'.cell? ⟨B5.heap.size,0,none⟩=some (.int .i64 B1.1)∧w'.cell? ⟨B5.heap.size,1,none⟩=some (.int .i64 B1.2)∧w'.cell? ⟨bb,oo + k * 2,none⟩=some (.int .i64 B2.1)∧w'.cell? ⟨bb,oo + k * 2 + 1,none⟩=some (.int .i64 B2.2)) (by kernel_rfl) 20 ?_
   refine cq.abs ?_
   intro Bd hW
   have hb:Below Bc.heap.size Bc Bd:=by rw[hW];exact de _
   replace hs:=ar hs hb
   replace B4:=B4.mono hb
   replace B8:=ah B8 hb
   replace B9:=ah B9 hb
   clear hb hW
   refine B4.k2 fun Bh Bi=>?_
   have hH:=(show Bd.cell? ⟨B5.heap.size,0,none⟩=some (.int .i64 B1.1)∧Bd.cell? ⟨B5.heap.size,1,none⟩=some (.int .i64 B1.2)∧Bd.cell? ⟨bb,oo + k * 2,none⟩=some (.int .i64 B2.1)∧Bd.cell? ⟨bb,oo + k * 2 + 1,none⟩=some (.int .i64 B2.2) from ⟨Bh,Bi,B8,B9⟩)
   refine U_tq 0 15 hH ?_
   refine U_tq 1 16 hH ?_
   refine U_tq 2 17 hH ?_
   refine U_tq 3 18 hH ?_
   refine U_tq 4 19 hH ?_
   refine U_tq 5 20 hH ?_
   refine U_tq 6 21 hH ?_
   refine U_tq 7 22 hH ?_
   refine U_tq 8 23 hH ?_
   refine U_tq 9 24 hH ?_
   refine U_tq 10 25 hH ?_
   refine U_tq 11 26 hH ?_
   refine U_tq 12 27 hH ?_
   refine U_tq 13 28 hH ?_
   refine U_tq 14 29 hH ?_
   refine U_tq 15 30 hH ?_
   refine U_tq 16 31 hH ?_
   refine U_tq 17 32 hH ?_
   refine U_tq 18 33 hH ?_
   refine U_tq 19 3 hH ?_
   clear hH
   refine im (by kernel_rfl) ?_
   clear Bh Bi B8 B9
   have AX8:IntKind.i64.wrap ((k:Int) + 1)=(k:Int) + 1:=IntWalk.i64_in _ (by omega)
   go_wp2
   go_roundw
   case rel=>exact⟨k + 1,by omega,by go_num,congrArg (Value.int .i64) (show twK l k + B2.1 * B1.2 - B2.2 * B1.1=twK l (k + 1) from by show _=twK l k + crZ (ptZ l k) (ptZ l ((k + 1) % l.length));rw[show ptZ l k=B2 from Bb.out.symm,show ptZ l ((k + 1) % l.length)=B1 from Ba.out.symm];unfold crZ;omega),hs⟩
   all_goals first|(simp[intOf];done)|(simp[intOf];omega)
  have q1d:((k:Int) < (l.length:Int))=False:=eq_false (by omega)
  go_wp2
  go_ret
  exact⟨by rw[show twZ l=twK l k from by unfold twZ;rw[show k=l.length from by omega]];rfl,hs⟩
end Go.Proofs.YtbnomdlojmgigaaGreat
