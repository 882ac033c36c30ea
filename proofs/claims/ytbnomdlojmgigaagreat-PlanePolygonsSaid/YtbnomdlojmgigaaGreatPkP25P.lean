/-
  The reference's words for polygons: whether it is convex.
-/
import Derived.Test.YtbnomdlojmgigaaGreatNm1P
import Derived.Test.YtbnomdlojmgigaaGreatNm5P
import Derived.Test.YtbnomdlojmgigaaGreatPkP20P
import Derived.Test.YtbnomdlojmgigaaGreatPkP14P
set_option linter.unusedSimpArgs false
set_option linter.unusedVariables false
set_option maxRecDepth 100000
set_option maxHeartbeats 16000000
namespace Go.Proofs.YtbnomdlojmgigaaGreat
open Go.RowKit Dg
attribute [local go_sem ↓] Go.wp_at_zero Go.wp_at_succ
theorem cx_false {o:List Pt} {k:Nat} (h:cxK o (k + 1)=false):∀n,k < n→cxK o n=false
 | 0,hk=>by omega
 | n + 1,hk=>by
  by_cases e:k=n
  ·subst e;exact h
  show (cxK o n && _)=false
  rw[cx_false h n (by omega)];rfl
theorem cx_step {o:List Pt} {k:Nat} (h:cxK o k=true) {b:Bool} (hb:decide (tnZ (ptZ o k) (ptZ o ((k + 1) % o.length)) (ptZ o ((k + 1 + 1) % o.length)) < 0)=b):cxK o (k + 1)=!b:=by
 show (cxK o k && !decide (tnZ (ptZ o k) (ptZ o ((k + 1) % o.length)) (ptZ o ((k + 1 + 1) % o.length)) < 0))=_
 rw[h,hb];rfl
theorem nm_rt {l:List Pt} (h:∀j,j < l.length→rtB (ptZ l j)=true) (h0:0 < l.length):∀j,j < (nmZ l).length→rtB (ptZ (nmZ l) j)=true:=fun j hj=>by
 obtain⟨t,e⟩:=nm_mem (l:=l) (p:=ptZ (nmZ l) j) (by unfold ptZ;rw[List.getD_eq_getElem?_getD,List.getElem?_eq_getElem hj];exact List.getElem_mem hj)
 rw[e]
 exact h _ (Nat.mod_lt _ h0)
theorem r2_Convex (v:Value) (l:List Pt) (w:World) (hl:Pts w v l) (hv:fl l=0):
  Calls Tryz.prog 30 #[v] w (fj w (.bool (cxZ l))):=by
 obtain⟨h3,h16,hr0, -⟩:=valid_ne hv
 have hr:=all_ptZ.2 (List.all_eq_true.2 hr0)
 obtain⟨bb,oo,cap,rfl,hc1,hc2⟩:=ep hl (by omega)
 have hs:=Below.refl w.heap.size w
 have HL:=ae hl
 have HRA:=ae hr
 have HV:=ae hv
 clear hl hr hr0 hv
 go_enter Tryz.func30,Tryz.ntmps30
 go_wp2_with fail
 with_reducible refine (r2_Normal _ l _ (be.mono IP.kept HL.out hs) HV.out).mono ?_
 rintro e w1 ⟨_,rfl,hq1,hb⟩
 obtain⟨ql,Hql⟩:∃z,z=nmZ l:=⟨_,rfl⟩
 rw[←Hql] at hq1
 have hq0:0 < ql.length:=by rw[Hql,nm_len];exact cc_pos HV.out
 have hq16:ql.length≤16:=by have:=nrK_len l l.length;rw[Hql,nm_len,cc_len];omega
 have HRQ:=ae (show ∀j,j < ql.length→rtB (ptZ ql j)=true from by rw[Hql];exact nm_rt HRA.out (by omega))
 replace Hql:=ae Hql
 obtain⟨qb,qo,qp,rfl,qp1,qp2, -⟩:=hq1.open_ hq0
 have HO:=ae hq1.toI
 clear hq1
 replace hs:=ar hs hb
 clear hb
 have HB0_2:=ae hs
 clear hs
 have hs:=Below.refl w1.heap.size w1
 go_wp2
 go_loopw [4] (fun s4 wq=>∃k:Nat,k≤ql.length∧s4=.int .i64 k∧Below w1.heap.size w1 wq∧(cxK ql k=true)) (fun s4 _=>ql.length - (intOf s4).toNat)
 case atStart=>exact⟨0,Nat.zero_le _,rfl,hs,rfl⟩
 case round=>
  clear hs
  obtain⟨k,k_le,rfl,hs,HX⟩:=hrel
  obtain⟨wl1,hwo⟩:∃x,x=wr:=⟨_,rfl⟩
  subst hwo
  replace HX:=ae HX
  by_cases q3:k < ql.length
  ·have q3d:((k:Int) < (ql.length:Int))=True:=eq_true (by omega)
   obtain⟨nP4,HnP4⟩:∃z:Pt,z=ptZ ql ((k + 1) % ql.length):=⟨_,rfl⟩
   have BnP4:WP 1048576 nP4:=by rw[HnP4];exact jm (HRQ.out _ (Nat.mod_lt _ (by omega)))
   replace HnP4:=ae HnP4
   obtain⟨nP5,HnP5⟩:∃z:Pt,z=ptZ ql (((k + 1) + 1) % ql.length):=⟨_,rfl⟩
   have BnP5:WP 1048576 nP5:=by rw[HnP5];exact jm (HRQ.out _ (Nat.mod_lt _ (by omega)))
   replace HnP5:=ae HnP5
   go_upto_region 5 with fail
   obtain⟨B0,B1,le6⟩:=ij (be.mono IP.kept HO.out hs) (show k < ql.length by omega)
   obtain⟨pe6,Hpe6⟩:∃z:Pt,z=ptZ ql k:=⟨_,rfl⟩
   rw[←Hpe6] at B0 B1
   have Bpe6:WP 1048576 pe6:=by rw[Hpe6];exact jm (HRQ.out k (by omega))
   replace Hpe6:=ae Hpe6
   have AX7:IntKind.i64.wrap ((k:Int) + 1)=(k:Int) + 1:=IntWalk.i64_in _ (by omega)
   obtain⟨tn8,Htn8⟩:∃s:Int,s=tnZ pe6 nP4 nP5:=⟨_,rfl⟩
   replace Htn8:=ae Htn8
   refine bw (S:=fun w'=>w'.cell? ⟨qb,qo + k * 2,none⟩=some (.int .i64 pe6.1)∧w'.cell? ⟨qb,qo + k * 2 + 1,none⟩=some (.int .i64 pe6.2)) (by kernel_rfl) 13 ?_
   refine cq.abs ?_
   intro w22 hW
   have hb:Below wl1.heap.size wl1 w22:=by rw[hW];exact de _
   replace hs:=ar hs hb
   replace B0:=ah B0 hb
   replace B1:=ah B1 hb
   clear hb hW
   have hH:=(show w22.cell? ⟨qb,qo + k * 2,none⟩=some (.int .i64 pe6.1)∧w22.cell? ⟨qb,qo + k * 2 + 1,none⟩=some (.int .i64 pe6.2) from ⟨B0,B1⟩)
   refine U_tq 0 13 hH ?_
   refine U_tq 1 14 hH ?_
   refine U_tq 2 15 hH ?_
   refine U_tq 3 16 hH ?_
   refine U_tq 4 17 hH ?_
   refine U_tq 5 18 hH ?_
   refine U_tq 7 20 hH ?_
   refine U_tq 8 21 hH ?_
   refine U_tq 9 22 hH ?_
   clear hH
   refine U_on 6 fun K hK=>?_
   go_simp
   (with_reducible refine (dp _ ql k ((k:Int)) _ (be.mono IP.kept HO.out hs) (by omega) (by omega) (by omega) (by omega) HnP4.out).mono ?_)
   rintro e w23 ⟨rfl,hb⟩
   replace hs:=ar hs hb
   replace B0:=ah B0 hb
   replace B1:=ah B1 hb
   clear hb
   try go_wp2_with fail
   refine hK.out _ _ ⟨B0,B1⟩ (fun hH=>?_)
   clear hK K
   try simp only[LY]
   clear hH
   refine U_on 10 fun K hK=>?_
   go_simp
   (with_reducible refine (dp _ ql (k + 1) ((k:Int) + 1) _ (be.mono IP.kept HO.out hs) (by omega) (by omega) (by omega) (by omega) HnP5.out).mono ?_)
   rintro e w24 ⟨rfl,hb⟩
   replace hs:=ar hs hb
   replace B0:=ah B0 hb
   replace B1:=ah B1 hb
   clear hb
   try go_wp2_with fail
   refine hK.out _ _ ⟨B0,B1⟩ (fun hH=>?_)
   clear hK K
   try simp only[LY]
   clear hH
   refine U_on 11 fun K hK=>?_
   go_simp
   (with_reducible refine (kn pe6 nP4 nP5 _ Bpe6 BnP4 BnP5).mono ?_)
   rintro e w25 ⟨rfl,hb⟩
   replace hs:=ar hs hb
   replace B0:=ah B0 hb
   replace B1:=ah B1 hb
   clear hb
   rw[←Htn8.out]
   try go_wp2_with fail
   refine hK.out _ _ ⟨B0,B1⟩ (fun hH=>?_)
   clear hK K
   try simp only[LY]
   refine U_tq 12 25 hH ?_
   clear hH
   refine im (by kernel_rfl) ?_
   clear B0 B1
   by_cases q9:tn8 < 0
   ·have q9d:(tn8 < 0)=True:=eq_true (by omega)
    go_wp2
    clear le6
    go_ret
    exact⟨by rw[show cxZ l=false from by unfold cxZ;rw[←Hql.out];exact cx_false (k:=k) (by rw[cx_step HX.out (b:=true) (by rw[show ptZ ql k=pe6 from Hpe6.out.symm,show ptZ ql ((k + 1) % ql.length)=nP4 from HnP4.out.symm,show ptZ ql ((k + 1 + 1) % ql.length)=nP5 from HnP5.out.symm,←Htn8.out];exact decide_eq_true (by omega))];rfl) _ (by omega)];rfl,(ar HB0_2.out hs)⟩
   have q9d:(tn8 < 0)=False:=eq_false (by omega)
   have AX10:IntKind.i64.wrap ((k:Int) + 1)=(k:Int) + 1:=IntWalk.i64_in _ (by omega)
   go_wp2
   go_roundw
   case rel=>exact⟨k + 1,by omega,by go_num,hs,(by rw[cx_step HX.out (b:=false) (by rw[show ptZ ql k=pe6 from Hpe6.out.symm,show ptZ ql ((k + 1) % ql.length)=nP4 from HnP4.out.symm,show ptZ ql ((k + 1 + 1) % ql.length)=nP5 from HnP5.out.symm,←Htn8.out];exact decide_eq_false (by omega))];rfl)⟩
   all_goals first|(simp[intOf];done)|(simp[intOf];omega)
  have q3d:((k:Int) < (ql.length:Int))=False:=eq_false (by omega)
  go_wp2
  go_ret
  exact⟨by rw[show cxZ l=true from by unfold cxZ;rw[←Hql.out,show ql.length=k from by omega];exact HX.out];rfl,(ar HB0_2.out hs)⟩
end Go.Proofs.YtbnomdlojmgigaaGreat
namespace Go.Proofs.YtbnomdlojmgigaaGreat
open Go.RowKit Dg
attribute [local go_sem ↓] Go.wp_at_zero Go.wp_at_succ
theorem pl_Normal (v:Value) (l:List Pt) (w:World) (hl:Pts w v l) {r1:List Pt} {r2:Int} (e1:r1=if fl l=0 then nmZ l else []) (e2:r2=fl l):
  Calls Tryz.prog 24 #[v] w (Ret2 (fun w v=>Rows 2 31 IP w v r1) (fun _ v=>v=.int .i64 r2) w):=by
 obtain⟨al,cl,rfl, -, -, -⟩:=hl.slice
 have hs:=Below.refl w.heap.size w
 have HL:=ae hl
 have E1:=ae e1
 have E2:=ae e2
 clear hl e1 e2
 go_enter Tryz.func24,Tryz.ntmps24
 go_wp2_with fail
 with_reducible refine (tg _ l _ (be.mono IP.kept HL.out hs)).mono ?_
 rintro e w1 ⟨rfl,hb⟩
 replace hs:=ar hs hb
 clear hb
 obtain⟨ck1,Hck1⟩:∃s:Int,s=fl l:=⟨_,rfl⟩
 rw[←Hck1]
 replace Hck1:=ae Hck1
 by_cases q2:ck1=0
 ·have q2b:(ck1 == 0)=true:=beq_iff_eq.2 (by omega)
  have q2n:(ck1 != 0)=false:=bne_eq_false_iff_eq.2 (by omega)
  have q2H:=ae q2
  clear q2
  have HV:=ae (Hck1.out.symm.trans q2H.out)
  go_wp2_with fail
  with_reducible refine (pl_normal _ l _ (be.mono IP.kept HL.out hs) HV.out).mono ?_
  rintro e w2 ⟨_,rfl,hN,hb⟩
  replace hs:=ar hs hb
  clear hb
  go_wp2
  go_ret2
  exact⟨_,_,rfl,by rw[E1.out,if_pos HV.out];exact hN,by rw[E2.out,HV.out];rfl,hs⟩
 have q2b:(ck1 == 0)=false:=beq_eq_false_iff_ne.2 (by omega)
 have q2n:(ck1 != 0)=true:=bne_iff_ne.2 (by omega)
 have q2H:=ae q2
 clear q2
 go_wp2
 go_ret2
 exact⟨_,_,rfl,by rw[E1.out,if_neg (fun h=>q2H.out (Hck1.out.trans h))];exact Rows.nil_ _,by rw[E2.out,←Hck1.out];rfl,hs⟩
theorem pl_Convex (v:Value) (l:List Pt) (w:World) (hl:Pts w v l) {r1:Bool} {r2:Int} (e1:r1=if fl l=0 then cxZ l else false) (e2:r2=fl l):
  Calls Tryz.prog 25 #[v] w (Ret2 (fun _ v=>v=.bool r1) (fun _ v=>v=.int .i64 r2) w):=by
 obtain⟨al,cl,rfl, -, -, -⟩:=hl.slice
 have hs:=Below.refl w.heap.size w
 have HL:=ae hl
 have E1:=ae e1
 have E2:=ae e2
 clear hl e1 e2
 go_enter Tryz.func25,Tryz.ntmps25
 go_wp2_with fail
 with_reducible refine (tg _ l _ (be.mono IP.kept HL.out hs)).mono ?_
 rintro e w1 ⟨rfl,hb⟩
 replace hs:=ar hs hb
 clear hb
 obtain⟨ck1,Hck1⟩:∃s:Int,s=fl l:=⟨_,rfl⟩
 rw[←Hck1]
 replace Hck1:=ae Hck1
 by_cases q2:ck1=0
 ·have q2b:(ck1 == 0)=true:=beq_iff_eq.2 (by omega)
  have q2n:(ck1 != 0)=false:=bne_eq_false_iff_eq.2 (by omega)
  have q2H:=ae q2
  clear q2
  have HV:=ae (Hck1.out.symm.trans q2H.out)
  go_wp2_with fail
  with_reducible refine (pl_normal _ l _ (be.mono IP.kept HL.out hs) HV.out).mono ?_
  rintro e w2 ⟨_,rfl,hq,hb⟩
  obtain⟨ql,Hql⟩:∃z,z=nmZ l:=⟨_,rfl⟩
  rw[←Hql] at hq
  have hq0:0 < ql.length:=by rw[Hql,nm_len];exact cc_pos HV.out
  have hq16:ql.length≤16:=by have:=nrK_len l l.length;have:=(valid_ne HV.out).2.1;rw[Hql,nm_len,cc_len];omega
  have HRQ:=ae (show ∀j,j < ql.length→rtB (ptZ ql j)=true from by rw[Hql];exact nm_rq HV.out)
  replace Hql:=ae Hql
  obtain⟨qb,qo,qp,rfl,qp1,qp2, -⟩:=hq.open_ hq0
  have HO:=ae hq.toI
  clear hq
  replace hs:=ar hs hb
  clear hb
  have HB0_3:=ae hs
  clear hs
  have hs:=Below.refl w2.heap.size w2
  go_wp2
  go_loopw [17] (fun s17 wq=>∃k:Nat,k≤ql.length∧s17=.int .i64 k∧Below w2.heap.size w2 wq∧(cxK ql k=true)) (fun s17 _=>ql.length - (intOf s17).toNat)
  case atStart=>exact⟨0,Nat.zero_le _,rfl,hs,rfl⟩
  case round=>
   clear hs
   obtain⟨k,k_le,rfl,hs,HX⟩:=hrel
   obtain⟨wl1,hwo⟩:∃x,x=wr:=⟨_,rfl⟩
   subst hwo
   replace HX:=ae HX
   by_cases q4:k < ql.length
   ·have q4d:((k:Int) < (ql.length:Int))=True:=eq_true (by omega)
    obtain⟨B6,B7,le5⟩:=ij (be.mono IP.kept HO.out hs) (show k < ql.length by omega)
    obtain⟨pe5,Hpe5⟩:∃z:Pt,z=ptZ ql k:=⟨_,rfl⟩
    rw[←Hpe5] at B6 B7
    have Bpe5:WP 1048576 pe5:=by rw[Hpe5];exact (jm (HRQ.out k (by omega)))
    replace Hpe5:=ae Hpe5
    go_upto_region 8 with fail
    clear le5 B6 B7
    refine Code.abs ?_
    intro w23 hW
    have hG:Gr [] wl1 w23:=by rw[hW];exact (Gr.refl _ _).alloc
    have hbw:Below w2.heap.size wl1 w23:=hG.below0 hs.size
    have sz_w23:w2.heap.size≤wl1.heap.size:=hs.size
    have Blq:Bx w23 (wl1.heap.size) 31 #[.int .i64 pe5.1,.int .i64 pe5.2]:=by rw[hW];exact (Bx.new0 _ _ _)
    replace hs:=hs.trans hbw
    clear hW hG hbw
    have hz_w23:=Blq.lt
    have AX6:IntKind.i64.wrap ((k:Int) + 1)=(k:Int) + 1:=IntWalk.i64_in _ (by omega)
    obtain⟨m8,Hm8⟩:∃z:Nat,z=(k + 1) % ql.length:=⟨_,rfl⟩
    have hm8:m8 < ql.length:=by rw[Hm8];exact Nat.mod_lt _ (by omega)
    have AX7:Int.tmod ((k:Int) + 1) (ql.length:Int)=(m8:Int):=by rw[Hm8,show ((k:Int) + 1:Int)=((k + 1:Nat):Int) from by omega];exact (Int.ofNat_tmod _ _).symm
    have AX7b:IntKind.i64.wrap (m8:Int)=(m8:Int):=IntWalk.i64_in _ (by omega)
    have AX7e:((k:Int) + 1) % (ql.length:Int)=(m8:Int):=by rw[Hm8,show ((k:Int) + 1:Int)=((k + 1:Nat):Int) from by omega];simp
    have AX7z:((ql.length:Int)=0)=False:=eq_false (by omega)
    have AX7c:(ql=[])=False:=eq_false (fun e=>by rw[e] at hm8;exact absurd hm8 (by simp))
    replace Hm8:=ae Hm8
    obtain⟨B2,B3,le9⟩:=ij (be.mono IP.kept HO.out hs) (show m8 < ql.length by omega)
    obtain⟨pe9,Hpe9⟩:∃z:Pt,z=ptZ ql m8:=⟨_,rfl⟩
    rw[←Hpe9] at B2 B3
    have Bpe9:WP 1048576 pe9:=by rw[Hpe9];exact (jm (HRQ.out m8 (by omega)))
    replace Hpe9:=ae Hpe9
    have AX10:IntKind.i64.wrap ((k:Int) + 2)=(k:Int) + 2:=IntWalk.i64_in _ (by omega)
    obtain⟨m12,Hm12⟩:∃z:Nat,z=(k + 2) % ql.length:=⟨_,rfl⟩
    have hm12:m12 < ql.length:=by rw[Hm12];exact Nat.mod_lt _ (by omega)
    have AX11:Int.tmod ((k:Int) + 2) (ql.length:Int)=(m12:Int):=by rw[Hm12,show ((k:Int) + 2:Int)=((k + 2:Nat):Int) from by omega];exact (Int.ofNat_tmod _ _).symm
    have AX11b:IntKind.i64.wrap (m12:Int)=(m12:Int):=IntWalk.i64_in _ (by omega)
    have AX11e:((k:Int) + 2) % (ql.length:Int)=(m12:Int):=by rw[Hm12,show ((k:Int) + 2:Int)=((k + 2:Nat):Int) from by omega];simp
    have AX11z:((ql.length:Int)=0)=False:=eq_false (by omega)
    have AX11c:(ql=[])=False:=eq_false (fun e=>by rw[e] at hm12;exact absurd hm12 (by simp))
    replace Hm12:=ae Hm12
    obtain⟨B0,B1,le13⟩:=ij (be.mono IP.kept HO.out hs) (show m12 < ql.length by omega)
    obtain⟨pe13,Hpe13⟩:∃z:Pt,z=ptZ ql m12:=⟨_,rfl⟩
    rw[←Hpe13] at B0 B1
    have Bpe13:WP 1048576 pe13:=by rw[Hpe13];exact (jm (HRQ.out m12 (by omega)))
    replace Hpe13:=ae Hpe13
    obtain⟨sg14,Hsg14⟩:∃s:Int,s=sdZ pe5 pe9 pe13:=⟨_,rfl⟩
    have Wsg14:Wn 1 sg14:=by rw[Hsg14];exact sd_wn _ _ _
    replace Hsg14:=ae Hsg14
    refine bw (S:=fun w'=>w'.cell? ⟨wl1.heap.size,0,none⟩=some (.int .i64 pe5.1)∧w'.cell? ⟨wl1.heap.size,1,none⟩=some (.int .i64 pe5.2)∧w'.cell? ⟨qb,qo + m8 * 2,none⟩=some (.int .i64 pe9.1)∧w'.cell? ⟨qb,qo + m8 * 2 + 1,none⟩=some (.int .i64 pe9.2)∧w'.cell? ⟨qb,qo + m12 * 2,none⟩=some (.int .i64 pe13.1)∧w'.cell? ⟨qb,qo + m12 * 2 + 1,none⟩=some (.int .i64 pe13.2)) (by kernel_rfl) 19 ?_
    refine cq.abs ?_
    intro w24 hW
    have hb:Below w23.heap.size w23 w24:=by rw[hW];exact de _
    replace hs:=ar hs hb
    replace Blq:=Blq.mono hb
    replace B2:=ah B2 hb
    replace B3:=ah B3 hb
    replace B0:=ah B0 hb
    replace B1:=ah B1 hb
    clear hb hW
    refine Blq.k2 fun B4 B5=>?_
    have hH:=(show w24.cell? ⟨wl1.heap.size,0,none⟩=some (.int .i64 pe5.1)∧w24.cell? ⟨wl1.heap.size,1,none⟩=some (.int .i64 pe5.2)∧w24.cell? ⟨qb,qo + m8 * 2,none⟩=some (.int .i64 pe9.1)∧w24.cell? ⟨qb,qo + m8 * 2 + 1,none⟩=some (.int .i64 pe9.2)∧w24.cell? ⟨qb,qo + m12 * 2,none⟩=some (.int .i64 pe13.1)∧w24.cell? ⟨qb,qo + m12 * 2 + 1,none⟩=some (.int .i64 pe13.2) from ⟨B4,B5,B2,B3,B0,B1⟩)
    refine U_tq 0 22 hH ?_
    refine U_tq 1 23 hH ?_
    refine U_tq 2 24 hH ?_
    refine U_tq 3 25 hH ?_
    refine U_tq 4 26 hH ?_
    refine U_tq 5 27 hH ?_
    refine U_tq 6 28 hH ?_
    refine U_tq 7 29 hH ?_
    refine U_tq 8 30 hH ?_
    refine U_tq 9 31 hH ?_
    refine U_tq 10 32 hH ?_
    refine U_tq 11 33 hH ?_
    refine U_tq 12 34 hH ?_
    refine U_tq 13 35 hH ?_
    refine U_tq 14 36 hH ?_
    refine U_tq 15 37 hH ?_
    refine U_tq 16 38 hH ?_
    clear hH
    refine U_on 17 fun K hK=>?_
    go_simp
    (with_reducible refine (mc pe5 pe9 pe13 _ ⟨Bpe5.1.mono (by decide),Bpe5.2.mono (by decide)⟩ ⟨Bpe9.1.mono (by decide),Bpe9.2.mono (by decide)⟩ ⟨Bpe13.1.mono (by decide),Bpe13.2.mono (by decide)⟩).mono ?_)
    rintro e w25 ⟨rfl,hb⟩
    replace hs:=ar hs hb
    replace Blq:=Blq.mono hb
    replace B4:=ah B4 hb
    replace B5:=ah B5 hb
    replace B2:=ah B2 hb
    replace B3:=ah B3 hb
    replace B0:=ah B0 hb
    replace B1:=ah B1 hb
    clear hb
    rw[←Hsg14.out]
    try go_wp2_with fail
    refine hK.out _ _ ⟨B4,B5,B2,B3,B0,B1⟩ (fun hH=>?_)
    clear hK K
    try simp only[LY]
    refine U_tq 18 40 hH ?_
    clear hH
    refine im (by kernel_rfl) ?_
    clear B4 B5 B2 B3 B0 B1
    by_cases q15:sg14 < 0
    ·have q15d:(sg14 < 0)=True:=eq_true (by omega)
     go_wp2
     clear le9 le13
     go_ret2
     exact⟨_,_,rfl,by rw[show r1=false from by rw[E1.out,if_pos HV.out];unfold cxZ;rw[←Hql.out];exact cx_false (k:=k) (by rw[cx_step HX.out (b:=true) (by rw[show ptZ ql k=pe5 from Hpe5.out.symm,show ptZ ql ((k + 1) % ql.length)=pe9 from by rw[Hpe9.out,Hm8.out],show ptZ ql ((k + 1 + 1) % ql.length)=pe13 from by rw[Hpe13.out,Hm12.out]];exact decide_eq_true (by have e:sg14=sgZ (tnZ pe5 pe9 pe13):=Hsg14.out;have h:=sgi_neg (n:=tnZ pe5 pe9 pe13);rw[←e] at h;omega))];rfl) _ (by omega)];rfl,by rw[show r2=0 from by rw[E2.out,HV.out]];rfl,(ar HB0_3.out hs)⟩
    have q15d:(sg14 < 0)=False:=eq_false (by omega)
    have AX16:IntKind.i64.wrap ((k:Int) + 1)=(k:Int) + 1:=IntWalk.i64_in _ (by omega)
    go_wp2
    go_roundw
    case rel=>exact⟨k + 1,by omega,by go_num,hs,(by rw[cx_step HX.out (b:=false) (by rw[show ptZ ql k=pe5 from Hpe5.out.symm,show ptZ ql ((k + 1) % ql.length)=pe9 from by rw[Hpe9.out,Hm8.out],show ptZ ql ((k + 1 + 1) % ql.length)=pe13 from by rw[Hpe13.out,Hm12.out]];exact decide_eq_false (by have e:sg14=sgZ (tnZ pe5 pe9 pe13):=Hsg14.out;have h:=sgi_neg (n:=tnZ pe5 pe9 pe13);rw[←e] at h;omega))];rfl)⟩
    all_goals first|(simp[intOf];done)|(simp[intOf];omega)
   have q4d:((k:Int) < (ql.length:Int))=False:=eq_false (by omega)
   go_wp2
   go_ret2
   exact⟨_,_,rfl,by rw[show r1=true from by rw[E1.out,if_pos HV.out];unfold cxZ;rw[←Hql.out,show ql.length=k from by omega];exact HX.out];rfl,by rw[show r2=0 from by rw[E2.out,HV.out]];rfl,(ar HB0_3.out hs)⟩
 have q2b:(ck1 == 0)=false:=beq_eq_false_iff_ne.2 (by omega)
 have q2n:(ck1 != 0)=true:=bne_iff_ne.2 (by omega)
 have q2H:=ae q2
 clear q2
 go_wp2
 go_ret2
 exact⟨_,_,rfl,by rw[show r1=false from by rw[E1.out,if_neg (fun h=>q2H.out (Hck1.out.trans h))]];rfl,by rw[show r2=ck1 from by rw[E2.out,←Hck1.out]];rfl,hs⟩
end Go.Proofs.YtbnomdlojmgigaaGreat
namespace Go.Proofs.YtbnomdlojmgigaaGreat
open Go.RowKit Dg
attribute [local go_sem ↓] Go.wp_at_zero Go.wp_at_succ
theorem l2_points (va vb:Value) (l:List Pt) (w:World) (hl:Pts w va l) (hm:Pts w vb l) (h0:0 < l.length):
  Calls Tryz.prog 28 #[va,vb] w (fj w (.bool true)):=by
 obtain⟨bb,oo,cb,rfl,hc1,hc2⟩:=ep hl h0
 obtain⟨bd,od,cd,rfl, -, -⟩:=ep hm h0
 have hs:=Below.refl w.heap.size w
 have HL:=ae hl
 have HM:=ae hm
 clear hl hm
 go_enter Tryz.func28,Tryz.ntmps28
 have q1b:((l.length:Int) == (l.length:Int))=true:=beq_self_eq_true _
 have q1n:((l.length:Int) != (l.length:Int))=false:=bne_self_eq_false _
 go_wp2
 go_loopw [13] (fun s13 wq=>∃k:Nat,k≤l.length∧s13=.int .i64 k∧Below w.heap.size w wq) (fun s13 _=>l.length - (intOf s13).toNat)
 case atStart=>exact⟨0,Nat.zero_le _,rfl,hs⟩
 case round=>
  clear hs
  obtain⟨k,k_le,rfl,hs⟩:=hrel
  obtain⟨wl1,hwo⟩:∃x,x=wr:=⟨_,rfl⟩
  subst hwo
  by_cases q2:k < l.length
  ·have q2d:((k:Int) < (l.length:Int))=True:=eq_true (by omega)
   go_upto_region 6 with fail
   obtain⟨B0,B1,le3⟩:=ij (be.mono IP.kept HL.out hs) (show k < l.length by omega)
   obtain⟨pe3,Hpe3⟩:∃z:Pt,z=ptZ l k:=⟨_,rfl⟩
   rw[←Hpe3] at B0 B1
   replace Hpe3:=ae Hpe3
   obtain⟨B2,B3,le4⟩:=ij (be.mono IP.kept HM.out hs) (show k < l.length by omega)
   rw[show ptZ l k=pe3 from Hpe3.out.symm] at B2 B3
   refine bw (S:=fun w'=>w'.cell? ⟨bb,oo + k * 2,none⟩=some (.int .i64 pe3.1)∧w'.cell? ⟨bb,oo + k * 2 + 1,none⟩=some (.int .i64 pe3.2)∧w'.cell? ⟨bd,od + k * 2,none⟩=some (.int .i64 pe3.1)∧w'.cell? ⟨bd,od + k * 2 + 1,none⟩=some (.int .i64 pe3.2)) (by kernel_rfl) 9 ?_
   refine cq.abs ?_
   intro w21 hW
   have hb:Below wl1.heap.size wl1 w21:=by rw[hW];exact de _
   replace hs:=ar hs hb
   replace B0:=ah B0 hb
   replace B1:=ah B1 hb
   replace B2:=ah B2 hb
   replace B3:=ah B3 hb
   clear hb hW
   have hH:=(show w21.cell? ⟨bb,oo + k * 2,none⟩=some (.int .i64 pe3.1)∧w21.cell? ⟨bb,oo + k * 2 + 1,none⟩=some (.int .i64 pe3.2)∧w21.cell? ⟨bd,od + k * 2,none⟩=some (.int .i64 pe3.1)∧w21.cell? ⟨bd,od + k * 2 + 1,none⟩=some (.int .i64 pe3.2) from ⟨B0,B1,B2,B3⟩)
   refine U_tq 0 16 hH ?_
   refine U_tq 1 17 hH ?_
   refine U_tq 2 18 hH ?_
   refine U_tq 3 19 hH ?_
   refine U_tq 4 20 hH ?_
   refine U_tq 5 21 hH ?_
   refine U_tq 6 22 hH ?_
   refine U_tq 7 23 hH ?_
   refine U_tq 8 24 hH ?_
   clear hH
   refine im (by kernel_rfl) ?_
   clear B0 B1 B2 B3
   go_wp2
   go_roundw
   case rel=>exact⟨k + 1,by omega,by go_num,hs⟩
   all_goals first|(simp[intOf];done)|(simp[intOf];omega)
  have q2d:((k:Int) < (l.length:Int))=False:=eq_false (by omega)
  go_wp2
  go_ret
  exact⟨rfl,hs⟩
end Go.Proofs.YtbnomdlojmgigaaGreat
namespace Go.Proofs.YtbnomdlojmgigaaGreat
open Go.RowKit Dg
attribute [local go_sem ↓] Go.wp_at_zero Go.wp_at_succ
theorem r2_ValidV (v:Value) (l:List Pt) (w:World) (hl:Pts w v l):Calls Tryz.prog 15 #[v] w (fj w (.int .i64 (fl l))):=by
 rw[chk_val]
 exact r2_Valid v l w hl
theorem pl_CheckV (v:Value) (l:List Pt) (w:World) (hl:Pts w v l) {r:Int} (e:r=fl l):Calls Tryz.prog 26 #[v] w (fj w (.int .i64 r)):=by subst e;exact tg v l w hl
theorem r2_TwiceV (v:Value) (l:List Pt) (w:World) (hl:Pts w v l) (hv:fl l=0) {r:Int} (e:r=twZ l):Calls Tryz.prog 27 #[v] w (fj w (.int .i64 r)):=by
 subst e
 have h:=valid_ne hv
 exact r2_Twice v l w hl (by omega) h.2.1 (rt_all hv)
theorem r2_ConvexV (v:Value) (l:List Pt) (w:World) (hl:Pts w v l) (hv:fl l=0) {r:Bool} (e:r=cxZ l):Calls Tryz.prog 30 #[v] w (fj w (.bool r)):=by subst e;exact r2_Convex v l w hl hv
theorem nm_pos {l:List Pt} (h:fl l=0):0 < (nmZ l).length:=by rw[nm_len];exact cc_pos h
theorem l2_PlanePolygons (haw:∀w:World,Calls Tryz.prog 7 #[] w (fj w (.bool true))) (v:Value) (l:List Pt) (w:World) (hl:Pts w v l):
  Calls Tryz.prog 6 #[v] w (fj w (.bool true)):=by
 obtain⟨ao,cap,rfl,hc1,hc2,hc3⟩:=hl.slice
 have hs:=Below.refl w.heap.size w
 have HL:=ae hl
 have HAW:=ae haw
 clear hl haw
 go_enter Tryz.func6,Tryz.ntmps6
 by_cases q1:40 < l.length
 ·have q1d:((40:Int) < (l.length:Int))=True:=eq_true (by omega)
  go_wp2_with fail
  with_reducible refine (HAW.out _).mono ?_
  rintro e w1 ⟨rfl,hb⟩
  replace hs:=ar hs hb
  clear hb
  go_wp2
  go_ret
  exact⟨rfl,hs⟩
 have q1d:((40:Int) < (l.length:Int))=False:=eq_false (by omega)
 go_wp2_with fail
 with_reducible refine (r2_ValidV _ l _ (be.mono IP.kept HL.out hs)).mono ?_
 rintro e w1 ⟨rfl,hb⟩
 replace hs:=ar hs hb
 clear hb
 obtain⟨ck2,Hck2⟩:∃s:Int,s=fl l:=⟨_,rfl⟩
 rw[←Hck2]
 replace Hck2:=ae Hck2
 by_cases q0:ck2=0
 ·have q0H:=ae q0
  clear q0
  have HV:=ae (Hck2.out.symm.trans q0H.out)
  obtain⟨tw,Htw⟩:∃z:Int,z=twZ l:=⟨_,rfl⟩
  replace Htw:=ae Htw
  obtain⟨cx,Hcx⟩:∃z:Bool,z=cxZ l:=⟨_,rfl⟩
  replace Hcx:=ae Hcx
  go_wp2_with fail
  with_reducible refine (pl_Twice _ l _ (be.mono IP.kept HL.out hs) (r1:=tw) (Htw.out.trans (if_pos HV.out).symm) Hck2.out).mono ?_
  rintro e w2 ⟨_,_,rfl,rfl,rfl,hb⟩
  replace hs:=ar hs hb
  clear hb
  go_wp2_with fail
  with_reducible refine (pl_Normal _ l _ (be.mono IP.kept HL.out hs) (r1:=nmZ l) (if_pos HV.out).symm Hck2.out).mono ?_
  rintro e w3 ⟨_,_,rfl,nl3,rfl,hb⟩
  obtain⟨anl3,knl3,rfl,nl31,nl32,nl33⟩:=nl3.toI.slice
  replace hs:=ar hs hb
  clear hb
  go_wp2_with fail
  with_reducible refine (pl_Convex _ l _ (be.mono IP.kept HL.out hs) (r1:=cx) (Hcx.out.trans (if_pos HV.out).symm) Hck2.out).mono ?_
  rintro e w4 ⟨_,_,rfl,rfl,rfl,hb⟩
  replace hs:=ar hs hb
  replace nl3:=el IP.kept _ _ _ nl3 hb
  clear hb
  go_wp2_with fail
  with_reducible refine (pl_CheckV _ l _ (be.mono IP.kept HL.out hs) Hck2.out).mono ?_
  rintro e w5 ⟨rfl,hb⟩
  replace hs:=ar hs hb
  replace nl3:=el IP.kept _ _ _ nl3 hb
  clear hb
  have q4b:(ck2 == ck2)=true:=beq_self_eq_true _
  have q4n:(ck2 != ck2)=false:=bne_self_eq_false _
  have q5b:(ck2 == ck2)=true:=beq_self_eq_true _
  have q5n:(ck2 != ck2)=false:=bne_self_eq_false _
  have q6b:(ck2 == ck2)=true:=beq_self_eq_true _
  have q6n:(ck2 != ck2)=false:=bne_self_eq_false _
  have q7b:(ck2 == ck2)=true:=beq_self_eq_true _
  have q7n:(ck2 != ck2)=false:=bne_self_eq_false _
  have q8:ck2=0:=q0H.out
  have q8b:(ck2 == 0)=true:=beq_iff_eq.2 (by omega)
  have q8n:(ck2 != 0)=false:=bne_eq_false_iff_eq.2 (by omega)
  have q8H:=ae q8
  clear q8
  go_wp2_with fail
  with_reducible refine (r2_TwiceV _ l _ (be.mono IP.kept HL.out hs) HV.out Htw.out).mono ?_
  rintro e w6 ⟨rfl,hb⟩
  replace hs:=ar hs hb
  replace nl3:=el IP.kept _ _ _ nl3 hb
  clear hb
  have q9b:(tw == tw)=true:=beq_self_eq_true _
  have q9n:(tw != tw)=false:=bne_self_eq_false _
  go_wp2_with fail
  with_reducible refine (r2_Normal _ l _ (be.mono IP.kept HL.out hs) HV.out).mono ?_
  rintro e w7 ⟨_,rfl,rl10,hb⟩
  obtain⟨arl10,krl10,rfl,rl101,rl102,rl103⟩:=rl10.toI.slice
  replace hs:=ar hs hb
  replace nl3:=el IP.kept _ _ _ nl3 hb
  clear hb
  go_wp2_with fail
  with_reducible refine (l2_points _ _ (nmZ l) _ nl3.toI rl10.toI (nm_pos HV.out)).mono ?_
  rintro e w8 ⟨rfl,hb⟩
  replace hs:=ar hs hb
  replace nl3:=el IP.kept _ _ _ nl3 hb
  replace rl10:=el IP.kept _ _ _ rl10 hb
  clear hb
  go_wp2_with fail
  with_reducible refine (r2_ConvexV _ l _ (be.mono IP.kept HL.out hs) HV.out Hcx.out).mono ?_
  rintro e w9 ⟨rfl,hb⟩
  replace hs:=ar hs hb
  replace nl3:=el IP.kept _ _ _ nl3 hb
  replace rl10:=el IP.kept _ _ _ rl10 hb
  clear hb
  go_wp2_with fail
  with_reducible refine (HAW.out _).mono ?_
  rintro e w10 ⟨rfl,hb⟩
  replace hs:=ar hs hb
  replace nl3:=el IP.kept _ _ _ nl3 hb
  replace rl10:=el IP.kept _ _ _ rl10 hb
  clear hb
  go_wp2
  go_ret
  exact⟨rfl,hs⟩
 have q0H:=ae q0
 clear q0
 have HV:=ae (show ¬ (fl l=0) from fun h=>q0H.out (Hck2.out.trans h))
 go_wp2_with fail
 with_reducible refine (pl_Twice _ l _ (be.mono IP.kept HL.out hs) (r1:=0) (if_neg HV.out).symm Hck2.out).mono ?_
 rintro e w2 ⟨_,_,rfl,rfl,rfl,hb⟩
 replace hs:=ar hs hb
 clear hb
 go_wp2_with fail
 with_reducible refine (pl_Normal _ l _ (be.mono IP.kept HL.out hs) (r1:=[]) (if_neg HV.out).symm Hck2.out).mono ?_
 rintro e w3 ⟨_,_,rfl,nl3,rfl,hb⟩
 obtain⟨anl3,knl3,rfl,nl31,nl32,nl33⟩:=nl3.toI.slice
 replace hs:=ar hs hb
 clear hb
 go_wp2_with fail
 with_reducible refine (pl_Convex _ l _ (be.mono IP.kept HL.out hs) (r1:=false) (if_neg HV.out).symm Hck2.out).mono ?_
 rintro e w4 ⟨_,_,rfl,rfl,rfl,hb⟩
 replace hs:=ar hs hb
 clear hb
 go_wp2_with fail
 with_reducible refine (pl_CheckV _ l _ (be.mono IP.kept HL.out hs) Hck2.out).mono ?_
 rintro e w5 ⟨rfl,hb⟩
 replace hs:=ar hs hb
 clear hb
 have q4b:(ck2 == ck2)=true:=beq_self_eq_true _
 have q4n:(ck2 != ck2)=false:=bne_self_eq_false _
 have q5b:(ck2 == ck2)=true:=beq_self_eq_true _
 have q5n:(ck2 != ck2)=false:=bne_self_eq_false _
 have q6b:(ck2 == ck2)=true:=beq_self_eq_true _
 have q6n:(ck2 != ck2)=false:=bne_self_eq_false _
 have q7b:(ck2 == ck2)=true:=beq_self_eq_true _
 have q7n:(ck2 != ck2)=false:=bne_self_eq_false _
 have q8:¬ (ck2=0):=q0H.out
 have q8b:(ck2 == 0)=false:=beq_eq_false_iff_ne.2 (by omega)
 have q8n:(ck2 != 0)=true:=bne_iff_ne.2 (by omega)
 have q8H:=ae q8
 clear q8
 go_wp2_with fail
 with_reducible refine (HAW.out _).mono ?_
 rintro e w6 ⟨rfl,hb⟩
 replace hs:=ar hs hb
 clear hb
 go_wp2
 go_ret
 exact⟨rfl,hs⟩
end Go.Proofs.YtbnomdlojmgigaaGreat
namespace Go.Proofs.YtbnomdlojmgigaaGreat
abbrev Spn:=Rat × Rat
theorem lnF_swap (s x y:Spn) (h:x.1=y.1):lnF (lnF s x) y=lnF (lnF s y) x:=by
 obtain⟨a,e⟩:=s;obtain⟨x1,x2⟩:=x;obtain⟨y1,y2⟩:=y
 simp only at h
 subst h
 unfold lnF
 simp only
 by_cases c1:e < x1
 ·simp only[if_pos c1]
  by_cases c2:x1 < x2<;>by_cases c3:x1 < y2
  ·simp only[if_pos c2,if_pos c3]
   rw[if_neg (show ¬ x2 < x1 by grind),if_neg (show ¬ y2 < x1 by grind)]
   by_cases c4:x2 < y2
   ·rw[if_pos c4,if_neg (show ¬ y2 < x2 by grind)];congr 1;grind
   ·rw[if_neg c4]
    by_cases c5:y2 < x2
    ·rw[if_pos c5];congr 1;grind
    ·rw[if_neg c5];congr 1<;>grind
  ·simp only[if_pos c2,if_neg c3]
   rw[if_neg (show ¬ x2 < x1 by grind),if_neg (show ¬ x2 < y2 by grind),if_neg (show ¬ x1 < x1 by grind),if_pos c2]
  ·simp only[if_neg c2,if_pos c3]
   rw[if_neg (show ¬ x1 < x1 by grind),if_pos c3,if_neg (show ¬ y2 < x1 by grind),if_neg (show ¬ y2 < x2 by grind)]
  ·simp only[if_neg c2,if_neg c3]
   rw[if_neg (show ¬ x1 < x1 by grind),if_neg c3,if_neg c2]
 ·simp only[if_neg c1]
  by_cases c2:e < x2<;>by_cases c3:e < y2
  ·simp only[if_pos c2,if_pos c3]
   rw[if_neg (show ¬ x2 < x1 by grind),if_neg (show ¬ y2 < x1 by grind)]
   by_cases c4:x2 < y2
   ·rw[if_pos c4,if_neg (show ¬ y2 < x2 by grind)];congr 1;grind
   ·rw[if_neg c4]
    by_cases c5:y2 < x2
    ·rw[if_pos c5];congr 1;grind
    ·rw[if_neg c5];congr 1<;>grind
  ·simp only[if_pos c2,if_neg c3]
   rw[if_neg (show ¬ x2 < x1 by grind),if_neg (show ¬ x2 < y2 by grind),if_neg c1,if_pos c2]
  ·simp only[if_neg c2,if_pos c3]
   rw[if_neg c1,if_pos c3,if_neg (show ¬ y2 < x1 by grind),if_neg (show ¬ y2 < x2 by grind)]
  ·simp only[if_neg c2,if_neg c3]
   rw[if_neg c1,if_neg c3,if_neg c2]
def lxB (x y:Spn):Bool:=decide (x.1 < y.1) || (decide (x.1=y.1) && decide (x.2≤y.2))
def jh (x:Spn):List Spn→List Spn
 | []=>[x]
 | y ::r=>if lxB x y=true then x ::y ::r else y ::jh x r
theorem us (x y:Spn):lxB x y=true↔x.1 < y.1∨x.1=y.1∧x.2≤y.2:=by unfold lxB;simp
theorem insX_mem {x z:Spn}:∀{l:List Spn},z∈jh x l→z=x∨z∈l
 | [],h=>by simp[jh] at h;exact .inl h
 | y ::r,h=>by
  unfold jh at h
  split at h
  ·rcases List.mem_cons.1 h with h|h
   ·exact .inl h
   ·exact .inr h
  ·rcases List.mem_cons.1 h with h|h
   ·exact .inr (h ▸ List.mem_cons_self)
   ·rcases insX_mem h with h|h
    ·exact .inl h
    ·exact .inr (List.mem_cons_of_mem _ h)
theorem insX_fold (x:Spn):∀(l:List Spn) (s:Spn),(∀y∈l,x.1≤y.1)→(jh x l).foldl lnF s=l.foldl lnF (lnF s x)
 | [],s,_=>rfl
 | y ::r,s,h=>by
  unfold jh
  split
  ·rfl
  ·rename_i hc
   have hxy:=h y List.mem_cons_self
   have he:x.1=y.1:=by
    refine Decidable.byContradiction fun hne=>hc ((us x y).2 (.inl ?_))
    grind
   show (jh x r).foldl lnF (lnF s y)=r.foldl lnF (lnF (lnF s x) y)
   rw[insX_fold x r (lnF s y) (fun z hz=>h z (List.mem_cons_of_mem _ hz)),lnF_swap s x y he]
theorem insX_comm (x y:Spn):∀l:List Spn,jh x (jh y l)=jh y (jh x l)
 | []=>by
  show (if lxB x y=true then [x,y] else [y,x])=(if lxB y x=true then [y,x] else [x,y])
  by_cases h1:lxB x y=true<;>by_cases h2:lxB y x=true
  ·have:x=y:=by
    rw[us] at h1 h2
    exact Prod.ext (by grind) (by grind)
   subst this;rfl
  ·rw[if_pos h1,if_neg h2]
  ·rw[if_neg h1,if_pos h2]
  ·rw[us] at h1 h2
   exact absurd h1 (by grind)
 | z ::r=>by
  have ih:=insX_comm x y r
  show jh x (if lxB y z=true then y ::z ::r else z ::jh y r)=jh y (if lxB x z=true then x ::z ::r else z ::jh x r)
  by_cases h1:lxB y z=true<;>by_cases h2:lxB x z=true
  ·rw[if_pos h1,if_pos h2]
   show (if lxB x y=true then x ::y ::z ::r else y ::(if lxB x z=true then x ::z ::r else z ::jh x r))=(if lxB y x=true then y ::x ::z ::r else x ::(if lxB y z=true then y ::z ::r else z ::jh y r))
   rw[if_pos h1,if_pos h2]
   by_cases h3:lxB x y=true<;>by_cases h4:lxB y x=true
   ·have:x=y:=by
     rw[us] at h3 h4
     exact Prod.ext (by grind) (by grind)
    subst this;rfl
   ·rw[if_pos h3,if_neg h4]
   ·rw[if_neg h3,if_pos h4]
   ·rw[us] at h3 h4
    exact absurd h3 (by grind)
  ·rw[if_pos h1,if_neg h2]
   have h3:¬ lxB x y=true:=fun h=>h2 (by rw[us] at h h1 ⊢;grind)
   show (if lxB x y=true then x ::y ::z ::r else y ::(if lxB x z=true then x ::z ::r else z ::jh x r))=(if lxB y z=true then y ::z ::jh x r else z ::jh y (jh x r))
   rw[if_neg h3,if_neg h2,if_pos h1]
  ·rw[if_neg h1,if_pos h2]
   have h3:¬ lxB y x=true:=fun h=>h1 (by rw[us] at h h2 ⊢;grind)
   show (if lxB x z=true then x ::z ::jh y r else z ::jh x (jh y r))=(if lxB y x=true then y ::x ::z ::r else x ::(if lxB y z=true then y ::z ::r else z ::jh y r))
   rw[if_neg h3,if_neg h1,if_pos h2]
  ·rw[if_neg h1,if_neg h2]
   show (if lxB x z=true then x ::z ::jh y r else z ::jh x (jh y r))=(if lxB y z=true then y ::z ::jh x r else z ::jh y (jh x r))
   rw[if_neg h2,if_neg h1,ih]
def canX (l:List Spn):List Spn:=l.foldr jh []
theorem canX_mem {z:Spn}:∀{l:List Spn},z∈canX l→z∈l
 | [],h=>by cases h
 | x ::r,h=>by
  rcases insX_mem (show z∈jh x (canX r) from h) with h|h
  ·exact h ▸ List.mem_cons_self
  ·exact List.mem_cons_of_mem _ (canX_mem h)
theorem xw:∀(l:List Spn) (s:Spn),l.Pairwise (fun a b=>a.1≤b.1)→(canX l).foldl lnF s=l.foldl lnF s
 | [],_,_=>rfl
 | x ::r,s,h=>by
  obtain⟨h1,h2⟩:=List.pairwise_cons.1 h
  show (jh x (canX r)).foldl lnF s=r.foldl lnF (lnF s x)
  rw[insX_fold x (canX r) s (fun y hy=>h1 y (canX_mem hy)),xw r _ h2]
theorem canX_perm {l l':List Spn} (h:l.Perm l'):canX l=canX l':=by
 induction h with
 | nil=>rfl
 | cons x _ ih=>show jh x _=jh x _;unfold canX at ih;rw[ih]
 | swap x y l=>exact insX_comm y x (canX l)
 | trans _ _ h1 h2=>exact h1.trans h2
theorem lnQ_fold {x:Spn} {r:List Spn} {e:Rat} (h:e < x.1):lnQ (x ::r)=((x ::r).foldl lnF (0,e)).1:=by
 show (r.foldl lnF _).1=(r.foldl lnF (lnF (0,e) x)).1
 congr 2
 unfold lnF
 simp only[if_pos h]
 by_cases c:x.1 < x.2
 ·rw[if_pos c,if_pos c,Rat.zero_add]
 ·rw[if_neg c,if_neg c]
theorem lnQ_perm {l l':List Spn} (hp:l.Perm l') (hs:l.Pairwise (fun a b=>a.1≤b.1)) (hs':l'.Pairwise (fun a b=>a.1≤b.1)):lnQ l=lnQ l':=by
 match l,l',hp,hs,hs' with
 | [],l',hp,_,_=>rw[List.Perm.eq_nil (hp.symm)]
 | x ::r,[],hp,_,_=>exact absurd hp.length_eq (by simp)
 | x ::r,y ::r',hp,hs,hs'=>
  obtain⟨h1,h2⟩:=List.pairwise_cons.1 hs
  obtain⟨h3,h4⟩:=List.pairwise_cons.1 hs'
  have e1:x.1≤y.1:=by
   rcases List.mem_cons.1 (hp.mem_iff.2 List.mem_cons_self:y∈x ::r) with h|h
   ·rw[h];exact Rat.le_refl
   ·exact h1 _ h
  have e2:y.1≤x.1:=by
   rcases List.mem_cons.1 (hp.mem_iff.1 List.mem_cons_self:x∈y ::r') with h|h
   ·rw[h];exact Rat.le_refl
   ·exact h3 _ h
  rw[lnQ_fold (e:=x.1 - 1) (by grind),lnQ_fold (e:=x.1 - 1) (by grind),←xw _ _ hs,←xw _ _ hs',canX_perm hp]
end Go.Proofs.YtbnomdlojmgigaaGreat
namespace Go.Proofs.YtbnomdlojmgigaaGreat
abbrev cn (l:List Spn) (i:Nat):Spn:=l.getD i (0,0)
def lnS (l:List Spn):Nat→Rat × Rat
 | 0=>(0,0)
 | k + 1=>
  let s:=lnS l k
  let e:=if k=0∨s.2 < (cn l k).1 then (cn l k).1 else s.2
  if e < (cn l k).2 then (s.1 + ((cn l k).2 - e),(cn l k).2) else (s.1,e)
theorem lnS_fold (x:Spn) (r:List Spn):∀k,k≤r.length→lnS (x ::r) (k + 1)=(r.take k).foldl lnF (if x.1 < x.2 then (x.2 - x.1,x.2) else (0,x.1))
 | 0,_=>by
  show (let s:Rat × Rat:=(0,0);let e:=if 0=0∨s.2 < x.1 then x.1 else s.2;if e < x.2 then (s.1 + (x.2 - e),x.2) else (s.1,e))=_
  simp only[true_or,if_true,List.take_zero,List.foldl_nil]
  by_cases c:x.1 < x.2
  ·rw[if_pos c,if_pos c,Rat.zero_add]
  ·rw[if_neg c,if_neg c]
 | k + 1,h=>by
  have ih:=lnS_fold x r k (by omega)
  have hx:r[k]?=some (r[k]'(by omega)):=List.getElem?_eq_getElem _
  have e1:cn (x ::r) (k + 1)=r[k]'(by omega):=by
   show (x ::r).getD (k + 1) (0,0)=_
   rw[List.getD_eq_getElem?_getD,List.getElem?_cons_succ,hx];rfl
  have e2:r.take (k + 1)=r.take k ++ [r[k]'(by omega)]:=by rw[List.take_add_one,hx];rfl
  rw[e2,List.foldl_append,←ih]
  show (let s:=lnS (x ::r) (k + 1);let e:=if k + 1=0∨s.2 < (cn (x ::r) (k + 1)).1 then (cn (x ::r) (k + 1)).1 else s.2;if e < (cn (x ::r) (k + 1)).2 then (s.1 + ((cn (x ::r) (k + 1)).2 - e),(cn (x ::r) (k + 1)).2) else (s.1,e))=lnF (lnS (x ::r) (k + 1)) (r[k]'(by omega))
  rw[e1]
  unfold lnF
  simp only[Nat.succ_ne_zero,false_or]
theorem lnS_all (l:List Spn):(lnS l l.length).1=lnQ l:=by
 cases l with
 | nil=>rfl
 | cons x r=>
  show (lnS (x ::r) (r.length + 1)).1=_
  rw[lnS_fold x r r.length (ag _),List.take_length]
  rfl
def prK (ys:List Rat):Nat→List Spn
 | 0=>[]
 | j + 1=>prK ys j ++ [(bj ys (2 * j),bj ys (2 * j + 1))]
theorem prK_front (a b:Rat) (r:List Rat):∀j,prK (a ::b ::r) (j + 1)=(a,b) ::prK r j
 | 0=>rfl
 | j + 1=>by
  show prK (a ::b ::r) (j + 1) ++ [(bj (a ::b ::r) (2 * (j + 1)),bj (a ::b ::r) (2 * (j + 1) + 1))]=(a,b) ::(prK r j ++ [(bj r (2 * j),bj r (2 * j + 1))])
  rw[prK_front a b r j]
  rfl
theorem prK_all:∀ys:List Rat,prK ys (ys.length / 2)=prQ ys
 | []=>rfl
 | [a]=>by show prK [a] (1 / 2)=[];rw[show 1 / 2=0 from rfl];rfl
 | a ::b ::r=>by
  have e:(a ::b ::r).length / 2=r.length / 2 + 1:=by show (r.length + 1 + 1) / 2=_;omega
  rw[e,prK_front,prK_all r];rfl
def uv (ps:List (List Edg)) (xs:List Rat):Nat→Rat
 | 0=>0
 | k + 1=>uv ps xs k + rr ps (bj xs k) (bj xs (k + 1))
theorem jf6 (ps:List (List Edg)) (a:Rat) (r:List Rat):∀k,uv ps (a ::r) (k + 1)=rr ps a (bj r 0) + uv ps r k
 | 0=>by show 0 + rr ps a (bj r 0)=rr ps a (bj r 0) + 0;rw[Rat.zero_add,Rat.add_zero]
 | k + 1=>by
  show uv ps (a ::r) (k + 1) + rr ps (bj (a ::r) (k + 1)) (bj (a ::r) (k + 1 + 1))=_ + (uv ps r k + rr ps (bj r k) (bj r (k + 1)))
  rw[jf6 ps a r k,Rat.add_assoc]
  rfl
theorem xk (ps:List (List Edg)):∀xs:List Rat,uv ps xs (xs.length - 1)=sumQ ps xs
 | []=>rfl
 | [_]=>rfl
 | a ::b ::r=>by
  show uv ps (a ::b ::r) (r.length + 1)=rr ps a b + sumQ ps (b ::r)
  rw[jf6,←xk ps (b ::r)]
  rfl
end Go.Proofs.YtbnomdlojmgigaaGreat
