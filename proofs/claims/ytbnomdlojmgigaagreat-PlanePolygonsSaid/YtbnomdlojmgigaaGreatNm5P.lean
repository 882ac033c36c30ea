/-
  plane: the normal polygon with the same points.
-/
import Derived.Test.YtbnomdlojmgigaaGreatPkP17P
import Derived.Test.YtbnomdlojmgigaaGreatPkP18P
set_option linter.unusedSimpArgs false
set_option linter.unusedVariables false
set_option maxRecDepth 100000
set_option maxHeartbeats 16000000
namespace Go.Proofs.YtbnomdlojmgigaaGreat
open Go.RowKit Dg
attribute [local go_sem ↓] Go.wp_at_zero Go.wp_at_succ
theorem rt_all {l:List Pt} (h:fl l=0):∀j,j < l.length→rtB (ptZ l j)=true:=fun j hj=>by
 have:=(valid_ne h).2.2.1
 exact this _ (by unfold ptZ;rw[List.getD_eq_getElem?_getD,List.getElem?_eq_getElem hj];exact List.getElem_mem hj)
theorem nr_wp {l:List Pt} (h:fl l=0) (k:Nat):∀p∈nrK l k,WP 1048576 p:=fun p hp=>by
 obtain⟨j,rfl⟩:=nr_mem k p hp
 exact jm (rt_all h _ (Nat.mod_lt _ (by have:=(valid_ne h).1;omega)))
theorem nm_rq {l:List Pt} (h:fl l=0):∀j,j < (nmZ l).length→rtB (ptZ (nmZ l) j)=true:=fun j hj=>by
 obtain⟨t,e⟩:=nm_mem (l:=l) (p:=ptZ (nmZ l) j) (by unfold ptZ;rw[List.getD_eq_getElem?_getD,List.getElem?_eq_getElem hj];exact List.getElem_mem hj)
 rw[e]
 exact rt_all h _ (Nat.mod_lt _ (by have:=(valid_ne h).1;omega))
theorem pl_normal (v:Value) (l:List Pt) (w:World) (hl:Pts w v l) (hv:fl l=0):
  Calls Tryz.prog 59 #[v] w (Ret1 (fun w v=>Rows 2 31 IP w v (nmZ l)) w):=by
 obtain⟨h3,h16, -, -⟩:=valid_ne hv
 obtain⟨bb,oo,cap,rfl,hc1,hc2⟩:=ep hl (by omega)
 have hs:=Below.refl w.heap.size w
 have HL:=ae hl
 have HRA:=ae (rt_all hv)
 have HV:=ae hv
 clear hl hv
 obtain⟨i0,hi,hz0,hz1,hz2⟩:=info_parts pt_info
 go_enter Tryz.func59,Tryz.ntmps59
 go_wp2
 go_loopw [3,14] (fun s3 s14 wq=>∃k:Nat,k≤l.length∧s14=.int .i64 k∧Below w.heap.size w wq∧cw w.heap.size 31 2 IP wq s3 (nrK l k)) (fun s3 s14 _=>l.length - (intOf s14).toNat)
 case atStart=>exact⟨0,Nat.zero_le _,rfl,hs,cw.nil _ _ _ _ _⟩
 case round=>
  clear hs
  obtain⟨k,k_le,rfl,hs,Oow⟩:=hrel
  obtain⟨wl1,hwo⟩:∃x,x=wr:=⟨_,rfl⟩
  subst hwo
  by_cases q1:k < l.length
  ·have q1d:((k:Int) < (l.length:Int))=True:=eq_true (by omega)
   obtain⟨B9,Ba,le2⟩:=ij (be.mono IP.kept HL.out hs) (show k < l.length by omega)
   obtain⟨pe2,Hpe2⟩:∃z:Pt,z=ptZ l k:=⟨_,rfl⟩
   rw[←Hpe2] at B9 Ba
   have Bpe2:WP 1048576 pe2:=by rw[Hpe2];exact (jm (HRA.out k (by omega)))
   replace Hpe2:=ae Hpe2
   go_upto_region 6 with fail
   clear le2 B9 Ba
   refine Code.abs ?_
   intro w21 hW
   have hG:Gr [] wl1 w21:=by rw[hW];exact (Gr.refl _ _).alloc
   have sz_w21:=hs.size
   have Blq:Bx w21 (wl1.heap.size) 31 #[.int .i64 pe2.1,.int .i64 pe2.2]:=by rw[hW];exact (Bx.new0 _ _ _)
   have Ap_ow_q:=Oow.ap (g:=wl1.heap.size) (by omega)
   replace hs:=hs.trans (hG.below0 hs.size)
   replace Oow:=Oow.mono IP.kept (hG.below0 (ag _))
   clear hW hG
   have hz_w21:=Blq.lt
   have AX3:IntKind.i64.wrap ((k:Int) + (l.length:Int))=(k:Int) + (l.length:Int):=IntWalk.i64_in _ (by omega)
   have AX4:IntKind.i64.wrap ((k:Int) + (l.length:Int) - 1)=(k:Int) + (l.length:Int) - 1:=IntWalk.i64_in _ (by omega)
   obtain⟨m6,Hm6⟩:∃z:Nat,z=(k + l.length - 1) % l.length:=⟨_,rfl⟩
   have hm6:m6 < l.length:=by rw[Hm6];exact Nat.mod_lt _ (by omega)
   have AX5:Int.tmod ((k:Int) + (l.length:Int) - 1) (l.length:Int)=(m6:Int):=by rw[Hm6,show ((k:Int) + (l.length:Int) - 1:Int)=((k + l.length - 1:Nat):Int) from by omega];exact (Int.ofNat_tmod _ _).symm
   have AX5b:IntKind.i64.wrap (m6:Int)=(m6:Int):=IntWalk.i64_in _ (by omega)
   have AX5e:((k:Int) + (l.length:Int) - 1) % (l.length:Int)=(m6:Int):=by rw[Hm6,show ((k:Int) + (l.length:Int) - 1:Int)=((k + l.length - 1:Nat):Int) from by omega];simp
   have AX5z:((l.length:Int)=0)=False:=eq_false (by omega)
   have AX5c:(l=[])=False:=eq_false (fun e=>by rw[e] at hm6;exact absurd hm6 (by simp))
   replace Hm6:=ae Hm6
   obtain⟨B7,B8,le7⟩:=ij (be.mono IP.kept HL.out hs) (show m6 < l.length by omega)
   obtain⟨pe7,Hpe7⟩:∃z:Pt,z=ptZ l m6:=⟨_,rfl⟩
   rw[←Hpe7] at B7 B8
   have Bpe7:WP 1048576 pe7:=by rw[Hpe7];exact (jm (HRA.out m6 (by omega)))
   replace Hpe7:=ae Hpe7
   have AX8:IntKind.i64.wrap ((k:Int) + 1)=(k:Int) + 1:=IntWalk.i64_in _ (by omega)
   obtain⟨m10,Hm10⟩:∃z:Nat,z=(k + 1) % l.length:=⟨_,rfl⟩
   have hm10:m10 < l.length:=by rw[Hm10];exact Nat.mod_lt _ (by omega)
   have AX9:Int.tmod ((k:Int) + 1) (l.length:Int)=(m10:Int):=by rw[Hm10,show ((k:Int) + 1:Int)=((k + 1:Nat):Int) from by omega];exact (Int.ofNat_tmod _ _).symm
   have AX9b:IntKind.i64.wrap (m10:Int)=(m10:Int):=IntWalk.i64_in _ (by omega)
   have AX9e:((k:Int) + 1) % (l.length:Int)=(m10:Int):=by rw[Hm10,show ((k:Int) + 1:Int)=((k + 1:Nat):Int) from by omega];simp
   have AX9z:((l.length:Int)=0)=False:=eq_false (by omega)
   have AX9c:(l=[])=False:=eq_false (fun e=>by rw[e] at hm10;exact absurd hm10 (by simp))
   replace Hm10:=ae Hm10
   obtain⟨B2,B3,le11⟩:=ij (be.mono IP.kept HL.out hs) (show m10 < l.length by omega)
   obtain⟨pe11,Hpe11⟩:∃z:Pt,z=ptZ l m10:=⟨_,rfl⟩
   rw[←Hpe11] at B2 B3
   have Bpe11:WP 1048576 pe11:=by rw[Hpe11];exact (jm (HRA.out m10 (by omega)))
   replace Hpe11:=ae Hpe11
   obtain⟨sg12,Hsg12⟩:∃s:Int,s=sdZ pe7 pe2 pe11:=⟨_,rfl⟩
   have Wsg12:Wn 1 sg12:=by rw[Hsg12];exact sd_wn _ _ _
   replace Hsg12:=ae Hsg12
   refine bw (S:=fun w'=>w'.cell? ⟨wl1.heap.size,0,none⟩=some (.int .i64 pe2.1)∧w'.cell? ⟨wl1.heap.size,1,none⟩=some (.int .i64 pe2.2)∧w'.cell? ⟨bb,oo + m6 * 2,none⟩=some (.int .i64 pe7.1)∧w'.cell? ⟨bb,oo + m6 * 2 + 1,none⟩=some (.int .i64 pe7.2)∧w'.cell? ⟨bb,oo + m10 * 2,none⟩=some (.int .i64 pe11.1)∧w'.cell? ⟨bb,oo + m10 * 2 + 1,none⟩=some (.int .i64 pe11.2)) (by kernel_rfl) 19 ?_
   refine cq.abs ?_
   intro w22 hW
   have hb:Below w21.heap.size w21 w22:=by rw[hW];exact de _
   replace hs:=ar hs hb
   replace Blq:=Blq.mono hb
   replace Oow:=Oow.mono IP.kept hb
   replace B7:=ah B7 hb
   replace B8:=ah B8 hb
   replace B2:=ah B2 hb
   replace B3:=ah B3 hb
   clear hb hW
   refine Blq.k2 fun B0 B1=>?_
   have hH:=(show w22.cell? ⟨wl1.heap.size,0,none⟩=some (.int .i64 pe2.1)∧w22.cell? ⟨wl1.heap.size,1,none⟩=some (.int .i64 pe2.2)∧w22.cell? ⟨bb,oo + m6 * 2,none⟩=some (.int .i64 pe7.1)∧w22.cell? ⟨bb,oo + m6 * 2 + 1,none⟩=some (.int .i64 pe7.2)∧w22.cell? ⟨bb,oo + m10 * 2,none⟩=some (.int .i64 pe11.1)∧w22.cell? ⟨bb,oo + m10 * 2 + 1,none⟩=some (.int .i64 pe11.2) from ⟨B0,B1,B7,B8,B2,B3⟩)
   refine U_tq 0 19 hH ?_
   refine U_tq 1 20 hH ?_
   refine U_tq 2 21 hH ?_
   refine U_tq 3 22 hH ?_
   refine U_tq 4 23 hH ?_
   refine U_tq 5 24 hH ?_
   refine U_tq 6 25 hH ?_
   refine U_tq 7 26 hH ?_
   refine U_tq 8 27 hH ?_
   refine U_tq 9 28 hH ?_
   refine U_tq 10 29 hH ?_
   refine U_tq 11 30 hH ?_
   refine U_tq 12 31 hH ?_
   refine U_tq 13 32 hH ?_
   refine U_tq 14 33 hH ?_
   refine U_tq 15 34 hH ?_
   refine U_tq 16 35 hH ?_
   clear hH
   refine U_on 17 fun K hK=>?_
   go_simp
   (with_reducible refine (mc pe7 pe2 pe11 _ ⟨Bpe7.1.mono (by decide),Bpe7.2.mono (by decide)⟩ ⟨Bpe2.1.mono (by decide),Bpe2.2.mono (by decide)⟩ ⟨Bpe11.1.mono (by decide),Bpe11.2.mono (by decide)⟩).mono ?_)
   rintro e w23 ⟨rfl,hb⟩
   replace hs:=ar hs hb
   replace Blq:=Blq.mono hb
   replace Oow:=Oow.mono IP.kept hb
   replace B0:=ah B0 hb
   replace B1:=ah B1 hb
   replace B7:=ah B7 hb
   replace B8:=ah B8 hb
   replace B2:=ah B2 hb
   replace B3:=ah B3 hb
   clear hb
   rw[←Hsg12.out]
   try go_wp2_with fail
   refine hK.out _ _ ⟨B0,B1,B7,B8,B2,B3⟩ (fun hH=>?_)
   clear hK K
   try simp only[LY]
   refine U_tq 18 37 hH ?_
   clear hH
   refine im (by kernel_rfl) ?_
   clear B0 B1 B7 B8 B2 B3
   by_cases q13:sg12=0
   ·have q13b:(sg12 == 0)=true:=beq_iff_eq.2 (by omega)
    have q13n:(sg12 != 0)=false:=bne_eq_false_iff_eq.2 (by omega)
    have q13H:=ae q13
    clear q13
    have AX14:IntKind.i64.wrap ((k:Int) + 1)=(k:Int) + 1:=IntWalk.i64_in _ (by omega)
    go_wp2
    go_roundw
    case rel=>exact⟨k + 1,by omega,by go_num,hs,(by rw[nr_step l (by omega) _ (show kpB l k=false from by unfold kpB;rw[decide_eq_false (show ¬ (tnZ (cyP l (k + l.length - 1)) (cyP l k) (cyP l (k + 1))≠0) from by rw[show cyP l (k + l.length - 1)=pe7 from by rw[Hpe7.out,Hm6.out];rfl,show cyP l k=pe2 from (cyP_lt (by omega)).trans Hpe2.out.symm,show cyP l (k + 1)=pe11 from by rw[Hpe11.out,Hm10.out];rfl];exact fun h=>h (sgi_zero.1 (Hsg12.out.symm.trans q13H.out)))]),if_neg (by decide),List.append_nil];exact Oow)⟩
    all_goals first|(simp[intOf];done)|(simp[intOf];omega)
   have q13b:(sg12 == 0)=false:=beq_eq_false_iff_ne.2 (by omega)
   have q13n:(sg12 != 0)=true:=bne_iff_ne.2 (by omega)
   have q13H:=ae q13
   clear q13
   refine Blq.k2l fun B0 B1 Lq=>?_
   go_wp2_with (at_builtin;refine wpList.stop ?_)
   refine⟨?_⟩
   clear B0 B1 Lq le7 le11
   refine wpList.abs ?_
   intro w24 hW
   have hG:Gr [] w23 w24:=by rw[hW];exact (Gr.refl _ _).alloc
   have sz_w24:=hs.size
   have nq_w24:=Blq.lt
   have B4:Bx w24 (w23.heap.size) 31 #[.int .i64 pe2.1,.int .i64 pe2.2]:=by rw[hW];exact (Bx.new0 _ _ _)
   replace hs:=hs.trans (hG.below0 hs.size)
   replace Blq:=hG.bx Blq wh
   replace Oow:=Oow.mono IP.kept (hG.below0 (ag _))
   clear hW hG
   have hz_w24:=B4.lt
   obtain⟨css,ho1,ho2,ho3,hown0⟩:=Oow
   refine wpList_append_lies _ rfl _ _ _ rfl w.heap.size 31 i0 _ 2 16 Tryz.underlying22 hi hz0 hz1 hz2 rfl (by omega) _ _ css.flatten rfl hown0 ⟨w23.heap.size,0,none⟩ 1 1 [.int .i64 pe2.1,.int .i64 pe2.2] rfl rfl B4.news ?_ (by omega) ?_ ?_ ?_ _ rfl ?_
   ·intro u hu;simp only[List.mem_cons,List.mem_nil_iff,or_false] at hu;rcases hu with rfl|rfl<;>rfl
   ·unfold maxLen;(have:=nrK_len l k;omega)
   ·(have:=nrK_len l k;omega)
   ·exact hs.size
   intro gow capow w25 hown1 hgrow hat hlt_
   have hk_:=aw.owns hown0 hgrow (by decide)
   have ho:=iu hown0 hgrow
   replace hs:=hs.grown hgrow hs.size (fun k hk=>(hown0.lt k hk).1)
   replace Oow:=cw.push' IP.kept ho1 ho2 ho3 (x:=pe2) rfl rfl (by simp) hown1 hk_
   have Ap_ow_q1:=Ap_ow_q.app hat Blq.lt
   replace Blq:=Blq.grown hgrow Ap_ow_q.ne
   replace Ap_ow_q:=Ap_ow_q1
   clear Ap_ow_q1
   clear hk_ ho ho1 ho2 ho3 hown0 hown1 hgrow hat hlt_ B4
   have AX14:IntKind.i64.wrap ((k:Int) + 1)=(k:Int) + 1:=IntWalk.i64_in _ (by omega)
   go_wp2
   go_roundw
   case rel=>exact⟨k + 1,by omega,by go_num,hs,(by rw[nr_step l (by omega) _ (show kpB l k=true from by unfold kpB;rw[decide_eq_true (show (tnZ (cyP l (k + l.length - 1)) (cyP l k) (cyP l (k + 1))≠0) from by rw[show cyP l (k + l.length - 1)=pe7 from by rw[Hpe7.out,Hm6.out];rfl,show cyP l k=pe2 from (cyP_lt (by omega)).trans Hpe2.out.symm,show cyP l (k + 1)=pe11 from by rw[Hpe11.out,Hm10.out];rfl];exact fun h=>q13H.out (Hsg12.out.trans (sgi_zero.2 h)))]),if_pos rfl,show ptZ l k=pe2 from Hpe2.out.symm];exact Oow)⟩
   all_goals first|(simp[intOf];done)|(simp[intOf];omega)
  have q1d:((k:Int) < (l.length:Int))=False:=eq_false (by omega)
  rw[show k=l.length from by omega] at Oow
  obtain⟨ol,Hol⟩:∃z,z=nrK l l.length:=⟨_,rfl⟩
  have HNW:=ae (show ∀p∈ol,WP 1048576 p from by rw[Hol];exact nr_wp HV.out _)
  rw[←Hol] at Oow
  replace Hol:=ae Hol
  have ho0:0 < ol.length:=by rw[Hol.out];exact nr_ne HV.out
  have ho16:ol.length≤l.length:=by rw[Hol.out];exact nrK_len l _
  go_wp2_with fail
  with_reducible refine (pl_twice _ ol _ Oow.rows.toI (by omega) HNW.out).mono ?_
  rintro e w21 ⟨rfl,hb⟩
  replace hs:=ar hs hb
  replace Oow:=Oow.mono IP.kept hb
  clear hb
  obtain⟨tw2,Htw2⟩:∃s:Int,s=twZ ol:=⟨_,rfl⟩
  rw[←Htw2]
  replace Htw2:=ae Htw2
  go_upto_if 45 with (fail)
  go_cut [46,47] (fun kf46 kf47 wz=>Below w.heap.size w wz∧cw w.heap.size 31 2 IP wz u3 (ccZ l))
  case first=>
   by_cases q3:tw2 < 0
   ·have q3d:(tw2 < 0)=True:=eq_true (by omega)
    try simp only[q3d]
    go_wp2_with fail
    with_reducible refine (sl_RevP _ Oow (by omega) (by omega) hs.size).mono ?_
    rintro e w22 ⟨rfl,hOr,hb⟩
    replace hs:=hs.trans hb
    clear hb Oow
    go_wp2_with fail
    go_meet
    exact⟨hs,(show cw w.heap.size 31 2 IP w22 u3 (ccZ l) from by unfold ccZ;rw[←Hol.out,if_pos (by rw[←Htw2.out];omega)];exact hOr)⟩
   have q3d:(tw2 < 0)=False:=eq_false (by omega)
   try simp only[q3d]
   go_wp2_with fail
   go_meet
   exact⟨hs,(show cw w.heap.size 31 2 IP w21 u3 (ccZ l) from by unfold ccZ;rw[←Hol.out,if_neg (by rw[←Htw2.out];omega)];exact Oow)⟩
  case rest=>
   clear hs
   obtain⟨hs,HC⟩:=hcut
   clear Oow
   obtain⟨ql,Hql⟩:∃z,z=ccZ l:=⟨_,rfl⟩
   rw[←Hql] at HC
   replace Hql:=ae Hql
   have hq0:0 < ql.length:=by rw[Hql.out];exact cc_pos HV.out
   have hq16:ql.length≤l.length:=by rw[Hql.out,cc_len];exact nrK_len l _
   obtain⟨cb,co,cp,hv3,cp1,cp2, -⟩:=HC.rows.open_ hq0
   subst hv3
   have HO:=ae HC.rows.toI
   have HO2:=ae HC.rows
   clear HC
   have HB0_3:=ae hs
   clear hs
   have hs:=Below.refl wc.heap.size wc
   go_wp2
   go_loopw [7,50] (fun s7 s50 wq=>∃k:Nat,k≤ql.length∧s50=.int .i64 k∧s7=.int .i64 ((fmK ql k:Nat))∧Below wc.heap.size wc wq) (fun s7 s50 _=>ql.length - (intOf s50).toNat)
   case atStart=>exact⟨0,Nat.zero_le _,rfl,rfl,hs⟩
   case round=>
    clear hs
    obtain⟨k,k_le,rfl,rfl,hs⟩:=hrel
    obtain⟨wl3,hwo⟩:∃x,x=wr:=⟨_,rfl⟩
    subst hwo
    obtain⟨ff,Hff⟩:∃z:Nat,z=fmK ql k:=⟨_,rfl⟩
    have hff:ff≤k - 1:=by rw[Hff];exact fmK_le ql k
    rw[←Hff]
    replace Hff:=ae Hff
    have ffa:ff < ql.length:=by omega
    have ffd:(ff < ql.length)=True:=eq_true ffa
    have ffe:((ff:Int) < (ql.length:Int))=True:=eq_true (by omega)
    by_cases q4:k < ql.length
    ·have q4d:((k:Int) < (ql.length:Int))=True:=eq_true (by omega)
     obtain⟨Bb,Bc,le5⟩:=ij (be.mono IP.kept HO.out hs) (show k < ql.length by omega)
     obtain⟨pe5,Hpe5⟩:∃z:Pt,z=ptZ ql k:=⟨_,rfl⟩
     rw[←Hpe5] at Bb Bc
     replace Hpe5:=ae Hpe5
     go_upto_region 15 with fail
     clear le5 Bb Bc
     refine Code.abs ?_
     intro w42 hW
     have hG:Gr [] wl3 w42:=by rw[hW];exact (Gr.refl _ _).alloc
     have hbw:Below wc.heap.size wl3 w42:=hG.below0 hs.size
     have sz_w42:wc.heap.size≤wl3.heap.size:=hs.size
     have Blq:Bx w42 (wl3.heap.size) 31 #[.int .i64 pe5.1,.int .i64 pe5.2]:=by rw[hW];exact (Bx.new0 _ _ _)
     replace hs:=hs.trans hbw
     clear hW hG hbw
     have hz_w42:=Blq.lt
     obtain⟨B5,B6,le6⟩:=ij (be.mono IP.kept HO.out hs) (show ff < ql.length by omega)
     obtain⟨pe6,Hpe6⟩:∃z:Pt,z=ptZ ql ff:=⟨_,rfl⟩
     rw[←Hpe6] at B5 B6
     replace Hpe6:=ae Hpe6
     obtain⟨cp7,Hcp7⟩:∃s:Int,s=cpZ pe5 pe6:=⟨_,rfl⟩
     replace Hcp7:=ae Hcp7
     refine bw (S:=fun w'=>w'.cell? ⟨wl3.heap.size,0,none⟩=some (.int .i64 pe5.1)∧w'.cell? ⟨wl3.heap.size,1,none⟩=some (.int .i64 pe5.2)∧w'.cell? ⟨cb,co + ff * 2,none⟩=some (.int .i64 pe6.1)∧w'.cell? ⟨cb,co + ff * 2 + 1,none⟩=some (.int .i64 pe6.2)) (by kernel_rfl) 7 ?_
     refine cq.abs ?_
     intro w43 hW
     have hb:Below w42.heap.size w42 w43:=by rw[hW];exact de _
     replace hs:=ar hs hb
     replace Blq:=Blq.mono hb
     replace B5:=ah B5 hb
     replace B6:=ah B6 hb
     clear hb hW
     refine Blq.k2 fun B0 B1=>?_
     have hH:=(show w43.cell? ⟨wl3.heap.size,0,none⟩=some (.int .i64 pe5.1)∧w43.cell? ⟨wl3.heap.size,1,none⟩=some (.int .i64 pe5.2)∧w43.cell? ⟨cb,co + ff * 2,none⟩=some (.int .i64 pe6.1)∧w43.cell? ⟨cb,co + ff * 2 + 1,none⟩=some (.int .i64 pe6.2) from ⟨B0,B1,B5,B6⟩)
     refine U_tq 0 55 hH ?_
     refine U_tq 1 56 hH ?_
     refine U_tq 2 57 hH ?_
     refine U_tq 3 58 hH ?_
     refine U_tq 4 59 hH ?_
     clear hH
     refine U_on 5 fun K hK=>?_
     go_simp
     (with_reducible refine (pl_compare pe5 pe6 _).mono ?_)
     rintro e w44 ⟨rfl,hb⟩
     replace hs:=ar hs hb
     replace Blq:=Blq.mono hb
     replace B0:=ah B0 hb
     replace B1:=ah B1 hb
     replace B5:=ah B5 hb
     replace B6:=ah B6 hb
     clear hb
     rw[←Hcp7.out]
     try go_wp2_with fail
     refine hK.out _ _ ⟨B0,B1,B5,B6⟩ (fun hH=>?_)
     clear hK K
     try simp only[LY]
     refine U_tq 6 61 hH ?_
     clear hH
     refine im (by kernel_rfl) ?_
     clear B0 B1 B5 B6
     by_cases q8:cp7 < 0
     ·have q8d:(cp7 < 0)=True:=eq_true (by omega)
      have AX9:IntKind.i64.wrap ((k:Int) + 1)=(k:Int) + 1:=IntWalk.i64_in _ (by omega)
      go_wp2
      go_roundw
      case rel=>exact⟨k + 1,by omega,by go_num,congrArg (Value.int .i64) (show (k:Int)=((fmK ql (k + 1):Nat):Int) from by rw[fm_step ql k true (by rw[show ptZ ql k=pe5 from Hpe5.out.symm,←Hff.out,show ptZ ql ff=pe6 from Hpe6.out.symm,←cp_ls];exact decide_eq_true (by rw[←Hcp7.out];omega))];rfl),hs⟩
      all_goals first|(simp[intOf];done)|(simp[intOf];omega)
     have q8d:(cp7 < 0)=False:=eq_false (by omega)
     have AX9:IntKind.i64.wrap ((k:Int) + 1)=(k:Int) + 1:=IntWalk.i64_in _ (by omega)
     go_wp2
     go_roundw
     case rel=>exact⟨k + 1,by omega,by go_num,congrArg (Value.int .i64) (show (ff:Int)=((fmK ql (k + 1):Nat):Int) from by rw[fm_step ql k false (by rw[show ptZ ql k=pe5 from Hpe5.out.symm,←Hff.out,show ptZ ql ff=pe6 from Hpe6.out.symm,←cp_ls];exact decide_eq_false (by rw[←Hcp7.out];omega))];rw[←Hff.out];rfl),hs⟩
     all_goals first|(simp[intOf];done)|(simp[intOf];omega)
    have q4d:((k:Int) < (ql.length:Int))=False:=eq_false (by omega)
    have hffl:ff < ql.length:=by omega
    have hsa:(0:Int)≤(ff:Int):=by omega
    have hsb:(ff:Int)≤(ql.length:Int):=by omega
    have hsc:(ff:Int)≤(cp:Int):=by omega
    have hsd:(cp=ff)=False:=eq_false (by omega)
    have hse:(cp=0)=False:=eq_false (by omega)
    go_upto_region 18 with fail
    refine bw (S:=fun w'=>True) (by kernel_rfl) 8 ?_
    refine cq.abs ?_
    intro w42 hW
    have hb:Below wl3.heap.size wl3 w42:=by rw[hW];exact de _
    replace hs:=ar hs hb
    clear hb hW
    have hH:=(show True from True.intro)
    refine cz 0 ?_ ?_ hH ?_
    rotate_left
    ·(intro w hSw;(try dsimp only at hSw);go_simp;try with_reducible rfl)
    try simp only[LY]
    refine cz 1 ?_ ?_ hH ?_
    rotate_left
    ·(intro w hSw;(try dsimp only at hSw);go_simp;try with_reducible rfl)
    try simp only[LY]
    refine cz 2 ?_ ?_ hH ?_
    rotate_left
    ·(intro w hSw;(try dsimp only at hSw);go_simp;try with_reducible rfl)
    try simp only[LY]
    refine cz 3 ?_ ?_ hH ?_
    rotate_left
    ·(intro w hSw;(try dsimp only at hSw);go_simp;try with_reducible rfl)
    try simp only[LY]
    refine cz 4 ?_ ?_ hH ?_
    rotate_left
    ·(intro w hSw;(try dsimp only at hSw);go_simp;try with_reducible rfl)
    try simp only[LY]
    refine cz 5 ?_ ?_ hH ?_
    rotate_left
    ·(intro w hSw;(try dsimp only at hSw);go_simp;try with_reducible rfl)
    try simp only[LY]
    clear hH
    refine U_on 6 fun K hK=>?_
    go_simp
    generalize hWn:(w42.alloc (.cells #[.slice (some ⟨cb,co + ff * 2,none⟩) (ql.length - ff) (cp - ff),.slice (some ⟨cb,co,none⟩) ff cp] 22))=w43
    have hb:Below w42.heap.size w42 w43:=by rw[←hWn];exact (Below.refl _ _).alloc (ag _) _
    have B4:Bx w43 (w42.heap.size) 22 #[.slice (some ⟨cb,co + ff * 2,none⟩) (ql.length - ff) (cp - ff),.slice (some ⟨cb,co,none⟩) ff cp]:=by rw[←hWn];exact Bx.new _ _ _
    have sz_ls:wc.heap.size≤w42.heap.size:=hs.size
    replace hs:=ar hs hb
    clear hb hWn
    refine hK.out _ _ True.intro (fun hH=>?_)
    clear hK K
    try simp only[LY]
    clear hH
    refine U_on 7 fun K hK=>?_
    go_simp
    (with_reducible refine (sl_ConcatP _ _ _ (ql.drop ff) (ql.take ff) _ (B4.at 0 rfl) (B4.at 1 rfl) (rows_drop (HO2.out.mono IP.kept hs) (by omega) rfl (by omega) (by omega)) ((HO2.out.mono IP.kept hs).take ff _ _ _ rfl (by omega)) (by simp;omega) (by simp;omega)).mono ?_)
    rintro e w44 ⟨_,rfl,hXX,hb⟩
    revert B4;refine mS hs hb ?_;clear hs hb;intro hs B4
    try go_wp2_with fail
    refine hK.out _ _ True.intro (fun hH=>?_)
    clear hK K
    try simp only[LY]
    clear hH
    refine dr (by kernel_rfl) rfl (by kernel_rfl) (fun K hK=>?_)
    go_simp
    refine hK.out _ _ ?_
    clear hK K
    intro wl hW
    rw[hW]
    clear hW wl
    try simp only[LY]
    go_wp2
    go_ret
    exact⟨_,rfl,by rw[show nmZ l=ql.drop ff ++ ql.take ff from by unfold nmZ;rw[←Hql.out,show fmK ql ql.length=ff from by rw[Hff.out,show k=ql.length from by omega]]];exact hXX,(ar HB0_3.out hs)⟩
end Go.Proofs.YtbnomdlojmgigaaGreat
