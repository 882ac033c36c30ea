/-
  The reference's words for polygons: the normal polygon.
-/
import Derived.Test.YtbnomdlojmgigaaGreatPlRP
import Derived.Test.YtbnomdlojmgigaaGreatPkP17P
set_option linter.unusedSimpArgs false
set_option linter.unusedVariables false
set_option maxRecDepth 100000
set_option maxHeartbeats 16000000
namespace Go.Proofs.YtbnomdlojmgigaaGreat
open Go.RowKit Dg
attribute [local go_sem ↓] Go.wp_at_zero Go.wp_at_succ
theorem r2_Normal (v:Value) (l:List Pt) (w:World) (hl:Pts w v l) (hv:fl l=0):
  Calls Tryz.prog 29 #[v] w (Ret1 (fun w v=>Rows 2 31 IP w v (nmZ l)) w):=by
 obtain⟨h3,h16,hr0, -⟩:=valid_ne hv
 have hr:=all_ptZ.2 (List.all_eq_true.2 hr0)
 obtain⟨bb,oo,cap,rfl,hc1,hc2⟩:=ep hl (by omega)
 have hs:=Below.refl w.heap.size w
 have HL:=ae hl
 have HRA:=ae hr
 have HV:=ae hv
 clear hl hr hr0 hv
 obtain⟨i0,hi,hz0,hz1,hz2⟩:=info_parts pt_info
 go_enter Tryz.func29,Tryz.ntmps29
 go_wp2
 go_loopw [3,4] (fun s3 s4 wq=>∃k:Nat,k≤l.length∧s4=.int .i64 k∧Below w.heap.size w wq∧cw w.heap.size 31 2 IP wq s3 (nrK l k)) (fun s3 s4 _=>l.length - (intOf s4).toNat)
 case atStart=>exact⟨0,Nat.zero_le _,rfl,hs,cw.nil _ _ _ _ _⟩
 case round=>
  clear hs
  obtain⟨k,k_le,rfl,hs,Oow⟩:=hrel
  obtain⟨wl1,hwo⟩:∃x,x=wr:=⟨_,rfl⟩
  subst hwo
  by_cases q1:k < l.length
  ·have q1d:((k:Int) < (l.length:Int))=True:=eq_true (by omega)
   obtain⟨nP2,HnP2⟩:∃z:Pt,z=ptZ l ((k + 1) % l.length):=⟨_,rfl⟩
   have BnP2:WP 1048576 nP2:=by rw[HnP2];exact jm (HRA.out _ (Nat.mod_lt _ (by omega)))
   replace HnP2:=ae HnP2
   go_upto_region 5 with fail
   have AX3:IntKind.i64.wrap ((k:Int) + (l.length:Int))=(k:Int) + (l.length:Int):=IntWalk.i64_in _ (by omega)
   have AX4:IntKind.i64.wrap ((k:Int) + (l.length:Int) - 1)=(k:Int) + (l.length:Int) - 1:=IntWalk.i64_in _ (by omega)
   obtain⟨m6,Hm6⟩:∃z:Nat,z=(k + l.length - 1) % l.length:=⟨_,rfl⟩
   have hm6:m6 < l.length:=by rw[Hm6];exact Nat.mod_lt _ (by omega)
   have AX5:Int.tmod ((k:Int) + (l.length:Int) - 1) (l.length:Int)=(m6:Int):=by rw[Hm6,show ((k:Int) + (l.length:Int) - 1:Int)=((k + l.length - 1:Nat):Int) from by omega];exact (Int.ofNat_tmod _ _).symm
   have AX5b:IntKind.i64.wrap (m6:Int)=(m6:Int):=IntWalk.i64_in _ (by omega)
   have AX5e:((k:Int) + (l.length:Int) - 1) % (l.length:Int)=(m6:Int):=by rw[Hm6,show ((k:Int) + (l.length:Int) - 1:Int)=((k + l.length - 1:Nat):Int) from by omega];simp
   have AX5z:((l.length:Int)=0)=False:=eq_false (by omega)
   have AX5c:(l=[])=False:=eq_false (fun e=>by rw[e] at hm6;exact absurd hm6 (by simp))
   replace Hm6:=ae Hm6
   obtain⟨B0,B1,le7⟩:=ij (be.mono IP.kept HL.out hs) (show m6 < l.length by omega)
   obtain⟨pe7,Hpe7⟩:∃z:Pt,z=ptZ l m6:=⟨_,rfl⟩
   rw[←Hpe7] at B0 B1
   have Bpe7:WP 1048576 pe7:=by rw[Hpe7];exact (jm (HRA.out m6 (by omega)))
   replace Hpe7:=ae Hpe7
   obtain⟨B2,B3,le8⟩:=ij (be.mono IP.kept HL.out hs) (show k < l.length by omega)
   obtain⟨pe8,Hpe8⟩:∃z:Pt,z=ptZ l k:=⟨_,rfl⟩
   rw[←Hpe8] at B2 B3
   have Bpe8:WP 1048576 pe8:=by rw[Hpe8];exact (jm (HRA.out k (by omega)))
   replace Hpe8:=ae Hpe8
   obtain⟨tn9,Htn9⟩:∃s:Int,s=tnZ pe7 pe8 nP2:=⟨_,rfl⟩
   replace Htn9:=ae Htn9
   refine bw (S:=fun w'=>w'.cell? ⟨bb,oo + m6 * 2,none⟩=some (.int .i64 pe7.1)∧w'.cell? ⟨bb,oo + m6 * 2 + 1,none⟩=some (.int .i64 pe7.2)∧w'.cell? ⟨bb,oo + k * 2,none⟩=some (.int .i64 pe8.1)∧w'.cell? ⟨bb,oo + k * 2 + 1,none⟩=some (.int .i64 pe8.2)) (by kernel_rfl) 20 ?_
   refine cq.abs ?_
   intro w21 hW
   have hb:Below wl1.heap.size wl1 w21:=by rw[hW];exact de _
   replace hs:=ar hs hb
   replace Oow:=Oow.mono IP.kept hb
   replace B0:=ah B0 hb
   replace B1:=ah B1 hb
   replace B2:=ah B2 hb
   replace B3:=ah B3 hb
   clear hb hW
   have hH:=(show w21.cell? ⟨bb,oo + m6 * 2,none⟩=some (.int .i64 pe7.1)∧w21.cell? ⟨bb,oo + m6 * 2 + 1,none⟩=some (.int .i64 pe7.2)∧w21.cell? ⟨bb,oo + k * 2,none⟩=some (.int .i64 pe8.1)∧w21.cell? ⟨bb,oo + k * 2 + 1,none⟩=some (.int .i64 pe8.2) from ⟨B0,B1,B2,B3⟩)
   refine U_tq 0 15 hH ?_
   refine U_tq 1 16 hH ?_
   refine U_tq 2 17 hH ?_
   refine U_tq 3 18 hH ?_
   refine U_tq 4 19 hH ?_
   refine U_tq 5 20 hH ?_
   refine U_tq 6 21 hH ?_
   refine U_tq 7 22 hH ?_
   refine U_tq 8 23 hH ?_
   refine U_tq 9 24 hH ?_
   refine U_tq 10 25 hH ?_
   refine U_tq 11 26 hH ?_
   refine U_tq 12 27 hH ?_
   refine U_tq 13 28 hH ?_
   refine U_tq 14 29 hH ?_
   refine U_tq 15 30 hH ?_
   refine U_tq 16 31 hH ?_
   clear hH
   refine U_on 17 fun K hK=>?_
   go_simp
   (with_reducible refine (dp _ l k ((k:Int)) _ (be.mono IP.kept HL.out hs) (by omega) (by omega) (by omega) (by omega) HnP2.out).mono ?_)
   rintro e w22 ⟨rfl,hb⟩
   replace hs:=ar hs hb
   replace Oow:=Oow.mono IP.kept hb
   replace B0:=ah B0 hb
   replace B1:=ah B1 hb
   replace B2:=ah B2 hb
   replace B3:=ah B3 hb
   clear hb
   try go_wp2_with fail
   refine hK.out _ _ ⟨B0,B1,B2,B3⟩ (fun hH=>?_)
   clear hK K
   try simp only[LY]
   clear hH
   refine U_on 18 fun K hK=>?_
   go_simp
   (with_reducible refine (kn pe7 pe8 nP2 _ Bpe7 Bpe8 BnP2).mono ?_)
   rintro e w23 ⟨rfl,hb⟩
   replace hs:=ar hs hb
   replace Oow:=Oow.mono IP.kept hb
   replace B0:=ah B0 hb
   replace B1:=ah B1 hb
   replace B2:=ah B2 hb
   replace B3:=ah B3 hb
   clear hb
   rw[←Htn9.out]
   try go_wp2_with fail
   refine hK.out _ _ ⟨B0,B1,B2,B3⟩ (fun hH=>?_)
   clear hK K
   try simp only[LY]
   refine U_tq 19 34 hH ?_
   clear hH
   refine im (by kernel_rfl) ?_
   clear B0 B1 B2 B3
   by_cases q10:tn9=0
   ·have q10b:(tn9 == 0)=true:=beq_iff_eq.2 (by omega)
    have q10n:(tn9 != 0)=false:=bne_eq_false_iff_eq.2 (by omega)
    have q10H:=ae q10
    clear q10
    have AX11:IntKind.i64.wrap ((k:Int) + 1)=(k:Int) + 1:=IntWalk.i64_in _ (by omega)
    go_wp2
    go_roundw
    case rel=>exact⟨k + 1,by omega,by go_num,hs,(by rw[nr_step l (by omega) _ (show kpB l k=false from by unfold kpB;rw[decide_eq_false (show ¬ (tnZ (cyP l (k + l.length - 1)) (cyP l k) (cyP l (k + 1))≠0) from by rw[show cyP l (k + l.length - 1)=pe7 from by rw[Hpe7.out,Hm6.out];rfl,show cyP l k=pe8 from (cyP_lt (by omega)).trans Hpe8.out.symm,show cyP l (k + 1)=nP2 from HnP2.out.symm,←Htn9.out];exact fun h=>h q10H.out)]),if_neg (by decide),List.append_nil];exact Oow)⟩
    all_goals first|(simp[intOf];done)|(simp[intOf];omega)
   have q10b:(tn9 == 0)=false:=beq_eq_false_iff_ne.2 (by omega)
   have q10n:(tn9 != 0)=true:=bne_iff_ne.2 (by omega)
   have q10H:=ae q10
   clear q10
   obtain⟨B7,B8,le11⟩:=ij (be.mono IP.kept HL.out hs) (show k < l.length by omega)
   obtain⟨pe11,Hpe11⟩:∃z:Pt,z=ptZ l k:=⟨_,rfl⟩
   rw[←Hpe11] at B7 B8
   have Bpe11:WP 1048576 pe11:=by rw[Hpe11];exact (jm (HRA.out k (by omega)))
   replace Hpe11:=ae Hpe11
   go_wp2_with (at_builtin;refine wpList.stop ?_)
   refine⟨?_⟩
   clear le7 le8 le11 B7 B8
   refine wpList.abs ?_
   intro w24 hW
   have hG:Gr [] w23 w24:=by rw[hW];exact (Gr.refl _ _).alloc
   have sz_w24:=hs.size
   have B6:Bx w24 (w23.heap.size) 31 #[.int .i64 pe11.1,.int .i64 pe11.2]:=by rw[hW];exact (Bx.new0 _ _ _)
   replace hs:=hs.trans (hG.below0 hs.size)
   replace Oow:=Oow.mono IP.kept (hG.below0 (ag _))
   clear hW hG
   have hz_w24:=B6.lt
   obtain⟨css,ho1,ho2,ho3,hown0⟩:=Oow
   refine wpList_append_lies _ rfl _ _ _ rfl w.heap.size 31 i0 _ 2 16 Tryz.underlying22 hi hz0 hz1 hz2 rfl (by omega) _ _ css.flatten rfl hown0 ⟨w23.heap.size,0,none⟩ 1 1 [.int .i64 pe11.1,.int .i64 pe11.2] rfl rfl B6.news ?_ (by omega) ?_ ?_ ?_ _ rfl ?_
   ·intro u hu;simp only[List.mem_cons,List.mem_nil_iff,or_false] at hu;rcases hu with rfl|rfl<;>rfl
   ·unfold maxLen;(have:=nrK_len l k;omega)
   ·(have:=nrK_len l k;omega)
   ·exact hs.size
   intro gow capow w25 hown1 hgrow hat hlt_
   have hk_:=aw.owns hown0 hgrow (by decide)
   have ho:=iu hown0 hgrow
   replace hs:=hs.grown hgrow hs.size (fun k hk=>(hown0.lt k hk).1)
   replace Oow:=cw.push' IP.kept ho1 ho2 ho3 (x:=pe11) rfl rfl (by simp) hown1 hk_
   clear hk_ ho ho1 ho2 ho3 hown0 hown1 hgrow hat hlt_ B6
   have AX12:IntKind.i64.wrap ((k:Int) + 1)=(k:Int) + 1:=IntWalk.i64_in _ (by omega)
   go_wp2
   go_roundw
   case rel=>exact⟨k + 1,by omega,by go_num,hs,(by rw[nr_step l (by omega) _ (show kpB l k=true from by unfold kpB;rw[decide_eq_true (show (tnZ (cyP l (k + l.length - 1)) (cyP l k) (cyP l (k + 1))≠0) from by rw[show cyP l (k + l.length - 1)=pe7 from by rw[Hpe7.out,Hm6.out];rfl,show cyP l k=pe8 from (cyP_lt (by omega)).trans Hpe8.out.symm,show cyP l (k + 1)=nP2 from HnP2.out.symm,←Htn9.out];exact q10H.out)]),if_pos rfl,show ptZ l k=pe11 from Hpe11.out.symm];exact Oow)⟩
   all_goals first|(simp[intOf];done)|(simp[intOf];omega)
  have q1d:((k:Int) < (l.length:Int))=False:=eq_false (by omega)
  have hO1:=Oow.rows
  rw[show k=l.length from by omega] at hO1
  obtain⟨ol,Hol⟩:∃z,z=nrK l l.length:=⟨_,rfl⟩
  rw[←Hol] at hO1
  replace Hol:=ae Hol
  have ho0:0 < ol.length:=by rw[Hol.out];exact nr_ne HV.out
  have ho16:ol.length≤l.length:=by rw[Hol.out];exact nrK_len l _
  obtain⟨ob,oc,op,hv3,hp1,hp2, -⟩:=hO1.open_ ho0
  subst hv3
  have HO:=ae hO1.toI
  have HO2:=ae hO1
  clear hO1 Oow
  have HB0_2:=ae hs
  clear hs
  have hs:=Below.refl wl1.heap.size wl1
  go_wp2_with fail
  with_reducible refine (r2_Twice _ l _ (be.mono IP.kept HL.out (ar HB0_2.out hs)) (by omega) (by omega) HRA.out).mono ?_
  rintro e w21 ⟨rfl,hb⟩
  replace hs:=ar hs hb
  clear hb
  obtain⟨tw3,Htw3⟩:∃s:Int,s=twZ l:=⟨_,rfl⟩
  rw[←Htw3]
  replace Htw3:=ae Htw3
  go_upto_if 44 with (fail)
  go_cut [3,5,6,45,46,47,48,49,50,51,52,53,54,55,56,57,58,59] (fun kf3 kf5 kf6 kf45 kf46 kf47 kf48 kf49 kf50 kf51 kf52 kf53 kf54 kf55 kf56 kf57 kf58 kf59 wz=>Below wl1.heap.size wl1 wz∧Rows 2 31 IP wz kf3 (ccZ l))
  case first=>
   by_cases q4:tw3 < 0
   ·have q4d:(tw3 < 0)=True:=eq_true (by omega)
    try simp only[q4d]
    have AX5:IntKind.i64.wrap ((ol.length:Int) - 1)=(ol.length:Int) - 1:=IntWalk.i64_in _ (by omega)
    go_wp2
    go_loopw [5,6] (fun s5 s6 wq=>∃k:Nat,k≤ol.length∧s6=.int .i64 ((k:Int) - 1)∧Below wl1.heap.size wl1 wq∧cw wl1.heap.size 31 2 IP wq s5 (rvK ol k)) (fun s5 s6 _=>(intOf s6 + 1).toNat)
    case atStart=>exact⟨ol.length,ag _,rfl,hs,(by rw[rvK_end];exact cw.nil _ _ _ _ _)⟩
    case round=>
     clear hs
     obtain⟨k,k_le,rfl,hs,Otu⟩:=hrel
     obtain⟨wl2,hwo⟩:∃x,x=wr:=⟨_,rfl⟩
     subst hwo
     by_cases q6:0≤(k:Int) - 1
     ·have q6d:((0:Int)≤(k:Int) - 1)=True:=eq_true (by omega)
      have SW7a:=IntWalk.i64_in ((k:Int) - 1) (by omega)
      have SW7b:(0:Int)≤(k:Int) - 1:=by omega
      have SW7c:((k:Int) - 1).toNat=(k - 1):=by omega
      have SW7d:(k:Int) - 1 < (ol.length:Int):=by omega
      have SW7e:(1:Int)≤(k:Int):=by omega
      have SW7f:(k:Int) < (ol.length:Int) + 1:=by omega
      obtain⟨B2,B3,le8⟩:=ij (be.mono IP.kept HO.out hs) (show (k - 1) < ol.length by omega)
      obtain⟨pe8,Hpe8⟩:∃z:Pt,z=ptZ ol (k - 1):=⟨_,rfl⟩
      rw[←Hpe8] at B2 B3
      replace Hpe8:=ae Hpe8
      go_wp2_with (at_builtin;refine wpList.stop ?_)
      refine⟨?_⟩
      clear le8 B2 B3
      refine wpList.abs ?_
      intro w42 hW
      have hG:Gr [] wl2 w42:=by rw[hW];exact (Gr.refl _ _).alloc
      have hbw:Below wl1.heap.size wl2 w42:=hG.below0 hs.size
      have sz_w42:wl1.heap.size≤wl2.heap.size:=hs.size
      have B6:Bx w42 (wl2.heap.size) 31 #[.int .i64 pe8.1,.int .i64 pe8.2]:=by rw[hW];exact (Bx.new0 _ _ _)
      replace hs:=hs.trans hbw
      replace Otu:=Otu.mono IP.kept (hG.below0 (ag _))
      clear hW hG hbw
      have hz_w42:=B6.lt
      obtain⟨css,ho1,ho2,ho3,hown0⟩:=Otu
      refine wpList_append_lies _ rfl _ _ _ rfl wl1.heap.size 31 i0 _ 2 16 Tryz.underlying22 hi hz0 hz1 hz2 rfl (by omega) _ _ css.flatten rfl hown0 ⟨wl2.heap.size,0,none⟩ 1 1 [.int .i64 pe8.1,.int .i64 pe8.2] rfl rfl B6.news ?_ (by omega) ?_ ?_ ?_ _ rfl ?_
      ·intro u hu;simp only[List.mem_cons,List.mem_nil_iff,or_false] at hu;rcases hu with rfl|rfl<;>rfl
      ·unfold maxLen;(have:=rvK_len ol k;omega)
      ·(have:=rvK_len ol k;omega)
      ·exact hs.size
      intro gtu captu w43 hown1 hgrow hat hlt_
      have hk_:=aw.owns hown0 hgrow (by decide)
      have ho:=iu hown0 hgrow
      replace hs:=hs.grown hgrow hs.size (fun k hk=>(hown0.lt k hk).1)
      replace Otu:=cw.push' IP.kept ho1 ho2 ho3 (x:=pe8) rfl rfl (by simp) hown1 hk_
      clear hk_ ho ho1 ho2 ho3 hown0 hown1 hgrow hat hlt_ B6
      have AX9:IntKind.i64.wrap ((k:Int) - 1 - 1)=(k:Int) - 1 - 1:=IntWalk.i64_in _ (by omega)
      go_wp2
      refine⟨?_,?measA⟩
      repeat apply Exists.intro
      refine⟨?relA,rfl⟩
      case relA=>exact⟨k - 1,by omega,congrArg _ (by omega),hs,(by rw[rvK_step (o:=ol) (k:=k - 1) (by omega),show k - 1 + 1=k from by omega,show ptZ ol (k - 1)=pe8 from Hpe8.out.symm];exact Otu)⟩
      all_goals first|(simp[intOf];done)|(simp[intOf];omega)
     have q6d:((0:Int)≤(k:Int) - 1)=False:=eq_false (by omega)
     go_wp2_with fail
     go_meet
     exact⟨hs,(show Rows 2 31 IP wl2 _ (ccZ l) from by have h:=Otu.rows;rw[show k=0 from by omega,rvK_zero] at h;rw[cc_ref HV.out,if_pos (by rw[←Htw3.out];omega),←Hol.out];exact h)⟩
   have q4d:(tw3 < 0)=False:=eq_false (by omega)
   try simp only[q4d]
   go_wp2_with fail
   go_meet
   exact⟨hs,(by rw[cc_ref HV.out,if_neg (by rw[←Htw3.out];omega),←Hol.out];exact HO2.out.mono IP.kept hs)⟩
  case rest=>
   clear hs
   obtain⟨hs,HC⟩:=hcut
   obtain⟨ql,Hql⟩:∃z,z=ccZ l:=⟨_,rfl⟩
   rw[←Hql] at HC
   replace Hql:=ae Hql
   have hq0:0 < ql.length:=by rw[Hql.out];exact cc_pos HV.out
   have hq16:ql.length≤l.length:=by rw[Hql.out,cc_len];exact nrK_len l _
   obtain⟨cb,co,cp,hv3,cp1,cp2, -⟩:=HC.open_ hq0
   subst hv3
   have HO:=ae HC.toI
   have HO2:=ae HC
   clear HC
   have HB1_4:=ae hs
   clear hs
   have hs:=Below.refl wc.heap.size wc
   go_wp2
   go_loopw [7,8] (fun s7 s8 wq=>∃k:Nat,1≤k∧k≤ql.length∧s8=.int .i64 k∧s7=.int .i64 ((fmK ql k:Nat))∧Below wc.heap.size wc wq) (fun s7 s8 _=>ql.length - (intOf s8).toNat)
   case atStart=>exact⟨1,ag _,(by omega),rfl,(by rw[fmK_one];rfl),hs⟩
   case round=>
    clear hs
    obtain⟨k,k_ge,k_le,rfl,rfl,hs⟩:=hrel
    obtain⟨wl3,hwo⟩:∃x,x=wr:=⟨_,rfl⟩
    subst hwo
    obtain⟨ff,Hff⟩:∃z:Nat,z=fmK ql k:=⟨_,rfl⟩
    have hff:ff≤k - 1:=by rw[Hff];exact fmK_le ql k
    rw[←Hff]
    replace Hff:=ae Hff
    have ffa:ff < ql.length:=by omega
    have ffd:(ff < ql.length)=True:=eq_true ffa
    have ffe:((ff:Int) < (ql.length:Int))=True:=eq_true (by omega)
    by_cases q5:k < ql.length
    ·have q5d:((k:Int) < (ql.length:Int))=True:=eq_true (by omega)
     go_upto_region 18 with fail
     obtain⟨B4,B5,le6⟩:=ij (be.mono IP.kept HO.out hs) (show k < ql.length by omega)
     obtain⟨pe6,Hpe6⟩:∃z:Pt,z=ptZ ql k:=⟨_,rfl⟩
     rw[←Hpe6] at B4 B5
     replace Hpe6:=ae Hpe6
     obtain⟨B0,B1,le7⟩:=ij (be.mono IP.kept HO.out hs) (show ff < ql.length by omega)
     obtain⟨pe7,Hpe7⟩:∃z:Pt,z=ptZ ql ff:=⟨_,rfl⟩
     rw[←Hpe7] at B0 B1
     replace Hpe7:=ae Hpe7
     obtain⟨b8,Hb8⟩:∃zz:Bool,zz=lsB pe6 pe7:=⟨_,rfl⟩
     replace Hb8:=ae Hb8
     refine bw (S:=fun w'=>w'.cell? ⟨cb,co + k * 2,none⟩=some (.int .i64 pe6.1)∧w'.cell? ⟨cb,co + k * 2 + 1,none⟩=some (.int .i64 pe6.2)∧w'.cell? ⟨cb,co + ff * 2,none⟩=some (.int .i64 pe7.1)∧w'.cell? ⟨cb,co + ff * 2 + 1,none⟩=some (.int .i64 pe7.2)) (by kernel_rfl) 9 ?_
     refine cq.abs ?_
     intro w42 hW
     have hb:Below wl3.heap.size wl3 w42:=by rw[hW];exact de _
     replace hs:=ar hs hb
     replace B4:=ah B4 hb
     replace B5:=ah B5 hb
     replace B0:=ah B0 hb
     replace B1:=ah B1 hb
     clear hb hW
     have hH:=(show w42.cell? ⟨cb,co + k * 2,none⟩=some (.int .i64 pe6.1)∧w42.cell? ⟨cb,co + k * 2 + 1,none⟩=some (.int .i64 pe6.2)∧w42.cell? ⟨cb,co + ff * 2,none⟩=some (.int .i64 pe7.1)∧w42.cell? ⟨cb,co + ff * 2 + 1,none⟩=some (.int .i64 pe7.2) from ⟨B4,B5,B0,B1⟩)
     refine U_tq 0 66 hH ?_
     refine U_tq 1 67 hH ?_
     refine U_tq 2 68 hH ?_
     refine U_tq 3 69 hH ?_
     refine U_tq 4 70 hH ?_
     refine U_tq 5 71 hH ?_
     refine U_tq 6 72 hH ?_
     refine U_tq 7 73 hH ?_
     clear hH
     refine U_on 8 fun K hK=>?_
     go_simp
     (with_reducible refine (r2_less pe6 pe7 _).mono ?_)
     rintro e w43 ⟨rfl,hb⟩
     replace hs:=ar hs hb
     replace B4:=ah B4 hb
     replace B5:=ah B5 hb
     replace B0:=ah B0 hb
     replace B1:=ah B1 hb
     clear hb
     rw[←Hb8.out]
     try go_wp2_with fail
     refine hK.out _ _ ⟨B4,B5,B0,B1⟩ (fun hH=>?_)
     clear hK K
     try simp only[LY]
     clear hH
     refine im (by kernel_rfl) ?_
     clear B4 B5 B0 B1
     by_cases q9:lsB pe6 pe7=true
     ·obtain rfl:b8=true:=by rw[Hb8.out];exact q9
      have q9H:=ae q9
      clear q9
      have AX10:IntKind.i64.wrap ((k:Int) + 1)=(k:Int) + 1:=IntWalk.i64_in _ (by omega)
      go_wp2
      go_roundw
      case rel=>exact⟨k + 1,by omega,by omega,by go_num,congrArg (Value.int .i64) (show (k:Int)=((fmK ql (k + 1):Nat):Int) from by rw[fm_step ql k true (by rw[show ptZ ql k=pe6 from Hpe6.out.symm,←Hff.out,show ptZ ql ff=pe7 from Hpe7.out.symm];exact q9H.out)];rfl),hs⟩
      all_goals first|(simp[intOf];done)|(simp[intOf];omega)
     obtain rfl:b8=false:=by rw[Hb8.out];simpa using q9
     have q9H:=ae q9
     clear q9
     have AX10:IntKind.i64.wrap ((k:Int) + 1)=(k:Int) + 1:=IntWalk.i64_in _ (by omega)
     go_wp2
     go_roundw
     case rel=>exact⟨k + 1,by omega,by omega,by go_num,congrArg (Value.int .i64) (show (ff:Int)=((fmK ql (k + 1):Nat):Int) from by rw[fm_step ql k false (by rw[show ptZ ql k=pe6 from Hpe6.out.symm,←Hff.out,show ptZ ql ff=pe7 from Hpe7.out.symm];exact Bool.eq_false_iff.2 q9H.out)];rw[←Hff.out];rfl),hs⟩
     all_goals first|(simp[intOf];done)|(simp[intOf];omega)
    have q5d:((k:Int) < (ql.length:Int))=False:=eq_false (by omega)
    have hffl:ff < ql.length:=by omega
    have hsa:(0:Int)≤(ff:Int):=by omega
    have hsb:(ff:Int)≤(ql.length:Int):=by omega
    have hsc:(ff:Int)≤(cp:Int):=by omega
    have hsd:(cp=ff)=False:=eq_false (by omega)
    have hse:(cp=0)=False:=eq_false (by omega)
    go_upto_region 20 with fail
    refine bw (S:=fun w'=>True) (by kernel_rfl) 9 ?_
    refine cq.abs ?_
    intro w42 hW
    have hb:Below wl3.heap.size wl3 w42:=by rw[hW];exact de _
    replace hs:=ar hs hb
    clear hb hW
    have hH:=(show True from True.intro)
    refine cz 1 ?_ ?_ hH ?_
    rotate_left
    ·(intro w hSw;(try dsimp only at hSw);go_simp;try with_reducible rfl)
    try simp only[LY]
    refine cz 2 ?_ ?_ hH ?_
    rotate_left
    ·(intro w hSw;(try dsimp only at hSw);go_simp;try with_reducible rfl)
    try simp only[LY]
    refine cz 3 ?_ ?_ hH ?_
    rotate_left
    ·(intro w hSw;(try dsimp only at hSw);go_simp;try with_reducible rfl)
    try simp only[LY]
    refine cz 5 ?_ ?_ hH ?_
    rotate_left
    ·(intro w hSw;(try dsimp only at hSw);go_simp;try with_reducible rfl)
    try simp only[LY]
    refine cz 6 ?_ ?_ hH ?_
    rotate_left
    ·(intro w hSw;(try dsimp only at hSw);go_simp;try with_reducible rfl)
    try simp only[LY]
    refine cz 7 ?_ ?_ hH ?_
    rotate_left
    ·(intro w hSw;(try dsimp only at hSw);go_simp;try with_reducible rfl)
    try simp only[LY]
    clear hH
    refine U_on 0 fun K hK=>?_
    go_simp
    generalize hWn:(w42.alloc (.cells #[] 31))=w43
    have hb:Below w42.heap.size w42 w43:=by rw[←hWn];exact (Below.refl _ _).alloc (ag _) _
    have B9:Bx w43 (w42.heap.size) 31 #[]:=by rw[←hWn];exact Bx.new _ _ _
    have sz_le:wc.heap.size≤w42.heap.size:=hs.size
    replace hs:=ar hs hb
    clear hb hWn
    refine hK.out _ _ True.intro (fun hH=>?_)
    clear hK K
    try simp only[LY]
    clear hH
    refine U_on 4 fun K hK=>?_
    have hOn:=cw.nilAt (size:=2) (R:=IP) (base:=wc.heap.size) B9 sz_le
    clear B9
    simp only[List.getElem_toArray,List.getElem_cons_succ,List.getElem_cons_zero]
    rw[if_pos (by rfl)]
    refine jg1 _ _ IP.kept ip_one (by decide) (by rfl) Tryz.underlying22 hi hz0 hz1 hz2 (by rfl) (by omega) (by rfl) (by rfl) hOn (rows_drop (HO2.out.mono IP.kept hs) (by omega) rfl (by omega) (by omega)) (by unfold maxLen;simp;omega) (by simp;omega) hs.size ?_
    intro vw44 w44 hON hb1 ho
    replace hOn:=hON
    replace hs:=hs.trans hb1
    clear hON hb1 ho
    refine hK.out _ _ True.intro (fun hH=>?_)
    clear hK K
    try simp only[LY]
    clear hH
    refine U_on 8 fun K hK=>?_
    simp only[List.getElem_toArray,List.getElem_cons_succ,List.getElem_cons_zero]
    rw[if_pos (by rfl)]
    refine jg1 _ _ IP.kept ip_one (by decide) (by rfl) Tryz.underlying22 hi hz0 hz1 hz2 (by rfl) (by omega) (by rfl) (by rfl) hOn ((HO2.out.mono IP.kept hs).take ff _ _ _ rfl (by omega)) (by unfold maxLen;simp;omega) (by simp;omega) hs.size ?_
    intro vw45 w45 hON hb1 ho
    replace hOn:=hON
    replace hs:=hs.trans hb1
    clear hON hb1 ho
    refine hK.out _ _ True.intro (fun hH=>?_)
    clear hK K
    try simp only[LY]
    clear hH
    refine dr (by kernel_rfl) rfl (by kernel_rfl) (fun K hK=>?_)
    go_simp
    refine hK.out _ _ ?_
    clear hK K
    intro wl hW
    rw[hW]
    clear hW wl
    try simp only[LY]
    go_wp2
    go_ret
    exact⟨_,rfl,by rw[show nmZ l=([] ++ ql.drop ff) ++ ql.take ff from by unfold nmZ;rw[←Hql.out,List.nil_append,show fmK ql ql.length=ff from by rw[Hff.out,show k=ql.length from by omega]]];exact hOn.rows,(ar HB0_2.out (ar HB1_4.out hs))⟩
end Go.Proofs.YtbnomdlojmgigaaGreat
