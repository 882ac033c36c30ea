/-
  The reference's words for polygons: the vertex behind one, what is wrong with a polygon, where a point lies.
-/
import Derived.Test.YtbnomdlojmgigaaGreatPlTP
import Derived.Test.YtbnomdlojmgigaaGreatPkP3P
set_option linter.unusedSimpArgs false
set_option linter.unusedVariables false
set_option maxRecDepth 100000
set_option maxHeartbeats 16000000
namespace Go.Proofs.YtbnomdlojmgigaaGreat
open Go.RowKit Dg
attribute [local go_sem ↓] Go.wp_at_zero Go.wp_at_succ
section
open Go
variable {P:Program} {ops:Array Oper} {Q:Exit→Act→World→Prop} {md:Region.Mode} {S:World→Prop} {m:Nat}
theorem U_four {i j k l:Nat} {oi oj ok ol:Oper} {fuel:Nat} {listed:Array Bool} {a:Act} {w:World} (hr:Region.ready md ops listed=[i,j,k,l]) (hi:ops[i]?=some oi) (hj:ops[j]?=some oj) (hk:ops[k]?=some ok) (hl:ops[l]?=some ol)
  (h1:∀K':Act→World→Prop,Shut (∀a w,S w→(S w→cq P md ops Q S m fuel (listed.setIfInBounds i true) a w)→K' a w)→if Region.wanted oi (yielded ops a.tmps)=true then Oper.wp P oi a w K' Q else K' (a.put oi.dst undef) w)
  (h2:∀K':Act→World→Prop,Shut (∀a w,S w→(S w→cq P md ops Q S m fuel (listed.setIfInBounds j true) a w)→K' a w)→if Region.wanted oj (yielded ops a.tmps)=true then Oper.wp P oj a w K' Q else K' (a.put oj.dst undef) w)
  (h3:∀K':Act→World→Prop,Shut (∀a w,S w→(S w→cq P md ops Q S m fuel (listed.setIfInBounds k true) a w)→K' a w)→if Region.wanted ok (yielded ops a.tmps)=true then Oper.wp P ok a w K' Q else K' (a.put ok.dst undef) w)
  (h4:∀K':Act→World→Prop,Shut (∀a w,S w→(S w→cq P md ops Q S m fuel (listed.setIfInBounds l true) a w)→K' a w)→if Region.wanted ol (yielded ops a.tmps)=true then Oper.wp P ol a w K' Q else K' (a.put ol.dst undef) w):
  cq P md ops Q S m (fuel + 1) listed a w:=by
 refine⟨fun h0=>(by rw[h0] at hr;cases hr),fun x hx=>?_⟩
 rw[hr] at hx
 simp only[List.mem_cons,List.mem_nil_iff,or_false] at hx
 rcases hx with rfl|rfl|rfl|rfl
 ·exact wpOp_step hi (fun K' hK=>h1 K' (fun a w hS hW=>hK a w ⟨.inr hS,hW hS⟩))
 ·exact wpOp_step hj (fun K' hK=>h2 K' (fun a w hS hW=>hK a w ⟨.inr hS,hW hS⟩))
 ·exact wpOp_step hk (fun K' hK=>h3 K' (fun a w hS hW=>hK a w ⟨.inr hS,hW hS⟩))
 exact wpOp_step hl (fun K' hK=>h4 K' (fun a w hS hW=>hK a w ⟨.inr hS,hW hS⟩))
end
theorem val_short {l:List Pt} (h:l.length < 3∨16 < l.length):rl l=4:=by
 unfold rl;split
 ·rfl
 split
 ·rfl
 omega
theorem all_ptZ {l:List Pt}:(∀j,j < l.length→rtB (ptZ l j)=true)↔l.all rtB=true:=by
 constructor
 ·intro h
  rw[List.all_eq_true]
  intro p hp
  obtain⟨j,hj,rfl⟩:=List.mem_iff_getElem.1 hp
  have:=h j hj
  unfold ptZ at this
  rwa [List.getD_eq_getElem?_getD,List.getElem?_eq_getElem hj] at this
 intro h j hj
 unfold ptZ
 rw[List.getD_eq_getElem?_getD,List.getElem?_eq_getElem hj]
 exact List.all_eq_true.1 h _ (List.getElem_mem hj)
theorem val_right {l:List Pt} {k:Nat} (h3:3≤l.length) (h16:l.length≤16) (hk:k < l.length) (h:rtB (ptZ l k)=false):rl l=1:=by
 unfold rl
 rw[if_neg (by omega),if_neg (by omega),if_neg (fun ha=>by rw[all_ptZ.2 ha k hk] at h;cases h)]
theorem jg0 {l:List Pt} (h3:3≤l.length) (h16:l.length≤16) (ha:∀j,j < l.length→rtB (ptZ l j)=true):rl l=if (List.range l.length).any (zp l)=true then 20 else 0:=by
 unfold rl
 rw[if_neg (by omega),if_neg (by omega),if_pos (all_ptZ.1 ha)]
theorem val_fold {l:List Pt} (h3:3≤l.length) (h16:l.length≤16) (ha:∀j,j < l.length→rtB (ptZ l j)=true) {i:Nat} (hi:i < l.length) (h:sw l i=true):rl l=20:=by
 rw[jg0 h3 h16 ha,if_pos]
 rw[List.any_eq_true]
 exact⟨i,List.mem_range.2 hi,by unfold zp;rw[h];rfl⟩
theorem val_pair {l:List Pt} (h3:3≤l.length) (h16:l.length≤16) (ha:∀j,j < l.length→rtB (ptZ l j)=true) {i k:Nat} (hi:i < l.length) (hk:k < l.length) (h:kr l i k=true):rl l=20:=by
 rw[jg0 h3 h16 ha,if_pos]
 rw[List.any_eq_true]
 refine⟨i,List.mem_range.2 hi,?_⟩
 unfold zp
 rw[show (List.range l.length).any (kr l i)=true from List.any_eq_true.2 ⟨k,List.mem_range.2 hk,h⟩,Bool.or_true]
theorem bad_nr {l:List Pt} {i k:Nat} (hk:l.length≤k) (h:sw l i=false) (hp:∀j,j < k→kr l i j=false):zp l i=false:=by
 unfold zp
 rw[h,Bool.false_or,List.any_eq_false]
 intro j hj
 rw[hp j (by have:=List.mem_range.1 hj;omega)]
 decide
theorem val_good {l:List Pt} (h3:3≤l.length) (h16:l.length≤16) (ha:∀j,j < l.length→rtB (ptZ l j)=true) {k:Nat} (hk:l.length≤k) (h:∀j,j < k→zp l j=false):rl l=0:=by
 rw[jg0 h3 h16 ha,if_neg]
 rw[Bool.not_eq_true,List.any_eq_false]
 intro j hj
 rw[h j (by have:=List.mem_range.1 hj;omega)]
 decide
theorem pair_lo {l:List Pt} {i j:Nat} (h:j < i + 2):kr l i j=false:=by unfold kr;rw[decide_eq_false (by omega)];rfl
theorem pair_nx {l:List Pt} {i k:Nat} (h:(k + 1) % l.length=i):kr l i k=false:=by unfold kr;rw[decide_eq_false (show ¬ (k + 1) % l.length≠i from fun x=>x h)];simp
theorem ja7 {l:List Pt} {i k:Nat} (h0:i + 2≤k) (h:¬ (k + 1) % l.length=i):kr l i k=mtZ (ptZ l i) (ptZ l ((i + 1) % l.length)) (ptZ l k) (ptZ l ((k + 1) % l.length)):=by unfold kr;rw[decide_eq_true h0,decide_eq_true (show (k + 1) % l.length≠i from h)];rfl
theorem dp (v:Value) (l:List Pt) (i:Nat) (n:Int) (w:World) (hl:Pts w v l) (h0:0 < l.length) (hn:l.length≤1000000) (hi:i≤1000000) (hni:n=(i:Int)) {P:Pt} (hP:P=ptZ l ((i + 1) % l.length)):
  Calls Tryz.prog 48 #[v,.int .i64 n] w (fj w (.agg #[.int .i64 P.1,.int .i64 P.2])):=by
 obtain⟨bb,oo,cap,rfl,hc1,hc2⟩:=ep hl h0
 subst hni
 have hs:=Below.refl w.heap.size w
 have HL:=ae hl
 have HP:=ae hP
 clear hl hP
 go_enter Tryz.func48,Tryz.ntmps48
 obtain⟨m3,D6⟩:∃z:Nat,z=(i + 1) % l.length:=⟨_,rfl⟩
 have hm3:m3 < l.length:=by rw[D6];exact Nat.mod_lt _ (by omega)
 have AX2:Int.tmod ((i:Int) + 1) (l.length:Int)=(m3:Int):=by rw[D6,show ((i:Int) + 1:Int)=((i:Nat):Int) + 1 from by omega];exact xm _ _
 have AX2b:IntKind.i64.wrap (m3:Int)=(m3:Int):=IntWalk.i64_in _ (by omega)
 have AX2e:((i:Int) + 1) % (l.length:Int)=(m3:Int):=by rw[D6];simp
 have AX2z:((l.length:Int)=0)=False:=eq_false (by omega)
 have AX2c:(l=[])=False:=eq_false (fun e=>by rw[e] at hm3;exact absurd hm3 (by simp))
 replace D6:=ae D6
 have AX1:IntKind.i64.wrap ((i:Int) + 1)=(i:Int) + 1:=IntWalk.i64_in _ (by omega)
 obtain⟨D1,D2,le4⟩:=ij (be.mono IP.kept HL.out hs) (show m3 < l.length by omega)
 obtain⟨C5,C2⟩:∃z:Pt,z=ptZ l m3:=⟨_,rfl⟩
 rw[←C2] at D1 D2
 replace C2:=ae C2
 go_wp2
 clear le4 D1 D2
 refine bodyPost.abs ?_
 intro w1 hW
 have hG:Gr [] w w1:=by rw[hW];exact (Gr.refl _ _).alloc
 have sz_w1:=hs.size
 have Blk:Bx w1 (w.heap.size) 31 #[.int .i64 C5.1,.int .i64 C5.2]:=by rw[hW];exact (Bx.new0 _ _ _)
 replace hs:=hs.trans (hG.below0 hs.size)
 clear hW hG
 have hz_w1:=Blk.lt
 refine Blk.k2 fun Dw Dx=>?_
 exact bodyPost_ret (v:=.agg #[.int .i64 C5.1,.int .i64 C5.2]) (by simp[results,Tryz.results48,go_sem,Dw,Dx]) rfl ⟨by rw[show P=C5 from by rw[HP.out,C2.out,D6.out]],hs⟩
theorem r2_Valid (v:Value) (l:List Pt) (w:World) (hl:Pts w v l):
  Calls Tryz.prog 15 #[v] w (fj w (.int .i64 (rl l))):=by
 obtain⟨al,cl,rfl, -, -, -⟩:=hl.slice
 have hs:=Below.refl w.heap.size w
 have HL:=ae hl
 clear hl
 go_enter Tryz.func15,Tryz.ntmps15
 by_cases q1:l.length < 3
 ·have q1d:((l.length:Int) < 3)=True:=eq_true (by omega)
  have C0:=ae (show rl l=4 from val_short (by omega))
  go_wp2
  go_ret
  exact⟨by rw[C0.out];rfl,hs⟩
 have q1d:((l.length:Int) < 3)=False:=eq_false (by omega)
 by_cases q2:16 < l.length
 ·have q2d:((16:Int) < (l.length:Int))=True:=eq_true (by omega)
  have C0:=ae (show rl l=4 from val_short (by omega))
  go_wp2
  go_ret
  exact⟨by rw[C0.out];rfl,hs⟩
 have q2d:((16:Int) < (l.length:Int))=False:=eq_false (by omega)
 obtain⟨bb,oo,pc,hv_,hpc1,hpc2⟩:=ep HL.out (by omega)
 obtain⟨rfl,rfl⟩:=yk hv_
 clear hv_
 go_wp2
 go_loopw [4] (fun s4 wq=>∃a:Nat,a≤l.length∧s4=.int .i64 a∧Below w.heap.size w wq∧(∀j,j < a→rtB (ptZ l j)=true)) (fun s4 _=>l.length - (intOf s4).toNat)
 case atStart=>exact⟨0,Nat.zero_le _,rfl,hs,(fun j h=>absurd h (Nat.not_lt_zero j))⟩
 case round=>
  clear hs
  obtain⟨a,Dh,rfl,hs,HR⟩:=hrel
  obtain⟨wl0,D5⟩:∃x,x=wr:=⟨_,rfl⟩
  subst D5
  replace HR:=ae HR
  by_cases q3:a < l.length
  ·have q3d:((a:Int) < (l.length:Int))=True:=eq_true (by omega)
   obtain⟨D1,D2,le4⟩:=ij (be.mono IP.kept HL.out hs) (show a < l.length by omega)
   obtain⟨C5,C2⟩:∃z:Pt,z=ptZ l a:=⟨_,rfl⟩
   rw[←C2] at D1 D2
   replace C2:=ae C2
   go_wp2_with fail
   clear le4 D1 D2
   with_reducible refine (r2_Right C5 _).mono ?_
   rintro e w21 ⟨rfl,hb⟩
   replace hs:=ar hs hb
   clear hb
   obtain⟨b5,De⟩:∃zz:Bool,zz=rtB C5:=⟨_,rfl⟩
   rw[←De]
   replace De:=ae De
   by_cases q6:rtB C5=true
   ·obtain rfl:b5=true:=by rw[De.out];exact q6
    have q6H:=ae q6
    clear q6
    have AX7:IntKind.i64.wrap ((a:Int) + 1)=(a:Int) + 1:=IntWalk.i64_in _ (by omega)
    go_wp2
    go_roundw
    case rel=>exact⟨a + 1,by omega,by go_num,hs,(fun j h=>(Nat.lt_or_eq_of_le (Nat.le_of_lt_succ h)).elim (fun e=>HR.out j e) (fun e=>by rw[e,show ptZ l a=C5 from C2.out.symm];exact q6H.out))⟩
    all_goals first|(simp[intOf];done)|(simp[intOf];omega)
   obtain rfl:b5=false:=by rw[De.out];simpa using q6
   have q6H:=ae q6
   clear q6
   have C0:=ae (show rl l=1 from val_right (k:=a) (by omega) (by omega) (by omega) (show rtB (ptZ l a)=false from by rw[show ptZ l a=C5 from C2.out.symm];exact Bool.eq_false_iff.2 q6H.out))
   go_wp2
   go_ret
   exact⟨by rw[C0.out];rfl,hs⟩
  have q3d:((a:Int) < (l.length:Int))=False:=eq_false (by omega)
  have C7:=ae (show ∀j,j < l.length→rtB (ptZ l j)=true from fun j hj=>HR.out j (by omega))
  go_wp2
  go_loopw [5] (fun s5 wq=>∃i:Nat,i≤l.length∧s5=.int .i64 i∧Below w.heap.size w wq∧(∀j,j < i→zp l j=false)) (fun s5 _=>l.length - (intOf s5).toNat)
  case atStart=>exact⟨0,Nat.zero_le _,rfl,hs,(fun j h=>absurd h (Nat.not_lt_zero j))⟩
  case round=>
   clear hs
   obtain⟨i,Dh,rfl,hs,HB⟩:=hrel
   obtain⟨wl1,D5⟩:∃x,x=wr:=⟨_,rfl⟩
   subst D5
   replace HB:=ae HB
   by_cases q4:i < l.length
   ·have q4d:((i:Int) < (l.length:Int))=True:=eq_true (by omega)
    obtain⟨B4,Br⟩:∃z:Pt,z=ptZ l ((i + 1) % l.length):=⟨_,rfl⟩
    have Bt:WP 1048576 B4:=by rw[Br];exact jm (C7.out _ (Nat.mod_lt _ (by omega)))
    replace Br:=ae Br
    obtain⟨Bh,Bz⟩:∃z:Pt,z=ptZ l (((i + 1) + 1) % l.length):=⟨_,rfl⟩
    have Ci:WP 1048576 Bh:=by rw[Bz];exact jm (C7.out _ (Nat.mod_lt _ (by omega)))
    replace Bz:=ae Bz
    go_upto_region 12 with fail
    obtain⟨Bg,Bi,le7⟩:=ij (be.mono IP.kept HL.out hs) (show i < l.length by omega)
    obtain⟨B9,C1⟩:∃z:Pt,z=ptZ l i:=⟨_,rfl⟩
    rw[←C1] at Bg Bi
    have C6:WP 1048576 B9:=by rw[C1];exact (jm (C7.out i (by omega)))
    replace C1:=ae C1
    have AX8:IntKind.i64.wrap ((i:Int) + 1)=(i:Int) + 1:=IntWalk.i64_in _ (by omega)
    go_cut [6,7,8] (fun kv0 kv1 kv2 wz=>∃ga gb gc,kv0=.pointer (some ⟨ga,0,none⟩)∧kv1=.pointer (some ⟨gb,0,none⟩)∧kv2=.pointer (some ⟨gc,0,none⟩)∧w.heap.size≤ga∧w.heap.size≤gb∧w.heap.size≤gc∧ga≠gb∧ga≠gc∧gb≠gc∧Bx wz ga 31 #[.int .i64 B9.1,.int .i64 B9.2]∧Bx wz gb 31 #[.int .i64 B4.1,.int .i64 B4.2]∧Bx wz gc 31 #[.int .i64 Bh.1,.int .i64 Bh.2]∧Below w.heap.size w wz)
    case first=>
     refine bw (S:=fun w'=>w'.cell? ⟨bb,oo + i * 2,none⟩=some (.int .i64 B9.1)∧w'.cell? ⟨bb,oo + i * 2 + 1,none⟩=some (.int .i64 B9.2)) (by kernel_rfl) 16 ?_
     refine cq.abs ?_
     intro Bs hW
     have hb:Below wl1.heap.size wl1 Bs:=by rw[hW];exact de _
     replace hs:=ar hs hb
     replace Bg:=ah Bg hb
     replace Bi:=ah Bi hb
     clear hb hW
     obtain⟨FP,HP⟩:∃FP:World→Prop,∀W,FP W↔(Below w.heap.size w W∧W.cell? ⟨bb,oo + i * 2,none⟩=some (.int .i64 B9.1)∧W.cell? ⟨bb,oo + i * 2 + 1,none⟩=some (.int .i64 B9.2)):=⟨_,fun _=>Iff.rfl⟩
     have HM:∀W W',FP W→Below W.heap.size W W'→FP W':=by intro W W' h hb;obtain⟨hs,Bg,Bi⟩:=(HP _).1 h;exact (HP _).2 ⟨ar hs hb,ah Bg hb,ah Bi hb⟩
     have HC:∀W,FP W→W.cell? ⟨bb,oo + i * 2,none⟩=some (.int .i64 B9.1)∧W.cell? ⟨bb,oo + i * 2 + 1,none⟩=some (.int .i64 B9.2):=by intro W h;obtain⟨hs,Bg,Bi⟩:=(HP _).1 h;exact⟨Bg,Bi⟩
     obtain⟨NE,HN⟩:∃NE:Nat→Prop,∀g,NE g↔(bb≠g):=⟨_,fun _=>Iff.rfl⟩
     have HE:∀W,FP W→NE W.heap.size:=by intro W h;obtain⟨hs,Bg,Bi⟩:=(HP _).1 h;exact (HN _).2 (Nat.ne_of_lt (block_lt_of_cell Bg))
     have HG:∀W W' g,FP W→Gr [g] W W'→aw W W'→w.heap.size≤g→NE g→FP W':=by intro W W' g h hG hk hg hn;obtain⟨hs,Bg,Bi⟩:=(HP _).1 h;have x0:=(HN g).1 hn;exact (HP _).2 ⟨hs.trans (hG.below1 hs.size hg),hG.cell Bg (az x0),hG.cell Bi (az x0)⟩
     have F:FP Bs:=(HP _).2 ⟨hs,Bg,Bi⟩
     clear hs Bg Bi
     have hH:=HC _ F
     refine U_td 0 34 hH ?_
     refine U_td 1 35 hH ?_
     refine U_td 2 36 hH ?_
     refine U_td 3 37 hH ?_
     refine U_td 4 38 hH ?_
     refine U_td 5 39 hH ?_
     refine U_td 7 41 hH ?_
     refine U_td 8 42 hH ?_
     refine U_td 9 43 hH ?_
     clear hH
     refine ks ?_
     intro X a0 HX HA
     have Cf:∀(W:World) (B6:Nat) (B7:Nat) (B8:Nat),FP W→(w.heap.size≤B6)→(NE B6)→(Bx W B6 31 #[.int .i64 0,.int .i64 0])→(w.heap.size≤B7)→(NE B7)→(Bx W B7 31 #[.int .i64 0,.int .i64 0])→(w.heap.size≤B8)→(NE B8)→(Bx W B8 31 #[.int .i64 0,.int .i64 0])→(B6≠B7)→(B6≠B8)→(B7≠B8)→X 3 (LB 17 16383) (((((a0.put (some 40) (.agg #[.int .i64 B4.1,.int .i64 B4.2])).put (some 44) (.agg #[.int .i64 Bh.1,.int .i64 Bh.2])).put (some 6) (.pointer (some ⟨B6,0,none⟩))).put (some 7) (.pointer (some ⟨B7,0,none⟩))).put (some 8) (.pointer (some ⟨B8,0,none⟩))) W:=by
      intro W B6 B7 B8 F Bd Ba B1 Be Bb B2 Bf Bc B3 Bj Bk Bl
      rw[←HX.out,←HA.out]
      try simp only[LY]
      refine B1.k2fl fun Bm Bn fa La=>?_
      refine U_on 14 fun K hK=>?_
      go_simp
      generalize hW_:((W.setCell ⟨B6,0,none⟩ (.int .i64 B9.1)).setCell ⟨B6,1,none⟩ (.int .i64 B9.2))=w42
      have hW:=hW_.symm
      clear hW_
      have hG:Gr [B6] W w42:=by rw[hW];exact (Gr.refl _ _).set.set
      have hk:=hG.keep ⟨⟨_,B1.ty,by decide⟩,True.intro⟩
      replace B1:Bx w42 (B6) 31 #[.int .i64 B9.1,.int .i64 B9.2]:=by rw[hW];exact B1.set2
      replace F:=HG _ _ _ F hG hk Bd Ba
      replace B2:=hG.b1 B2
      replace B3:=hG.b1 B3
      clear hW hG hk
      refine hK.out _ _ (HC _ F) (fun hH=>?_)
      clear hK K
      try simp only[LY]
      clear hH
      refine B2.k2fl fun Bo Bp fb Lb=>?_
      refine U_on 15 fun K hK=>?_
      go_simp
      generalize hW_:((w42.setCell ⟨B7,0,none⟩ (.int .i64 B4.1)).setCell ⟨B7,1,none⟩ (.int .i64 B4.2))=w43
      have hW:=hW_.symm
      clear hW_
      have hG:Gr [B7] w42 w43:=by rw[hW];exact (Gr.refl _ _).set.set
      have hk:=hG.keep ⟨⟨_,B2.ty,by decide⟩,True.intro⟩
      replace B2:Bx w43 (B7) 31 #[.int .i64 B4.1,.int .i64 B4.2]:=by rw[hW];exact B2.set2
      replace F:=HG _ _ _ F hG hk Be Bb
      replace B1:=hG.b1 B1
      replace B3:=hG.b1 B3
      clear hW hG hk
      refine hK.out _ _ (HC _ F) (fun hH=>?_)
      clear hK K
      try simp only[LY]
      clear hH
      refine B3.k2fl fun Cs Ct fc Lc=>?_
      refine dr (by kernel_rfl) rfl (by kernel_rfl) (fun K hK=>?_)
      go_simp
      refine hK.out _ _ ?_
      clear hK K
      intro w44 hW
      have hG:Gr [B8] w43 w44:=by rw[hW];exact (Gr.refl _ _).set.set
      have hk:=hG.keep ⟨⟨_,B3.ty,by decide⟩,True.intro⟩
      replace B3:Bx w44 (B8) 31 #[.int .i64 Bh.1,.int .i64 Bh.2]:=by rw[hW];exact B3.set2
      replace F:=HG _ _ _ F hG hk Bf Bc
      replace B1:=hG.b1 B1
      replace B2:=hG.b1 B2
      clear hW hG hk
      obtain⟨hs,Bg,Bi⟩:=(HP _).1 F
      try simp only[LY]
      have x0_a:=(HN _).1 Ba
      have x0_b:=(HN _).1 Bb
      have x0_c:=(HN _).1 Bc
      clear HX HA HM HP HC HG HN HE
      go_wp2_with fail
      go_meet
      exact⟨B6,B7,B8,rfl,rfl,rfl,(by first|exact Bd|omega),(by first|exact Be|omega),(by first|exact Bf|omega),(by omega),(by omega),(by omega),B1,B2,B3,hs⟩
     replace Cf:=ae Cf
     have Ce:∀(W:World) (B6:Nat) (B7:Nat) (B8:Nat),FP W→(w.heap.size≤B6)→(NE B6)→(Bx W B6 31 #[.int .i64 0,.int .i64 0])→(w.heap.size≤B7)→(NE B7)→(Bx W B7 31 #[.int .i64 0,.int .i64 0])→(w.heap.size≤B8)→(NE B8)→(Bx W B8 31 #[.int .i64 0,.int .i64 0])→(B6≠B7)→(B6≠B8)→(B7≠B8)→X 4 (LB 17 15359) ((((a0.put (some 40) (.agg #[.int .i64 B4.1,.int .i64 B4.2])).put (some 6) (.pointer (some ⟨B6,0,none⟩))).put (some 7) (.pointer (some ⟨B7,0,none⟩))).put (some 8) (.pointer (some ⟨B8,0,none⟩))) W:=by
      intro W B6 B7 B8 F Bd Ba B1 Be Bb B2 Bf Bc B3 Bj Bk Bl
      rw[←HX.out,←HA.out]
      try simp only[LY]
      refine U_on 10 fun K hK=>?_
      obtain⟨hs,Bg,Bi⟩:=(HP _).1 F
      go_simp
      (with_reducible refine (dp _ l (i + 1) ((i:Int) + 1) _ (be.mono IP.kept HL.out hs) (by omega) (by omega) (by omega) (by omega) Bz.out).mono ?_)
      rintro e W1 ⟨rfl,hb⟩
      replace F:=HM _ _ F hb
      revert B1 B2 B3;refine mo hb ?_;intro B1 B2 B3
      clear hb hs Bg Bi
      try go_wp2_with fail
      exact hK.out _ _ (HC _ F) fun _=>bf HX HA (Cf.out W1 B6 B7 B8 F Bd Ba B1 Be Bb B2 Bf Bc B3 Bj Bk Bl)
     replace Ce:=ae Ce
     have Cp:∀(W:World) (B7:Nat) (B8:Nat),FP W→(w.heap.size≤B7)→(NE B7)→(Bx W B7 31 #[.int .i64 0,.int .i64 0])→(w.heap.size≤B8)→(NE B8)→(Bx W B8 31 #[.int .i64 0,.int .i64 0])→(B7≠B8)→X 4 (LB 17 14335) ((((a0.put (some 40) (.agg #[.int .i64 B4.1,.int .i64 B4.2])).put (some 44) (.agg #[.int .i64 Bh.1,.int .i64 Bh.2])).put (some 7) (.pointer (some ⟨B7,0,none⟩))).put (some 8) (.pointer (some ⟨B8,0,none⟩))) W:=by
      intro W B7 B8 F Be Bb B2 Bf Bc B3 Bl
      rw[←HX.out,←HA.out]
      try simp only[LY]
      refine U_on 11 fun K hK=>?_
      go_simp
      refine aq ((HP _).1 F).1 (fun W1 hb B1 Bd=>?_)
      have Ba:=HE _ F
      have Bj:=Nat.ne_of_gt B2.lt
      have Bk:=Nat.ne_of_gt B3.lt
      replace F:=HM _ _ F hb
      revert B2 B3;refine mo hb ?_;intro B2 B3
      clear hb
      exact hK.out _ _ (HC _ F) fun _=>bf HX HA (Cf.out W1 W.heap.size B7 B8 F Bd Ba B1 Be Bb B2 Bf Bc B3 Bj Bk Bl)
     replace Cp:=ae Cp
     have Co:∀(W:World) (B6:Nat) (B8:Nat),FP W→(w.heap.size≤B6)→(NE B6)→(Bx W B6 31 #[.int .i64 0,.int .i64 0])→(w.heap.size≤B8)→(NE B8)→(Bx W B8 31 #[.int .i64 0,.int .i64 0])→(B6≠B8)→X 4 (LB 17 12287) ((((a0.put (some 40) (.agg #[.int .i64 B4.1,.int .i64 B4.2])).put (some 44) (.agg #[.int .i64 Bh.1,.int .i64 Bh.2])).put (some 6) (.pointer (some ⟨B6,0,none⟩))).put (some 8) (.pointer (some ⟨B8,0,none⟩))) W:=by
      intro W B6 B8 F Bd Ba B1 Bf Bc B3 Bk
      rw[←HX.out,←HA.out]
      try simp only[LY]
      refine U_on 12 fun K hK=>?_
      go_simp
      refine aq ((HP _).1 F).1 (fun W1 hb B2 Be=>?_)
      have Bb:=HE _ F
      have Bj:=Nat.ne_of_lt B1.lt
      have Bl:=Nat.ne_of_gt B3.lt
      replace F:=HM _ _ F hb
      revert B1 B3;refine mo hb ?_;intro B1 B3
      clear hb
      exact hK.out _ _ (HC _ F) fun _=>bf HX HA (Cf.out W1 B6 W.heap.size B8 F Bd Ba B1 Be Bb B2 Bf Bc B3 Bj Bk Bl)
     replace Co:=ae Co
     have Cn:∀(W:World) (B6:Nat) (B7:Nat),FP W→(w.heap.size≤B6)→(NE B6)→(Bx W B6 31 #[.int .i64 0,.int .i64 0])→(w.heap.size≤B7)→(NE B7)→(Bx W B7 31 #[.int .i64 0,.int .i64 0])→(B6≠B7)→X 4 (LB 17 8191) ((((a0.put (some 40) (.agg #[.int .i64 B4.1,.int .i64 B4.2])).put (some 44) (.agg #[.int .i64 Bh.1,.int .i64 Bh.2])).put (some 6) (.pointer (some ⟨B6,0,none⟩))).put (some 7) (.pointer (some ⟨B7,0,none⟩))) W:=by
      intro W B6 B7 F Bd Ba B1 Be Bb B2 Bj
      rw[←HX.out,←HA.out]
      try simp only[LY]
      refine U_on 13 fun K hK=>?_
      go_simp
      refine aq ((HP _).1 F).1 (fun W1 hb B3 Bf=>?_)
      have Bc:=HE _ F
      have Bk:=Nat.ne_of_lt B1.lt
      have Bl:=Nat.ne_of_lt B2.lt
      replace F:=HM _ _ F hb
      revert B1 B2;refine mo hb ?_;intro B1 B2
      clear hb
      exact hK.out _ _ (HC _ F) fun _=>bf HX HA (Cf.out W1 B6 B7 W.heap.size F Bd Ba B1 Be Bb B2 Bf Bc B3 Bj Bk Bl)
     replace Cn:=ae Cn
     have Cm:∀(W:World) (B6:Nat) (B7:Nat) (B8:Nat),FP W→(w.heap.size≤B6)→(NE B6)→(Bx W B6 31 #[.int .i64 0,.int .i64 0])→(w.heap.size≤B7)→(NE B7)→(Bx W B7 31 #[.int .i64 0,.int .i64 0])→(w.heap.size≤B8)→(NE B8)→(Bx W B8 31 #[.int .i64 0,.int .i64 0])→(B6≠B7)→(B6≠B8)→(B7≠B8)→X 5 (LB 17 15295) (((a0.put (some 6) (.pointer (some ⟨B6,0,none⟩))).put (some 7) (.pointer (some ⟨B7,0,none⟩))).put (some 8) (.pointer (some ⟨B8,0,none⟩))) W:=by
      intro W B6 B7 B8 F Bd Ba B1 Be Bb B2 Bf Bc B3 Bj Bk Bl
      rw[←HX.out,←HA.out]
      try simp only[LY]
      refine U_on 6 fun K hK=>?_
      obtain⟨hs,Bg,Bi⟩:=(HP _).1 F
      go_simp
      (with_reducible refine (dp _ l i ((i:Int)) _ (be.mono IP.kept HL.out hs) (by omega) (by omega) (by omega) (by omega) Br.out).mono ?_)
      rintro e W1 ⟨rfl,hb⟩
      replace F:=HM _ _ F hb
      revert B1 B2 B3;refine mo hb ?_;intro B1 B2 B3
      clear hb hs Bg Bi
      try go_wp2_with fail
      exact hK.out _ _ (HC _ F) fun _=>bf HX HA (Ce.out W1 B6 B7 B8 F Bd Ba B1 Be Bb B2 Bf Bc B3 Bj Bk Bl)
     replace Cm:=ae Cm
     have Cl:∀(W:World) (B7:Nat) (B8:Nat),FP W→(w.heap.size≤B7)→(NE B7)→(Bx W B7 31 #[.int .i64 0,.int .i64 0])→(w.heap.size≤B8)→(NE B8)→(Bx W B8 31 #[.int .i64 0,.int .i64 0])→(B7≠B8)→X 5 (LB 17 13311) (((a0.put (some 40) (.agg #[.int .i64 B4.1,.int .i64 B4.2])).put (some 7) (.pointer (some ⟨B7,0,none⟩))).put (some 8) (.pointer (some ⟨B8,0,none⟩))) W:=by
      intro W B7 B8 F Be Bb B2 Bf Bc B3 Bl
      rw[←HX.out,←HA.out]
      try simp only[LY]
      refine dq (i:=10) (j:=11) (by kernel_rfl) rfl rfl  (fun K hK=>?_) (fun K hK=>?_)
      ·obtain⟨hs,Bg,Bi⟩:=(HP _).1 F
       go_simp
       (with_reducible refine (dp _ l (i + 1) ((i:Int) + 1) _ (be.mono IP.kept HL.out hs) (by omega) (by omega) (by omega) (by omega) Bz.out).mono ?_)
       rintro e W1 ⟨rfl,hb⟩
       replace F:=HM _ _ F hb
       revert B2 B3;refine mo hb ?_;intro B2 B3
       clear hb hs Bg Bi
       try go_wp2_with fail
       exact hK.out _ _ (HC _ F) fun _=>bf HX HA (Cp.out W1 B7 B8 F Be Bb B2 Bf Bc B3 Bl)
      go_simp
      refine aq ((HP _).1 F).1 (fun W1 hb B1 Bd=>?_)
      have Ba:=HE _ F
      have Bj:=Nat.ne_of_gt B2.lt
      have Bk:=Nat.ne_of_gt B3.lt
      replace F:=HM _ _ F hb
      revert B2 B3;refine mo hb ?_;intro B2 B3
      clear hb
      exact hK.out _ _ (HC _ F) fun _=>bf HX HA (Ce.out W1 W.heap.size B7 B8 F Bd Ba B1 Be Bb B2 Bf Bc B3 Bj Bk Bl)
     replace Cl:=ae Cl
     have Ck:∀(W:World) (B6:Nat) (B8:Nat),FP W→(w.heap.size≤B6)→(NE B6)→(Bx W B6 31 #[.int .i64 0,.int .i64 0])→(w.heap.size≤B8)→(NE B8)→(Bx W B8 31 #[.int .i64 0,.int .i64 0])→(B6≠B8)→X 5 (LB 17 11263) (((a0.put (some 40) (.agg #[.int .i64 B4.1,.int .i64 B4.2])).put (some 6) (.pointer (some ⟨B6,0,none⟩))).put (some 8) (.pointer (some ⟨B8,0,none⟩))) W:=by
      intro W B6 B8 F Bd Ba B1 Bf Bc B3 Bk
      rw[←HX.out,←HA.out]
      try simp only[LY]
      refine dq (i:=10) (j:=12) (by kernel_rfl) rfl rfl  (fun K hK=>?_) (fun K hK=>?_)
      ·obtain⟨hs,Bg,Bi⟩:=(HP _).1 F
       go_simp
       (with_reducible refine (dp _ l (i + 1) ((i:Int) + 1) _ (be.mono IP.kept HL.out hs) (by omega) (by omega) (by omega) (by omega) Bz.out).mono ?_)
       rintro e W1 ⟨rfl,hb⟩
       replace F:=HM _ _ F hb
       revert B1 B3;refine mo hb ?_;intro B1 B3
       clear hb hs Bg Bi
       try go_wp2_with fail
       exact hK.out _ _ (HC _ F) fun _=>bf HX HA (Co.out W1 B6 B8 F Bd Ba B1 Bf Bc B3 Bk)
      go_simp
      refine aq ((HP _).1 F).1 (fun W1 hb B2 Be=>?_)
      have Bb:=HE _ F
      have Bj:=Nat.ne_of_lt B1.lt
      have Bl:=Nat.ne_of_gt B3.lt
      replace F:=HM _ _ F hb
      revert B1 B3;refine mo hb ?_;intro B1 B3
      clear hb
      exact hK.out _ _ (HC _ F) fun _=>bf HX HA (Ce.out W1 B6 W.heap.size B8 F Bd Ba B1 Be Bb B2 Bf Bc B3 Bj Bk Bl)
     replace Ck:=ae Ck
     have Cj:∀(W:World) (B6:Nat) (B7:Nat),FP W→(w.heap.size≤B6)→(NE B6)→(Bx W B6 31 #[.int .i64 0,.int .i64 0])→(w.heap.size≤B7)→(NE B7)→(Bx W B7 31 #[.int .i64 0,.int .i64 0])→(B6≠B7)→X 5 (LB 17 7167) (((a0.put (some 40) (.agg #[.int .i64 B4.1,.int .i64 B4.2])).put (some 6) (.pointer (some ⟨B6,0,none⟩))).put (some 7) (.pointer (some ⟨B7,0,none⟩))) W:=by
      intro W B6 B7 F Bd Ba B1 Be Bb B2 Bj
      rw[←HX.out,←HA.out]
      try simp only[LY]
      refine dq (i:=10) (j:=13) (by kernel_rfl) rfl rfl  (fun K hK=>?_) (fun K hK=>?_)
      ·obtain⟨hs,Bg,Bi⟩:=(HP _).1 F
       go_simp
       (with_reducible refine (dp _ l (i + 1) ((i:Int) + 1) _ (be.mono IP.kept HL.out hs) (by omega) (by omega) (by omega) (by omega) Bz.out).mono ?_)
       rintro e W1 ⟨rfl,hb⟩
       replace F:=HM _ _ F hb
       revert B1 B2;refine mo hb ?_;intro B1 B2
       clear hb hs Bg Bi
       try go_wp2_with fail
       exact hK.out _ _ (HC _ F) fun _=>bf HX HA (Cn.out W1 B6 B7 F Bd Ba B1 Be Bb B2 Bj)
      go_simp
      refine aq ((HP _).1 F).1 (fun W1 hb B3 Bf=>?_)
      have Bc:=HE _ F
      have Bk:=Nat.ne_of_lt B1.lt
      have Bl:=Nat.ne_of_lt B2.lt
      replace F:=HM _ _ F hb
      revert B1 B2;refine mo hb ?_;intro B1 B2
      clear hb
      exact hK.out _ _ (HC _ F) fun _=>bf HX HA (Ce.out W1 B6 B7 W.heap.size F Bd Ba B1 Be Bb B2 Bf Bc B3 Bj Bk Bl)
     replace Cj:=ae Cj
     have D0:∀(W:World) (B8:Nat),FP W→(w.heap.size≤B8)→(NE B8)→(Bx W B8 31 #[.int .i64 0,.int .i64 0])→X 5 (LB 17 10239) (((a0.put (some 40) (.agg #[.int .i64 B4.1,.int .i64 B4.2])).put (some 44) (.agg #[.int .i64 Bh.1,.int .i64 Bh.2])).put (some 8) (.pointer (some ⟨B8,0,none⟩))) W:=by
      intro W B8 F Bf Bc B3
      rw[←HX.out,←HA.out]
      try simp only[LY]
      refine dq (i:=11) (j:=12) (by kernel_rfl) rfl rfl  (fun K hK=>?_) (fun K hK=>?_)
      ·go_simp
       refine aq ((HP _).1 F).1 (fun W1 hb B1 Bd=>?_)
       have Ba:=HE _ F
       have Bk:=Nat.ne_of_gt B3.lt
       replace F:=HM _ _ F hb
       replace B3:=B3.mono hb
       clear hb
       exact hK.out _ _ (HC _ F) fun _=>bf HX HA (Co.out W1 W.heap.size B8 F Bd Ba B1 Bf Bc B3 Bk)
      go_simp
      refine aq ((HP _).1 F).1 (fun W1 hb B2 Be=>?_)
      have Bb:=HE _ F
      have Bl:=Nat.ne_of_gt B3.lt
      replace F:=HM _ _ F hb
      replace B3:=B3.mono hb
      clear hb
      exact hK.out _ _ (HC _ F) fun _=>bf HX HA (Cp.out W1 W.heap.size B8 F Be Bb B2 Bf Bc B3 Bl)
     replace D0:=ae D0
     have Cz:∀(W:World) (B7:Nat),FP W→(w.heap.size≤B7)→(NE B7)→(Bx W B7 31 #[.int .i64 0,.int .i64 0])→X 5 (LB 17 6143) (((a0.put (some 40) (.agg #[.int .i64 B4.1,.int .i64 B4.2])).put (some 44) (.agg #[.int .i64 Bh.1,.int .i64 Bh.2])).put (some 7) (.pointer (some ⟨B7,0,none⟩))) W:=by
      intro W B7 F Be Bb B2
      rw[←HX.out,←HA.out]
      try simp only[LY]
      refine dq (i:=11) (j:=13) (by kernel_rfl) rfl rfl  (fun K hK=>?_) (fun K hK=>?_)
      ·go_simp
       refine aq ((HP _).1 F).1 (fun W1 hb B1 Bd=>?_)
       have Ba:=HE _ F
       have Bj:=Nat.ne_of_gt B2.lt
       replace F:=HM _ _ F hb
       replace B2:=B2.mono hb
       clear hb
       exact hK.out _ _ (HC _ F) fun _=>bf HX HA (Cn.out W1 W.heap.size B7 F Bd Ba B1 Be Bb B2 Bj)
      go_simp
      refine aq ((HP _).1 F).1 (fun W1 hb B3 Bf=>?_)
      have Bc:=HE _ F
      have Bl:=Nat.ne_of_lt B2.lt
      replace F:=HM _ _ F hb
      replace B2:=B2.mono hb
      clear hb
      exact hK.out _ _ (HC _ F) fun _=>bf HX HA (Cp.out W1 B7 W.heap.size F Be Bb B2 Bf Bc B3 Bl)
     replace Cz:=ae Cz
     have Cy:∀(W:World) (B6:Nat),FP W→(w.heap.size≤B6)→(NE B6)→(Bx W B6 31 #[.int .i64 0,.int .i64 0])→X 5 (LB 17 4095) (((a0.put (some 40) (.agg #[.int .i64 B4.1,.int .i64 B4.2])).put (some 44) (.agg #[.int .i64 Bh.1,.int .i64 Bh.2])).put (some 6) (.pointer (some ⟨B6,0,none⟩))) W:=by
      intro W B6 F Bd Ba B1
      rw[←HX.out,←HA.out]
      try simp only[LY]
      refine dq (i:=12) (j:=13) (by kernel_rfl) rfl rfl  (fun K hK=>?_) (fun K hK=>?_)
      ·go_simp
       refine aq ((HP _).1 F).1 (fun W1 hb B2 Be=>?_)
       have Bb:=HE _ F
       have Bj:=Nat.ne_of_lt B1.lt
       replace F:=HM _ _ F hb
       replace B1:=B1.mono hb
       clear hb
       exact hK.out _ _ (HC _ F) fun _=>bf HX HA (Cn.out W1 B6 W.heap.size F Bd Ba B1 Be Bb B2 Bj)
      go_simp
      refine aq ((HP _).1 F).1 (fun W1 hb B3 Bf=>?_)
      have Bc:=HE _ F
      have Bk:=Nat.ne_of_lt B1.lt
      replace F:=HM _ _ F hb
      replace B1:=B1.mono hb
      clear hb
      exact hK.out _ _ (HC _ F) fun _=>bf HX HA (Co.out W1 B6 W.heap.size F Bd Ba B1 Bf Bc B3 Bk)
     replace Cy:=ae Cy
     have Cx:∀(W:World) (B7:Nat) (B8:Nat),FP W→(w.heap.size≤B7)→(NE B7)→(Bx W B7 31 #[.int .i64 0,.int .i64 0])→(w.heap.size≤B8)→(NE B8)→(Bx W B8 31 #[.int .i64 0,.int .i64 0])→(B7≠B8)→X 6 (LB 17 13247) ((a0.put (some 7) (.pointer (some ⟨B7,0,none⟩))).put (some 8) (.pointer (some ⟨B8,0,none⟩))) W:=by
      intro W B7 B8 F Be Bb B2 Bf Bc B3 Bl
      rw[←HX.out,←HA.out]
      try simp only[LY]
      refine dq (i:=6) (j:=11) (by kernel_rfl) rfl rfl  (fun K hK=>?_) (fun K hK=>?_)
      ·obtain⟨hs,Bg,Bi⟩:=(HP _).1 F
       go_simp
       (with_reducible refine (dp _ l i ((i:Int)) _ (be.mono IP.kept HL.out hs) (by omega) (by omega) (by omega) (by omega) Br.out).mono ?_)
       rintro e W1 ⟨rfl,hb⟩
       replace F:=HM _ _ F hb
       revert B2 B3;refine mo hb ?_;intro B2 B3
       clear hb hs Bg Bi
       try go_wp2_with fail
       exact hK.out _ _ (HC _ F) fun _=>bf HX HA (Cl.out W1 B7 B8 F Be Bb B2 Bf Bc B3 Bl)
      go_simp
      refine aq ((HP _).1 F).1 (fun W1 hb B1 Bd=>?_)
      have Ba:=HE _ F
      have Bj:=Nat.ne_of_gt B2.lt
      have Bk:=Nat.ne_of_gt B3.lt
      replace F:=HM _ _ F hb
      revert B2 B3;refine mo hb ?_;intro B2 B3
      clear hb
      exact hK.out _ _ (HC _ F) fun _=>bf HX HA (Cm.out W1 W.heap.size B7 B8 F Bd Ba B1 Be Bb B2 Bf Bc B3 Bj Bk Bl)
     replace Cx:=ae Cx
     have Cw:∀(W:World) (B6:Nat) (B8:Nat),FP W→(w.heap.size≤B6)→(NE B6)→(Bx W B6 31 #[.int .i64 0,.int .i64 0])→(w.heap.size≤B8)→(NE B8)→(Bx W B8 31 #[.int .i64 0,.int .i64 0])→(B6≠B8)→X 6 (LB 17 11199) ((a0.put (some 6) (.pointer (some ⟨B6,0,none⟩))).put (some 8) (.pointer (some ⟨B8,0,none⟩))) W:=by
      intro W B6 B8 F Bd Ba B1 Bf Bc B3 Bk
      rw[←HX.out,←HA.out]
      try simp only[LY]
      refine dq (i:=6) (j:=12) (by kernel_rfl) rfl rfl  (fun K hK=>?_) (fun K hK=>?_)
      ·obtain⟨hs,Bg,Bi⟩:=(HP _).1 F
       go_simp
       (with_reducible refine (dp _ l i ((i:Int)) _ (be.mono IP.kept HL.out hs) (by omega) (by omega) (by omega) (by omega) Br.out).mono ?_)
       rintro e W1 ⟨rfl,hb⟩
       replace F:=HM _ _ F hb
       revert B1 B3;refine mo hb ?_;intro B1 B3
       clear hb hs Bg Bi
       try go_wp2_with fail
       exact hK.out _ _ (HC _ F) fun _=>bf HX HA (Ck.out W1 B6 B8 F Bd Ba B1 Bf Bc B3 Bk)
      go_simp
      refine aq ((HP _).1 F).1 (fun W1 hb B2 Be=>?_)
      have Bb:=HE _ F
      have Bj:=Nat.ne_of_lt B1.lt
      have Bl:=Nat.ne_of_gt B3.lt
      replace F:=HM _ _ F hb
      revert B1 B3;refine mo hb ?_;intro B1 B3
      clear hb
      exact hK.out _ _ (HC _ F) fun _=>bf HX HA (Cm.out W1 B6 W.heap.size B8 F Bd Ba B1 Be Bb B2 Bf Bc B3 Bj Bk Bl)
     replace Cw:=ae Cw
     have Da:∀(W:World) (B6:Nat) (B7:Nat),FP W→(w.heap.size≤B6)→(NE B6)→(Bx W B6 31 #[.int .i64 0,.int .i64 0])→(w.heap.size≤B7)→(NE B7)→(Bx W B7 31 #[.int .i64 0,.int .i64 0])→(B6≠B7)→X 6 (LB 17 7103) ((a0.put (some 6) (.pointer (some ⟨B6,0,none⟩))).put (some 7) (.pointer (some ⟨B7,0,none⟩))) W:=by
      intro W B6 B7 F Bd Ba B1 Be Bb B2 Bj
      rw[←HX.out,←HA.out]
      try simp only[LY]
      refine dq (i:=6) (j:=13) (by kernel_rfl) rfl rfl  (fun K hK=>?_) (fun K hK=>?_)
      ·obtain⟨hs,Bg,Bi⟩:=(HP _).1 F
       go_simp
       (with_reducible refine (dp _ l i ((i:Int)) _ (be.mono IP.kept HL.out hs) (by omega) (by omega) (by omega) (by omega) Br.out).mono ?_)
       rintro e W1 ⟨rfl,hb⟩
       replace F:=HM _ _ F hb
       revert B1 B2;refine mo hb ?_;intro B1 B2
       clear hb hs Bg Bi
       try go_wp2_with fail
       exact hK.out _ _ (HC _ F) fun _=>bf HX HA (Cj.out W1 B6 B7 F Bd Ba B1 Be Bb B2 Bj)
      go_simp
      refine aq ((HP _).1 F).1 (fun W1 hb B3 Bf=>?_)
      have Bc:=HE _ F
      have Bk:=Nat.ne_of_lt B1.lt
      have Bl:=Nat.ne_of_lt B2.lt
      replace F:=HM _ _ F hb
      revert B1 B2;refine mo hb ?_;intro B1 B2
      clear hb
      exact hK.out _ _ (HC _ F) fun _=>bf HX HA (Cm.out W1 B6 B7 W.heap.size F Bd Ba B1 Be Bb B2 Bf Bc B3 Bj Bk Bl)
     replace Da:=ae Da
     have D9:∀(W:World) (B8:Nat),FP W→(w.heap.size≤B8)→(NE B8)→(Bx W B8 31 #[.int .i64 0,.int .i64 0])→X 6 (LB 17 9215) ((a0.put (some 40) (.agg #[.int .i64 B4.1,.int .i64 B4.2])).put (some 8) (.pointer (some ⟨B8,0,none⟩))) W:=by
      intro W B8 F Bf Bc B3
      rw[←HX.out,←HA.out]
      try simp only[LY]
      refine jv (i:=10) (j:=11) (k:=12) (by kernel_rfl) rfl rfl rfl  (fun K hK=>?_) (fun K hK=>?_) (fun K hK=>?_)
      ·obtain⟨hs,Bg,Bi⟩:=(HP _).1 F
       go_simp
       (with_reducible refine (dp _ l (i + 1) ((i:Int) + 1) _ (be.mono IP.kept HL.out hs) (by omega) (by omega) (by omega) (by omega) Bz.out).mono ?_)
       rintro e W1 ⟨rfl,hb⟩
       replace F:=HM _ _ F hb
       replace B3:=B3.mono hb
       clear hb hs Bg Bi
       try go_wp2_with fail
       exact hK.out _ _ (HC _ F) fun _=>bf HX HA (D0.out W1 B8 F Bf Bc B3)
      ·go_simp
       refine aq ((HP _).1 F).1 (fun W1 hb B1 Bd=>?_)
       have Ba:=HE _ F
       have Bk:=Nat.ne_of_gt B3.lt
       replace F:=HM _ _ F hb
       replace B3:=B3.mono hb
       clear hb
       exact hK.out _ _ (HC _ F) fun _=>bf HX HA (Ck.out W1 W.heap.size B8 F Bd Ba B1 Bf Bc B3 Bk)
      go_simp
      refine aq ((HP _).1 F).1 (fun W1 hb B2 Be=>?_)
      have Bb:=HE _ F
      have Bl:=Nat.ne_of_gt B3.lt
      replace F:=HM _ _ F hb
      replace B3:=B3.mono hb
      clear hb
      exact hK.out _ _ (HC _ F) fun _=>bf HX HA (Cl.out W1 W.heap.size B8 F Be Bb B2 Bf Bc B3 Bl)
     replace D9:=ae D9
     have D8:∀(W:World) (B7:Nat),FP W→(w.heap.size≤B7)→(NE B7)→(Bx W B7 31 #[.int .i64 0,.int .i64 0])→X 6 (LB 17 5119) ((a0.put (some 40) (.agg #[.int .i64 B4.1,.int .i64 B4.2])).put (some 7) (.pointer (some ⟨B7,0,none⟩))) W:=by
      intro W B7 F Be Bb B2
      rw[←HX.out,←HA.out]
      try simp only[LY]
      refine jv (i:=10) (j:=11) (k:=13) (by kernel_rfl) rfl rfl rfl  (fun K hK=>?_) (fun K hK=>?_) (fun K hK=>?_)
      ·obtain⟨hs,Bg,Bi⟩:=(HP _).1 F
       go_simp
       (with_reducible refine (dp _ l (i + 1) ((i:Int) + 1) _ (be.mono IP.kept HL.out hs) (by omega) (by omega) (by omega) (by omega) Bz.out).mono ?_)
       rintro e W1 ⟨rfl,hb⟩
       replace F:=HM _ _ F hb
       replace B2:=B2.mono hb
       clear hb hs Bg Bi
       try go_wp2_with fail
       exact hK.out _ _ (HC _ F) fun _=>bf HX HA (Cz.out W1 B7 F Be Bb B2)
      ·go_simp
       refine aq ((HP _).1 F).1 (fun W1 hb B1 Bd=>?_)
       have Ba:=HE _ F
       have Bj:=Nat.ne_of_gt B2.lt
       replace F:=HM _ _ F hb
       replace B2:=B2.mono hb
       clear hb
       exact hK.out _ _ (HC _ F) fun _=>bf HX HA (Cj.out W1 W.heap.size B7 F Bd Ba B1 Be Bb B2 Bj)
      go_simp
      refine aq ((HP _).1 F).1 (fun W1 hb B3 Bf=>?_)
      have Bc:=HE _ F
      have Bl:=Nat.ne_of_lt B2.lt
      replace F:=HM _ _ F hb
      replace B2:=B2.mono hb
      clear hb
      exact hK.out _ _ (HC _ F) fun _=>bf HX HA (Cl.out W1 B7 W.heap.size F Be Bb B2 Bf Bc B3 Bl)
     replace D8:=ae D8
     have D7:∀(W:World) (B6:Nat),FP W→(w.heap.size≤B6)→(NE B6)→(Bx W B6 31 #[.int .i64 0,.int .i64 0])→X 6 (LB 17 3071) ((a0.put (some 40) (.agg #[.int .i64 B4.1,.int .i64 B4.2])).put (some 6) (.pointer (some ⟨B6,0,none⟩))) W:=by
      intro W B6 F Bd Ba B1
      rw[←HX.out,←HA.out]
      try simp only[LY]
      refine jv (i:=10) (j:=12) (k:=13) (by kernel_rfl) rfl rfl rfl  (fun K hK=>?_) (fun K hK=>?_) (fun K hK=>?_)
      ·obtain⟨hs,Bg,Bi⟩:=(HP _).1 F
       go_simp
       (with_reducible refine (dp _ l (i + 1) ((i:Int) + 1) _ (be.mono IP.kept HL.out hs) (by omega) (by omega) (by omega) (by omega) Bz.out).mono ?_)
       rintro e W1 ⟨rfl,hb⟩
       replace F:=HM _ _ F hb
       replace B1:=B1.mono hb
       clear hb hs Bg Bi
       try go_wp2_with fail
       exact hK.out _ _ (HC _ F) fun _=>bf HX HA (Cy.out W1 B6 F Bd Ba B1)
      ·go_simp
       refine aq ((HP _).1 F).1 (fun W1 hb B2 Be=>?_)
       have Bb:=HE _ F
       have Bj:=Nat.ne_of_lt B1.lt
       replace F:=HM _ _ F hb
       replace B1:=B1.mono hb
       clear hb
       exact hK.out _ _ (HC _ F) fun _=>bf HX HA (Cj.out W1 B6 W.heap.size F Bd Ba B1 Be Bb B2 Bj)
      go_simp
      refine aq ((HP _).1 F).1 (fun W1 hb B3 Bf=>?_)
      have Bc:=HE _ F
      have Bk:=Nat.ne_of_lt B1.lt
      replace F:=HM _ _ F hb
      replace B1:=B1.mono hb
      clear hb
      exact hK.out _ _ (HC _ F) fun _=>bf HX HA (Ck.out W1 B6 W.heap.size F Bd Ba B1 Bf Bc B3 Bk)
     replace D7:=ae D7
     have Dn:∀(W:World),FP W→X 6 (LB 17 2047) ((a0.put (some 40) (.agg #[.int .i64 B4.1,.int .i64 B4.2])).put (some 44) (.agg #[.int .i64 Bh.1,.int .i64 Bh.2])) W:=by
      intro W F
      rw[←HX.out,←HA.out]
      try simp only[LY]
      refine jv (i:=11) (j:=12) (k:=13) (by kernel_rfl) rfl rfl rfl  (fun K hK=>?_) (fun K hK=>?_) (fun K hK=>?_)
      ·go_simp
       refine aq ((HP _).1 F).1 (fun W1 hb B1 Bd=>?_)
       have Ba:=HE _ F
       replace F:=HM _ _ F hb
       clear hb
       exact hK.out _ _ (HC _ F) fun _=>bf HX HA (Cy.out W1 W.heap.size F Bd Ba B1)
      ·go_simp
       refine aq ((HP _).1 F).1 (fun W1 hb B2 Be=>?_)
       have Bb:=HE _ F
       replace F:=HM _ _ F hb
       clear hb
       exact hK.out _ _ (HC _ F) fun _=>bf HX HA (Cz.out W1 W.heap.size F Be Bb B2)
      go_simp
      refine aq ((HP _).1 F).1 (fun W1 hb B3 Bf=>?_)
      have Bc:=HE _ F
      replace F:=HM _ _ F hb
      clear hb
      exact hK.out _ _ (HC _ F) fun _=>bf HX HA (D0.out W1 W.heap.size F Bf Bc B3)
     replace Dn:=ae Dn
     have Dm:∀(W:World) (B8:Nat),FP W→(w.heap.size≤B8)→(NE B8)→(Bx W B8 31 #[.int .i64 0,.int .i64 0])→X 7 (LB 17 9151) (a0.put (some 8) (.pointer (some ⟨B8,0,none⟩))) W:=by
      intro W B8 F Bf Bc B3
      rw[←HX.out,←HA.out]
      try simp only[LY]
      refine jv (i:=6) (j:=11) (k:=12) (by kernel_rfl) rfl rfl rfl  (fun K hK=>?_) (fun K hK=>?_) (fun K hK=>?_)
      ·obtain⟨hs,Bg,Bi⟩:=(HP _).1 F
       go_simp
       (with_reducible refine (dp _ l i ((i:Int)) _ (be.mono IP.kept HL.out hs) (by omega) (by omega) (by omega) (by omega) Br.out).mono ?_)
       rintro e W1 ⟨rfl,hb⟩
       replace F:=HM _ _ F hb
       replace B3:=B3.mono hb
       clear hb hs Bg Bi
       try go_wp2_with fail
       exact hK.out _ _ (HC _ F) fun _=>bf HX HA (D9.out W1 B8 F Bf Bc B3)
      ·go_simp
       refine aq ((HP _).1 F).1 (fun W1 hb B1 Bd=>?_)
       have Ba:=HE _ F
       have Bk:=Nat.ne_of_gt B3.lt
       replace F:=HM _ _ F hb
       replace B3:=B3.mono hb
       clear hb
       exact hK.out _ _ (HC _ F) fun _=>bf HX HA (Cw.out W1 W.heap.size B8 F Bd Ba B1 Bf Bc B3 Bk)
      go_simp
      refine aq ((HP _).1 F).1 (fun W1 hb B2 Be=>?_)
      have Bb:=HE _ F
      have Bl:=Nat.ne_of_gt B3.lt
      replace F:=HM _ _ F hb
      replace B3:=B3.mono hb
      clear hb
      exact hK.out _ _ (HC _ F) fun _=>bf HX HA (Cx.out W1 W.heap.size B8 F Be Bb B2 Bf Bc B3 Bl)
     replace Dm:=ae Dm
     have Dl:∀(W:World) (B7:Nat),FP W→(w.heap.size≤B7)→(NE B7)→(Bx W B7 31 #[.int .i64 0,.int .i64 0])→X 7 (LB 17 5055) (a0.put (some 7) (.pointer (some ⟨B7,0,none⟩))) W:=by
      intro W B7 F Be Bb B2
      rw[←HX.out,←HA.out]
      try simp only[LY]
      refine jv (i:=6) (j:=11) (k:=13) (by kernel_rfl) rfl rfl rfl  (fun K hK=>?_) (fun K hK=>?_) (fun K hK=>?_)
      ·obtain⟨hs,Bg,Bi⟩:=(HP _).1 F
       go_simp
       (with_reducible refine (dp _ l i ((i:Int)) _ (be.mono IP.kept HL.out hs) (by omega) (by omega) (by omega) (by omega) Br.out).mono ?_)
       rintro e W1 ⟨rfl,hb⟩
       replace F:=HM _ _ F hb
       replace B2:=B2.mono hb
       clear hb hs Bg Bi
       try go_wp2_with fail
       exact hK.out _ _ (HC _ F) fun _=>bf HX HA (D8.out W1 B7 F Be Bb B2)
      ·go_simp
       refine aq ((HP _).1 F).1 (fun W1 hb B1 Bd=>?_)
       have Ba:=HE _ F
       have Bj:=Nat.ne_of_gt B2.lt
       replace F:=HM _ _ F hb
       replace B2:=B2.mono hb
       clear hb
       exact hK.out _ _ (HC _ F) fun _=>bf HX HA (Da.out W1 W.heap.size B7 F Bd Ba B1 Be Bb B2 Bj)
      go_simp
      refine aq ((HP _).1 F).1 (fun W1 hb B3 Bf=>?_)
      have Bc:=HE _ F
      have Bl:=Nat.ne_of_lt B2.lt
      replace F:=HM _ _ F hb
      replace B2:=B2.mono hb
      clear hb
      exact hK.out _ _ (HC _ F) fun _=>bf HX HA (Cx.out W1 B7 W.heap.size F Be Bb B2 Bf Bc B3 Bl)
     replace Dl:=ae Dl
     have Dk:∀(W:World) (B6:Nat),FP W→(w.heap.size≤B6)→(NE B6)→(Bx W B6 31 #[.int .i64 0,.int .i64 0])→X 7 (LB 17 3007) (a0.put (some 6) (.pointer (some ⟨B6,0,none⟩))) W:=by
      intro W B6 F Bd Ba B1
      rw[←HX.out,←HA.out]
      try simp only[LY]
      refine jv (i:=6) (j:=12) (k:=13) (by kernel_rfl) rfl rfl rfl  (fun K hK=>?_) (fun K hK=>?_) (fun K hK=>?_)
      ·obtain⟨hs,Bg,Bi⟩:=(HP _).1 F
       go_simp
       (with_reducible refine (dp _ l i ((i:Int)) _ (be.mono IP.kept HL.out hs) (by omega) (by omega) (by omega) (by omega) Br.out).mono ?_)
       rintro e W1 ⟨rfl,hb⟩
       replace F:=HM _ _ F hb
       replace B1:=B1.mono hb
       clear hb hs Bg Bi
       try go_wp2_with fail
       exact hK.out _ _ (HC _ F) fun _=>bf HX HA (D7.out W1 B6 F Bd Ba B1)
      ·go_simp
       refine aq ((HP _).1 F).1 (fun W1 hb B2 Be=>?_)
       have Bb:=HE _ F
       have Bj:=Nat.ne_of_lt B1.lt
       replace F:=HM _ _ F hb
       replace B1:=B1.mono hb
       clear hb
       exact hK.out _ _ (HC _ F) fun _=>bf HX HA (Da.out W1 B6 W.heap.size F Bd Ba B1 Be Bb B2 Bj)
      go_simp
      refine aq ((HP _).1 F).1 (fun W1 hb B3 Bf=>?_)
      have Bc:=HE _ F
      have Bk:=Nat.ne_of_lt B1.lt
      replace F:=HM _ _ F hb
      replace B1:=B1.mono hb
      clear hb
      exact hK.out _ _ (HC _ F) fun _=>bf HX HA (Cw.out W1 B6 W.heap.size F Bd Ba B1 Bf Bc B3 Bk)
     replace Dk:=ae Dk
     have Dj:∀(W:World),FP W→X 7 (LB 17 1023) (a0.put (some 40) (.agg #[.int .i64 B4.1,.int .i64 B4.2])) W:=by
      intro W F
      rw[←HX.out,←HA.out]
      try simp only[LY]
      refine U_four (i:=10) (j:=11) (k:=12) (l:=13) (by kernel_rfl) rfl rfl rfl rfl  (fun K hK=>?_) (fun K hK=>?_) (fun K hK=>?_) (fun K hK=>?_)
      ·obtain⟨hs,Bg,Bi⟩:=(HP _).1 F
       go_simp
       (with_reducible refine (dp _ l (i + 1) ((i:Int) + 1) _ (be.mono IP.kept HL.out hs) (by omega) (by omega) (by omega) (by omega) Bz.out).mono ?_)
       rintro e W1 ⟨rfl,hb⟩
       replace F:=HM _ _ F hb
       clear hb hs Bg Bi
       try go_wp2_with fail
       exact hK.out _ _ (HC _ F) fun _=>bf HX HA (Dn.out W1 F)
      ·go_simp
       refine aq ((HP _).1 F).1 (fun W1 hb B1 Bd=>?_)
       have Ba:=HE _ F
       replace F:=HM _ _ F hb
       clear hb
       exact hK.out _ _ (HC _ F) fun _=>bf HX HA (D7.out W1 W.heap.size F Bd Ba B1)
      ·go_simp
       refine aq ((HP _).1 F).1 (fun W1 hb B2 Be=>?_)
       have Bb:=HE _ F
       replace F:=HM _ _ F hb
       clear hb
       exact hK.out _ _ (HC _ F) fun _=>bf HX HA (D8.out W1 W.heap.size F Be Bb B2)
      go_simp
      refine aq ((HP _).1 F).1 (fun W1 hb B3 Bf=>?_)
      have Bc:=HE _ F
      replace F:=HM _ _ F hb
      clear hb
      exact hK.out _ _ (HC _ F) fun _=>bf HX HA (D9.out W1 W.heap.size F Bf Bc B3)
     replace Dj:=ae Dj
     have Di:∀(W:World),FP W→X 8 (LB 17 959) a0 W:=by
      intro W F
      rw[←HX.out,←HA.out]
      try simp only[LY]
      refine U_four (i:=6) (j:=11) (k:=12) (l:=13) (by kernel_rfl) rfl rfl rfl rfl  (fun K hK=>?_) (fun K hK=>?_) (fun K hK=>?_) (fun K hK=>?_)
      ·obtain⟨hs,Bg,Bi⟩:=(HP _).1 F
       go_simp
       (with_reducible refine (dp _ l i ((i:Int)) _ (be.mono IP.kept HL.out hs) (by omega) (by omega) (by omega) (by omega) Br.out).mono ?_)
       rintro e W1 ⟨rfl,hb⟩
       replace F:=HM _ _ F hb
       clear hb hs Bg Bi
       try go_wp2_with fail
       exact hK.out _ _ (HC _ F) fun _=>bf HX HA (Dj.out W1 F)
      ·go_simp
       refine aq ((HP _).1 F).1 (fun W1 hb B1 Bd=>?_)
       have Ba:=HE _ F
       replace F:=HM _ _ F hb
       clear hb
       exact hK.out _ _ (HC _ F) fun _=>bf HX HA (Dk.out W1 W.heap.size F Bd Ba B1)
      ·go_simp
       refine aq ((HP _).1 F).1 (fun W1 hb B2 Be=>?_)
       have Bb:=HE _ F
       replace F:=HM _ _ F hb
       clear hb
       exact hK.out _ _ (HC _ F) fun _=>bf HX HA (Dl.out W1 W.heap.size F Be Bb B2)
      go_simp
      refine aq ((HP _).1 F).1 (fun W1 hb B3 Bf=>?_)
      have Bc:=HE _ F
      replace F:=HM _ _ F hb
      clear hb
      exact hK.out _ _ (HC _ F) fun _=>bf HX HA (Dm.out W1 W.heap.size F Bf Bc B3)
     replace Di:=ae Di
     rw[←HX.out]
     have B0:=Di.out Bs F
     rw[←HX.out] at B0
     exact U_at (by kernel_rfl) (by kernel_rfl) B0
    case rest=>
     clear hs Bg Bi
     obtain⟨ga,gb,gc,rfl,rfl,rfl,hg_a,hg_b,hg_c,ng_a_b,ng_a_c,ng_b_c,B1,B2,B3,hs⟩:=hcut
     refine B1.k2l fun Bm Bn La=>?_
     refine B2.k2l fun Bo Bp Lb=>?_
     refine B3.k2l fun Cs Ct Lc=>?_
     go_wp2_with fail
     clear Bm Bn Bo Bp Cs Ct La Lb Lc
     with_reducible refine (kn B9 B4 Bh _ C6 Bt Ci).mono ?_
     rintro e Bs ⟨rfl,hb⟩
     revert B3;revert B2;revert B1;refine mS hs hb ?_;clear hs hb;intro hs B1 B2 B3
     obtain⟨Df,Cr⟩:∃s:Int,s=tnZ B9 B4 Bh:=⟨_,rfl⟩
     rw[←Cr]
     replace Cr:=ae Cr
     by_cases q10:Df=0
     ·have q10b:(Df == 0)=true:=beq_iff_eq.2 (by omega)
      have q10n:(Df != 0)=false:=bne_eq_false_iff_eq.2 (by omega)
      have Db:=ae q10
      clear q10
      have AX11:IntKind.i64.wrap (B9.1 - B4.1)=B9.1 - B4.1:=Wn.wsub C6.1 Bt.1 (by decide)
      have AX12:IntKind.i64.wrap (Bh.1 - B4.1)=Bh.1 - B4.1:=Wn.wsub Ci.1 Bt.1 (by decide)
      have AX13:IntKind.i64.wrap ((B9.1 - B4.1) * (Bh.1 - B4.1))=(B9.1 - B4.1) * (Bh.1 - B4.1):=Wn.wmul (Wn.sub C6.1 Bt.1) (Wn.sub Ci.1 Bt.1) (by decide)
      have AX14:IntKind.i64.wrap (B9.2 - B4.2)=B9.2 - B4.2:=Wn.wsub C6.2 Bt.2 (by decide)
      have AX15:IntKind.i64.wrap (Bh.2 - B4.2)=Bh.2 - B4.2:=Wn.wsub Ci.2 Bt.2 (by decide)
      have AX16:IntKind.i64.wrap ((B9.2 - B4.2) * (Bh.2 - B4.2))=(B9.2 - B4.2) * (Bh.2 - B4.2):=Wn.wmul (Wn.sub C6.2 Bt.2) (Wn.sub Ci.2 Bt.2) (by decide)
      have AX17:IntKind.i64.wrap ((B9.1 - B4.1) * (Bh.1 - B4.1) + (B9.2 - B4.2) * (Bh.2 - B4.2))=(B9.1 - B4.1) * (Bh.1 - B4.1) + (B9.2 - B4.2) * (Bh.2 - B4.2):=Wn.wadd (Wn.mul (Wn.sub C6.1 Bt.1) (Wn.sub Ci.1 Bt.1)) (Wn.mul (Wn.sub C6.2 Bt.2) (Wn.sub Ci.2 Bt.2)) (by decide)
      by_cases q18:0≤(B9.1 - B4.1) * (Bh.1 - B4.1) + (B9.2 - B4.2) * (Bh.2 - B4.2)
      ·have q18d:((0:Int)≤(B9.1 - B4.1) * (Bh.1 - B4.1) + (B9.2 - B4.2) * (Bh.2 - B4.2))=True:=eq_true (by omega)
       have C0:=ae (show rl l=20 from val_fold (by omega) (by omega) C7.out (by omega) (show sw l i=true from by unfold sw;rw[show ptZ l i=B9 from C1.out.symm,show ptZ l ((i + 1) % l.length)=B4 from Br.out.symm,show ptZ l ((i + 1 + 1) % l.length)=Bh from Bz.out.symm,decide_eq_true (show (tnZ B9 B4 Bh=0) from by rw[←Cr.out];exact Db.out),decide_eq_true (show (0≤dtZ (mnZ B9 B4) (mnZ Bh B4)) from by show (0≤(B9.1 - B4.1) * (Bh.1 - B4.1) + (B9.2 - B4.2) * (Bh.2 - B4.2));omega)];rfl))
       refine B1.k2l fun Bm Bn La=>?_
       refine B2.k2l fun Bo Bp Lb=>?_
       refine B3.k2l fun Cs Ct Lc=>?_
       go_wp2
       clear Bm Bn Bo Bp Cs Ct La Lb Lc
       go_ret
       exact⟨by rw[C0.out];rfl,hs⟩
      have q18d:((0:Int)≤(B9.1 - B4.1) * (Bh.1 - B4.1) + (B9.2 - B4.2) * (Bh.2 - B4.2))=False:=eq_false (by omega)
      have HF:=ae (show sw l i=false from by unfold sw;rw[show ptZ l i=B9 from C1.out.symm,show ptZ l ((i + 1) % l.length)=B4 from Br.out.symm,show ptZ l ((i + 1 + 1) % l.length)=Bh from Bz.out.symm,decide_eq_true (show (tnZ B9 B4 Bh=0) from by rw[←Cr.out];exact Db.out),decide_eq_false (show ¬ (0≤dtZ (mnZ B9 B4) (mnZ Bh B4)) from by show ¬ (0≤(B9.1 - B4.1) * (Bh.1 - B4.1) + (B9.2 - B4.2) * (Bh.2 - B4.2));omega)];rfl)
      have AX19:IntKind.i64.wrap ((i:Int) + 2)=(i:Int) + 2:=IntWalk.i64_in _ (by omega)
      refine B1.k2l fun Bm Bn La=>?_
      refine B2.k2l fun Bo Bp Lb=>?_
      refine B3.k2l fun Cs Ct Lc=>?_
      go_wp2
      clear Bm Bn Bo Bp Cs Ct La Lb Lc
      go_loopw [9] (fun s9 wq=>∃k:Nat,(i + 2)≤k∧k≤(l.length + 1)∧s9=.int .i64 k∧Below w.heap.size w wq∧Bx wq (ga) 31 #[.int .i64 B9.1,.int .i64 B9.2]∧Bx wq (gb) 31 #[.int .i64 B4.1,.int .i64 B4.2]∧Bx wq (gc) 31 #[.int .i64 Bh.1,.int .i64 Bh.2]∧(∀j,j < k→kr l i j=false)) (fun s9 _=>(l.length + 1) - (intOf s9).toNat)
      case atStart=>exact⟨(i + 2),ag _,by omega,by first|rfl|(congr 1;omega)|simp,hs,B1,B2,B3,(fun j h=>pair_lo h)⟩
      case round=>
       clear B1 B2 B3 hs
       obtain⟨k,k_ge,Dh,rfl,hs,B1,B2,B3,HP⟩:=hrel
       obtain⟨Cq,D5⟩:∃x,x=wr:=⟨_,rfl⟩
       subst D5
       replace HP:=ae HP
       by_cases q20:k < l.length
       ·have q20d:((k:Int) < (l.length:Int))=True:=eq_true (by omega)
        obtain⟨Cv,Cb⟩:∃z:Pt,z=ptZ l ((k + 1) % l.length):=⟨_,rfl⟩
        have Dt:WP 1048576 Cv:=by rw[Cb];exact jm (C7.out _ (Nat.mod_lt _ (by omega)))
        replace Cb:=ae Cb
        go_upto_region 18 with fail
        have AX22:IntKind.i64.wrap ((k:Int) + 1)=(k:Int) + 1:=IntWalk.i64_in _ (by omega)
        obtain⟨Ch,C9⟩:∃z:Nat,z=(k + 1) % l.length:=⟨_,rfl⟩
        have Dr:Ch < l.length:=by rw[C9];exact Nat.mod_lt _ (by omega)
        have AX23:Int.tmod ((k:Int) + 1) (l.length:Int)=(Ch:Int):=by rw[C9,show ((k:Int) + 1:Int)=((k:Nat):Int) + 1 from by omega];exact xm _ _
        have AX23b:IntKind.i64.wrap (Ch:Int)=(Ch:Int):=IntWalk.i64_in _ (by omega)
        have AX23e:((k:Int) + 1) % (l.length:Int)=(Ch:Int):=by rw[C9];simp
        have AX23z:((l.length:Int)=0)=False:=eq_false (by omega)
        have AX23c:(l=[])=False:=eq_false (fun e=>by rw[e] at Dr;exact absurd Dr (by simp))
        replace C9:=ae C9
        by_cases q25:Ch=i
        ·have q25b:((Ch:Int) == (i:Int))=true:=beq_iff_eq.2 (by omega)
         have q25n:((Ch:Int) != (i:Int))=false:=bne_eq_false_iff_eq.2 (by omega)
         have Dd:=ae q25
         clear q25
         refine bw (S:=fun w'=>True) (by kernel_rfl) 18 ?_
         refine cq.abs ?_
         intro Bq hW
         have hb:Below Cq.heap.size Cq Bq:=by rw[hW];exact de _
         replace hs:=ar hs hb
         revert B3;revert B2;revert B1;refine mo hb ?_;intro B1 B2 B3
         clear hb hW
         have hH:=(show True from True.intro)
         refine U_tq 0 83 hH ?_
         refine U_tq 1 84 hH ?_
         refine U_tq 2 85 hH ?_
         refine U_tq 3 86 hH ?_
         refine U_tq 4 87 hH ?_
         refine U_tq 5 88 hH ?_
         refine U_tq 6 89 hH ?_
         refine ff 7 90 hH ?_
         simp only[LY]
         refine ff 8 91 hH ?_
         simp only[LY]
         refine ff 9 92 hH ?_
         simp only[LY]
         refine ff 10 93 hH ?_
         simp only[LY]
         refine ff 11 94 hH ?_
         simp only[LY]
         refine ff 12 95 hH ?_
         simp only[LY]
         refine ff 13 96 hH ?_
         simp only[LY]
         refine ff 14 97 hH ?_
         simp only[LY]
         clear hH
         refine U_on 15 fun K hK=>?_
         go_simp
         refine hK.out _ _ True.intro (fun hH=>?_)
         clear hK K
         try simp only[LY]
         clear hH
         refine U_on 16 fun K hK=>?_
         go_simp
         refine hK.out _ _ True.intro (fun hH=>?_)
         clear hK K
         try simp only[LY]
         refine U_tq 17 100 hH ?_
         clear hH
         refine im (by kernel_rfl) ?_
         have AX26:IntKind.i64.wrap ((k:Int) + 1)=(k:Int) + 1:=IntWalk.i64_in _ (by omega)
         go_wp2
         go_roundw
         case rel=>exact⟨k + 1,by omega,by omega,by go_num,hs,B1,B2,B3,(fun j h=>(Nat.lt_or_eq_of_le (Nat.le_of_lt_succ h)).elim (fun e=>HP.out j e) (fun e=>by rw[e];exact (pair_nx (by rw[←C9.out];have h:=Dd.out;omega))))⟩
         all_goals first|(simp[intOf];done)|(simp[intOf];omega)
        have q25b:((Ch:Int) == (i:Int))=false:=beq_eq_false_iff_ne.2 (by omega)
        have q25n:((Ch:Int) != (i:Int))=true:=bne_iff_ne.2 (by omega)
        have Dd:=ae q25
        clear q25
        obtain⟨Bw,By,le26⟩:=ij (be.mono IP.kept HL.out hs) (show k < l.length by omega)
        obtain⟨C4,Cd⟩:∃z:Pt,z=ptZ l k:=⟨_,rfl⟩
        rw[←Cd] at Bw By
        have Dv:WP 1048576 C4:=by rw[Cd];exact (jm (C7.out k (by omega)))
        replace Cd:=ae Cd
        obtain⟨b27,D4⟩:∃zz:Bool,zz=mtZ B9 B4 C4 Cv:=⟨_,rfl⟩
        replace D4:=ae D4
        refine bw (S:=fun w'=>w'.cell? ⟨ga,0,none⟩=some (.int .i64 B9.1)∧w'.cell? ⟨ga,1,none⟩=some (.int .i64 B9.2)∧w'.cell? ⟨gb,0,none⟩=some (.int .i64 B4.1)∧w'.cell? ⟨gb,1,none⟩=some (.int .i64 B4.2)∧w'.cell? ⟨bb,oo + k * 2,none⟩=some (.int .i64 C4.1)∧w'.cell? ⟨bb,oo + k * 2 + 1,none⟩=some (.int .i64 C4.2)) (by kernel_rfl) 18 ?_
        refine cq.abs ?_
        intro Bq hW
        have hb:Below Cq.heap.size Cq Bq:=by rw[hW];exact de _
        replace hs:=ar hs hb
        revert B3;revert B2;revert B1;refine mo hb ?_;intro B1 B2 B3
        replace Bw:=ah Bw hb
        replace By:=ah By hb
        clear hb hW
        refine B1.k2 fun Bm Bn=>?_
        refine B2.k2 fun Bo Bp=>?_
        have hH:=(show Bq.cell? ⟨ga,0,none⟩=some (.int .i64 B9.1)∧Bq.cell? ⟨ga,1,none⟩=some (.int .i64 B9.2)∧Bq.cell? ⟨gb,0,none⟩=some (.int .i64 B4.1)∧Bq.cell? ⟨gb,1,none⟩=some (.int .i64 B4.2)∧Bq.cell? ⟨bb,oo + k * 2,none⟩=some (.int .i64 C4.1)∧Bq.cell? ⟨bb,oo + k * 2 + 1,none⟩=some (.int .i64 C4.2) from ⟨Bm,Bn,Bo,Bp,Bw,By⟩)
        refine U_tq 0 83 hH ?_
        refine U_tq 1 84 hH ?_
        refine U_tq 2 85 hH ?_
        refine U_tq 3 86 hH ?_
        refine U_tq 4 87 hH ?_
        refine U_tq 5 88 hH ?_
        refine U_tq 6 89 hH ?_
        refine U_tq 7 90 hH ?_
        refine U_tq 8 91 hH ?_
        refine U_tq 9 92 hH ?_
        refine U_tq 10 93 hH ?_
        refine U_tq 11 94 hH ?_
        refine U_tq 12 95 hH ?_
        refine U_tq 13 96 hH ?_
        refine U_tq 14 97 hH ?_
        clear hH
        refine U_on 15 fun K hK=>?_
        go_simp
        (with_reducible refine (dp _ l k ((k:Int)) _ (be.mono IP.kept HL.out hs) (by omega) (by omega) (by omega) (by omega) Cb.out).mono ?_)
        rintro e w63 ⟨rfl,hb⟩
        replace hs:=ar hs hb
        revert B1 B2 B3;refine mo hb ?_;intro B1 B2 B3
        replace Bm:=ah Bm hb
        replace Bn:=ah Bn hb
        replace Bo:=ah Bo hb
        replace Bp:=ah Bp hb
        replace Bw:=ah Bw hb
        replace By:=ah By hb
        clear hb
        try go_wp2_with fail
        refine hK.out _ _ ⟨Bm,Bn,Bo,Bp,Bw,By⟩ (fun hH=>?_)
        clear hK K
        try simp only[LY]
        clear hH
        refine U_on 16 fun K hK=>?_
        go_simp
        (with_reducible refine (r2_meet B9 B4 C4 Cv _ C6 Bt Dv Dt).mono ?_)
        rintro e w64 ⟨rfl,hb⟩
        replace hs:=ar hs hb
        revert B1 B2 B3;refine mo hb ?_;intro B1 B2 B3
        replace Bm:=ah Bm hb
        replace Bn:=ah Bn hb
        replace Bo:=ah Bo hb
        replace Bp:=ah Bp hb
        replace Bw:=ah Bw hb
        replace By:=ah By hb
        clear hb
        rw[←D4.out]
        try go_wp2_with fail
        refine hK.out _ _ ⟨Bm,Bn,Bo,Bp,Bw,By⟩ (fun hH=>?_)
        clear hK K
        try simp only[LY]
        refine U_tq 17 100 hH ?_
        clear hH
        refine im (by kernel_rfl) ?_
        clear Bm Bn Bo Bp Bw By
        by_cases q28:mtZ B9 B4 C4 Cv=true
        ·obtain rfl:b27=true:=by rw[D4.out];exact q28
         have Dp:=ae q28
         clear q28
         have C0:=ae (show rl l=20 from val_pair (by omega) (by omega) C7.out (by omega) (by omega) (show kr l i k=true from by rw[ja7 (by omega) (by rw[←C9.out];have h:=Dd.out;omega),show ptZ l i=B9 from C1.out.symm,show ptZ l ((i + 1) % l.length)=B4 from Br.out.symm,show ptZ l k=C4 from Cd.out.symm,show ptZ l ((k + 1) % l.length)=Cv from Cb.out.symm];exact Dp.out))
         go_wp2
         clear le26
         go_ret
         exact⟨by rw[C0.out];rfl,hs⟩
        obtain rfl:b27=false:=by rw[D4.out];simpa using q28
        have Dp:=ae q28
        clear q28
        have AX29:IntKind.i64.wrap ((k:Int) + 1)=(k:Int) + 1:=IntWalk.i64_in _ (by omega)
        go_wp2
        go_roundw
        case rel=>exact⟨k + 1,by omega,by omega,by go_num,hs,B1,B2,B3,(fun j h=>(Nat.lt_or_eq_of_le (Nat.le_of_lt_succ h)).elim (fun e=>HP.out j e) (fun e=>by rw[e];exact (show kr l i k=false from by rw[ja7 (by omega) (by rw[←C9.out];have h:=Dd.out;omega),show ptZ l i=B9 from C1.out.symm,show ptZ l ((i + 1) % l.length)=B4 from Br.out.symm,show ptZ l k=C4 from Cd.out.symm,show ptZ l ((k + 1) % l.length)=Cv from Cb.out.symm];exact Bool.eq_false_iff.2 Dp.out)))⟩
        all_goals first|(simp[intOf];done)|(simp[intOf];omega)
       have q20d:((k:Int) < (l.length:Int))=False:=eq_false (by omega)
       have AX21:IntKind.i64.wrap ((i:Int) + 1)=(i:Int) + 1:=IntWalk.i64_in _ (by omega)
       go_wp2
       go_roundw
       case rel=>exact⟨i + 1,by omega,by go_num,hs,(fun j h=>(Nat.lt_or_eq_of_le (Nat.le_of_lt_succ h)).elim (fun e=>HB.out j e) (fun e=>by rw[e];exact bad_nr (by omega) HF.out HP.out))⟩
       all_goals first|(simp[intOf];done)|(simp[intOf];omega)
     have q10b:(Df == 0)=false:=beq_eq_false_iff_ne.2 (by omega)
     have q10n:(Df != 0)=true:=bne_iff_ne.2 (by omega)
     have Db:=ae q10
     clear q10
     have HF:=ae (show sw l i=false from by unfold sw;rw[show ptZ l i=B9 from C1.out.symm,show ptZ l ((i + 1) % l.length)=B4 from Br.out.symm,show ptZ l ((i + 1 + 1) % l.length)=Bh from Bz.out.symm,decide_eq_false (show ¬ (tnZ B9 B4 Bh=0) from by rw[←Cr.out];exact Db.out)];rfl)
     have AX11:IntKind.i64.wrap ((i:Int) + 2)=(i:Int) + 2:=IntWalk.i64_in _ (by omega)
     go_wp2
     go_loopw [9] (fun s9 wq=>∃k:Nat,(i + 2)≤k∧k≤(l.length + 1)∧s9=.int .i64 k∧Below w.heap.size w wq∧Bx wq (ga) 31 #[.int .i64 B9.1,.int .i64 B9.2]∧Bx wq (gb) 31 #[.int .i64 B4.1,.int .i64 B4.2]∧Bx wq (gc) 31 #[.int .i64 Bh.1,.int .i64 Bh.2]∧(∀j,j < k→kr l i j=false)) (fun s9 _=>(l.length + 1) - (intOf s9).toNat)
     case atStart=>exact⟨(i + 2),ag _,by omega,by first|rfl|(congr 1;omega)|simp,hs,B1,B2,B3,(fun j h=>pair_lo h)⟩
     case round=>
      clear B1 B2 B3 hs
      obtain⟨k,k_ge,Dh,rfl,hs,B1,B2,B3,HP⟩:=hrel
      obtain⟨Cq,D5⟩:∃x,x=wr:=⟨_,rfl⟩
      subst D5
      replace HP:=ae HP
      by_cases q12:k < l.length
      ·have q12d:((k:Int) < (l.length:Int))=True:=eq_true (by omega)
       obtain⟨Cu,Ca⟩:∃z:Pt,z=ptZ l ((k + 1) % l.length):=⟨_,rfl⟩
       have Ds:WP 1048576 Cu:=by rw[Ca];exact jm (C7.out _ (Nat.mod_lt _ (by omega)))
       replace Ca:=ae Ca
       go_upto_region 18 with fail
       have AX14:IntKind.i64.wrap ((k:Int) + 1)=(k:Int) + 1:=IntWalk.i64_in _ (by omega)
       obtain⟨Cg,C8⟩:∃z:Nat,z=(k + 1) % l.length:=⟨_,rfl⟩
       have Dq:Cg < l.length:=by rw[C8];exact Nat.mod_lt _ (by omega)
       have AX15:Int.tmod ((k:Int) + 1) (l.length:Int)=(Cg:Int):=by rw[C8,show ((k:Int) + 1:Int)=((k:Nat):Int) + 1 from by omega];exact xm _ _
       have AX15b:IntKind.i64.wrap (Cg:Int)=(Cg:Int):=IntWalk.i64_in _ (by omega)
       have AX15e:((k:Int) + 1) % (l.length:Int)=(Cg:Int):=by rw[C8];simp
       have AX15z:((l.length:Int)=0)=False:=eq_false (by omega)
       have AX15c:(l=[])=False:=eq_false (fun e=>by rw[e] at Dq;exact absurd Dq (by simp))
       replace C8:=ae C8
       by_cases q17:Cg=i
       ·have q17b:((Cg:Int) == (i:Int))=true:=beq_iff_eq.2 (by omega)
        have q17n:((Cg:Int) != (i:Int))=false:=bne_eq_false_iff_eq.2 (by omega)
        have Dc:=ae q17
        clear q17
        refine bw (S:=fun w'=>True) (by kernel_rfl) 18 ?_
        refine cq.abs ?_
        intro Bq hW
        have hb:Below Cq.heap.size Cq Bq:=by rw[hW];exact de _
        replace hs:=ar hs hb
        revert B3;revert B2;revert B1;refine mo hb ?_;intro B1 B2 B3
        clear hb hW
        have hH:=(show True from True.intro)
        refine U_tq 0 83 hH ?_
        refine U_tq 1 84 hH ?_
        refine U_tq 2 85 hH ?_
        refine U_tq 3 86 hH ?_
        refine U_tq 4 87 hH ?_
        refine U_tq 5 88 hH ?_
        refine U_tq 6 89 hH ?_
        refine ff 7 90 hH ?_
        simp only[LY]
        refine ff 8 91 hH ?_
        simp only[LY]
        refine ff 9 92 hH ?_
        simp only[LY]
        refine ff 10 93 hH ?_
        simp only[LY]
        refine ff 11 94 hH ?_
        simp only[LY]
        refine ff 12 95 hH ?_
        simp only[LY]
        refine ff 13 96 hH ?_
        simp only[LY]
        refine ff 14 97 hH ?_
        simp only[LY]
        clear hH
        refine U_on 15 fun K hK=>?_
        go_simp
        refine hK.out _ _ True.intro (fun hH=>?_)
        clear hK K
        try simp only[LY]
        clear hH
        refine U_on 16 fun K hK=>?_
        go_simp
        refine hK.out _ _ True.intro (fun hH=>?_)
        clear hK K
        try simp only[LY]
        refine U_tq 17 100 hH ?_
        clear hH
        refine im (by kernel_rfl) ?_
        have AX18:IntKind.i64.wrap ((k:Int) + 1)=(k:Int) + 1:=IntWalk.i64_in _ (by omega)
        go_wp2
        go_roundw
        case rel=>exact⟨k + 1,by omega,by omega,by go_num,hs,B1,B2,B3,(fun j h=>(Nat.lt_or_eq_of_le (Nat.le_of_lt_succ h)).elim (fun e=>HP.out j e) (fun e=>by rw[e];exact (pair_nx (by rw[←C8.out];have h:=Dc.out;omega))))⟩
        all_goals first|(simp[intOf];done)|(simp[intOf];omega)
       have q17b:((Cg:Int) == (i:Int))=false:=beq_eq_false_iff_ne.2 (by omega)
       have q17n:((Cg:Int) != (i:Int))=true:=bne_iff_ne.2 (by omega)
       have Dc:=ae q17
       clear q17
       obtain⟨Bu,Bv,le18⟩:=ij (be.mono IP.kept HL.out hs) (show k < l.length by omega)
       obtain⟨C3,Cc⟩:∃z:Pt,z=ptZ l k:=⟨_,rfl⟩
       rw[←Cc] at Bu Bv
       have Du:WP 1048576 C3:=by rw[Cc];exact (jm (C7.out k (by omega)))
       replace Cc:=ae Cc
       obtain⟨b19,D3⟩:∃zz:Bool,zz=mtZ B9 B4 C3 Cu:=⟨_,rfl⟩
       replace D3:=ae D3
       refine bw (S:=fun w'=>w'.cell? ⟨ga,0,none⟩=some (.int .i64 B9.1)∧w'.cell? ⟨ga,1,none⟩=some (.int .i64 B9.2)∧w'.cell? ⟨gb,0,none⟩=some (.int .i64 B4.1)∧w'.cell? ⟨gb,1,none⟩=some (.int .i64 B4.2)∧w'.cell? ⟨bb,oo + k * 2,none⟩=some (.int .i64 C3.1)∧w'.cell? ⟨bb,oo + k * 2 + 1,none⟩=some (.int .i64 C3.2)) (by kernel_rfl) 18 ?_
       refine cq.abs ?_
       intro Bq hW
       have hb:Below Cq.heap.size Cq Bq:=by rw[hW];exact de _
       replace hs:=ar hs hb
       revert B3;revert B2;revert B1;refine mo hb ?_;intro B1 B2 B3
       replace Bu:=ah Bu hb
       replace Bv:=ah Bv hb
       clear hb hW
       refine B1.k2 fun Bm Bn=>?_
       refine B2.k2 fun Bo Bp=>?_
       have hH:=(show Bq.cell? ⟨ga,0,none⟩=some (.int .i64 B9.1)∧Bq.cell? ⟨ga,1,none⟩=some (.int .i64 B9.2)∧Bq.cell? ⟨gb,0,none⟩=some (.int .i64 B4.1)∧Bq.cell? ⟨gb,1,none⟩=some (.int .i64 B4.2)∧Bq.cell? ⟨bb,oo + k * 2,none⟩=some (.int .i64 C3.1)∧Bq.cell? ⟨bb,oo + k * 2 + 1,none⟩=some (.int .i64 C3.2) from ⟨Bm,Bn,Bo,Bp,Bu,Bv⟩)
       refine U_tq 0 83 hH ?_
       refine U_tq 1 84 hH ?_
       refine U_tq 2 85 hH ?_
       refine U_tq 3 86 hH ?_
       refine U_tq 4 87 hH ?_
       refine U_tq 5 88 hH ?_
       refine U_tq 6 89 hH ?_
       refine U_tq 7 90 hH ?_
       refine U_tq 8 91 hH ?_
       refine U_tq 9 92 hH ?_
       refine U_tq 10 93 hH ?_
       refine U_tq 11 94 hH ?_
       refine U_tq 12 95 hH ?_
       refine U_tq 13 96 hH ?_
       refine U_tq 14 97 hH ?_
       clear hH
       refine U_on 15 fun K hK=>?_
       go_simp
       (with_reducible refine (dp _ l k ((k:Int)) _ (be.mono IP.kept HL.out hs) (by omega) (by omega) (by omega) (by omega) Ca.out).mono ?_)
       rintro e w63 ⟨rfl,hb⟩
       replace hs:=ar hs hb
       revert B1 B2 B3;refine mo hb ?_;intro B1 B2 B3
       replace Bm:=ah Bm hb
       replace Bn:=ah Bn hb
       replace Bo:=ah Bo hb
       replace Bp:=ah Bp hb
       replace Bu:=ah Bu hb
       replace Bv:=ah Bv hb
       clear hb
       try go_wp2_with fail
       refine hK.out _ _ ⟨Bm,Bn,Bo,Bp,Bu,Bv⟩ (fun hH=>?_)
       clear hK K
       try simp only[LY]
       clear hH
       refine U_on 16 fun K hK=>?_
       go_simp
       (with_reducible refine (r2_meet B9 B4 C3 Cu _ C6 Bt Du Ds).mono ?_)
       rintro e w64 ⟨rfl,hb⟩
       replace hs:=ar hs hb
       revert B1 B2 B3;refine mo hb ?_;intro B1 B2 B3
       replace Bm:=ah Bm hb
       replace Bn:=ah Bn hb
       replace Bo:=ah Bo hb
       replace Bp:=ah Bp hb
       replace Bu:=ah Bu hb
       replace Bv:=ah Bv hb
       clear hb
       rw[←D3.out]
       try go_wp2_with fail
       refine hK.out _ _ ⟨Bm,Bn,Bo,Bp,Bu,Bv⟩ (fun hH=>?_)
       clear hK K
       try simp only[LY]
       refine U_tq 17 100 hH ?_
       clear hH
       refine im (by kernel_rfl) ?_
       clear Bm Bn Bo Bp Bu Bv
       by_cases q20:mtZ B9 B4 C3 Cu=true
       ·obtain rfl:b19=true:=by rw[D3.out];exact q20
        have Do:=ae q20
        clear q20
        have C0:=ae (show rl l=20 from val_pair (by omega) (by omega) C7.out (by omega) (by omega) (show kr l i k=true from by rw[ja7 (by omega) (by rw[←C8.out];have h:=Dc.out;omega),show ptZ l i=B9 from C1.out.symm,show ptZ l ((i + 1) % l.length)=B4 from Br.out.symm,show ptZ l k=C3 from Cc.out.symm,show ptZ l ((k + 1) % l.length)=Cu from Ca.out.symm];exact Do.out))
        go_wp2
        clear le18
        go_ret
        exact⟨by rw[C0.out];rfl,hs⟩
       obtain rfl:b19=false:=by rw[D3.out];simpa using q20
       have Do:=ae q20
       clear q20
       have AX21:IntKind.i64.wrap ((k:Int) + 1)=(k:Int) + 1:=IntWalk.i64_in _ (by omega)
       go_wp2
       go_roundw
       case rel=>exact⟨k + 1,by omega,by omega,by go_num,hs,B1,B2,B3,(fun j h=>(Nat.lt_or_eq_of_le (Nat.le_of_lt_succ h)).elim (fun e=>HP.out j e) (fun e=>by rw[e];exact (show kr l i k=false from by rw[ja7 (by omega) (by rw[←C8.out];have h:=Dc.out;omega),show ptZ l i=B9 from C1.out.symm,show ptZ l ((i + 1) % l.length)=B4 from Br.out.symm,show ptZ l k=C3 from Cc.out.symm,show ptZ l ((k + 1) % l.length)=Cu from Ca.out.symm];exact Bool.eq_false_iff.2 Do.out)))⟩
       all_goals first|(simp[intOf];done)|(simp[intOf];omega)
      have q12d:((k:Int) < (l.length:Int))=False:=eq_false (by omega)
      have AX13:IntKind.i64.wrap ((i:Int) + 1)=(i:Int) + 1:=IntWalk.i64_in _ (by omega)
      go_wp2
      go_roundw
      case rel=>exact⟨i + 1,by omega,by go_num,hs,(fun j h=>(Nat.lt_or_eq_of_le (Nat.le_of_lt_succ h)).elim (fun e=>HB.out j e) (fun e=>by rw[e];exact bad_nr (by omega) HF.out HP.out))⟩
      all_goals first|(simp[intOf];done)|(simp[intOf];omega)
   have q4d:((i:Int) < (l.length:Int))=False:=eq_false (by omega)
   have C0:=ae (show rl l=0 from val_good (by omega) (by omega) C7.out (by omega) HB.out)
   go_wp2
   go_ret
   exact⟨by rw[C0.out];rfl,hs⟩
end Go.Proofs.YtbnomdlojmgigaaGreat
