/-
  plane: the numbers between which no edges cross or end.
-/
import Derived.Test.YtidmjdmmpajooaaGreatPkV29N
import Derived.Test.YtidmjdmmpajooaaGreatCmp1N
import Derived.Test.YtidmjdmmpajooaaGreatPlHN
set_option linter.unusedSimpArgs false
set_option linter.unusedVariables false
set_option maxRecDepth 100000
set_option maxHeartbeats 16000000
namespace Go.Proofs.YtidmjdmmpajooaaGreat
open Go.RowKit Dg
attribute [local go_sem ↓] Go.wp_at_zero Go.wp_at_succ
theorem tz (P:List (List Edg)) (i b:Nat):lsZ (P.drop i) b=lsZ P (i + b):=by
 unfold lsZ
 rw[List.getD_eq_getElem?_getD,List.getD_eq_getElem?_getD,List.getElem?_drop]
theorem ed_ok {P:List (List Edg)} (h:∀p∈P,∀e∈p,my e) {i k:Nat} (hi:i < P.length) (hk:k < (lsZ P i).length):my ((edZ (lsZ P i) k).1,(edZ (lsZ P i) k).2):=
 my.at (h _ (List.mem_of_getElem? (qy hi))) hk
theorem jf1 {w W:World} {b o n c:Nat} {P:List (List Edg)} (h:be 1 (LRI 4 IE) w (.slice (some ⟨b,o,none⟩) n c) P) (hs:Below w.heap.size w W) {i:Nat} (hi:i < P.length):
  ∃a k,W.cell? ⟨b,o + i,none⟩=some (.slice a (lsZ P i).length k)∧(lsZ P i).length≤k∧k≤9223372036854775807∧Bxs w (.slice a (lsZ P i).length k) (lsZ P i):=by
 obtain⟨a,k,h1,h2,h3,h4,_⟩:=rowLI_at h (qy hi)
 exact⟨a,k,ah h1 hs,h2,h3,h4⟩
theorem slb_szs {P:List (List Edg)} (hE:∀p∈P,∀e∈p,my e):∀y∈qr P,SzQ 7 y:=by
 induction P with
 | nil=>intro y hy;cases hy
 | cons p r ih=>
  intro y hy
  rw[show qr (p ::r)=p.flatMap (fun e=>seL e r) ++ qr r from rfl,List.mem_append] at hy
  rcases hy with hy|hy
  ·obtain⟨e,he,hy⟩:=List.mem_flatMap.1 hy
   have ke:=hE p (List.mem_cons_self ..) e he
   unfold seL at hy
   rcases List.mem_append.1 hy with hy|hy
   ·rcases List.mem_cons.1 hy with rfl|hy
    ·exact (szN (ke.1.1.mono (by decide))).mono (by decide)
    rw[List.mem_singleton] at hy;subst hy;exact (szN (ke.2.1.1.mono (by decide))).mono (by decide)
   obtain⟨q,hq,hy⟩:=List.mem_flatMap.1 hy
   unfold crL at hy
   obtain⟨f,hf,hy⟩:=List.mem_flatMap.1 hy
   split at hy
   ·rename_i hb
    rw[List.mem_singleton] at hy;subst hy
    have kf:=hE q (List.mem_cons_of_mem _ hq) f hf
    refine crX_sz (a:=e.1) (b:=e.2) (c:=f.1) (d:=f.2) ke.1 ke.2.1 kf.1 kf.2.1 (fun h0=>?_)
    rw[cr_f0 (e:=e) (f:=f) h0] at hb
    cases hb
   cases hy
  exact ih (fun p hp=>hE p (List.mem_cons_of_mem _ hp)) y hy
theorem pl_slabs (v:Value) (P:List (List Edg)) (w:World) (hl:be 1 (LRI 4 IE) w v P) (h1:0 < P.length) (hT:jt P≤24) (hn:P.length≤1000) (hE:∀p∈P,∀e∈p,my e):
  Calls Tryz.prog 98 #[v] w (Ret1 (fun w v=>Rows 3 37 PC w v (xsQ P)) w):=by
 obtain⟨pb,po,cap,rfl,hc1,hc2⟩:=ep hl h1
 have hs:=Below.refl w.heap.size w
 have HL:=ae hl
 have HE:=ae hE
 have HT:=ae hT
 clear hl hE
 obtain⟨j0,hj,hy0,hy1,hy2⟩:=info_parts ratP_info
 go_enter Tryz.func98,Tryz.ntmps98
 go_wp2
 go_loopw [3,16] (fun s3 s16 wq=>∃i:Nat,i≤P.length∧s16=.int .i64 i∧Below w.heap.size w wq∧cw w.heap.size 37 3 PC wq s3 (sb1 P i)) (fun s3 s16 _=>P.length - (intOf s16).toNat)
 case atStart=>exact⟨0,Nat.zero_le _,rfl,hs,cw.nil _ _ _ _ _⟩
 case round=>
  clear hs
  obtain⟨i,Cu,rfl,hs,B0⟩:=hrel
  obtain⟨wl0,Bv⟩:∃x,x=wr:=⟨_,rfl⟩
  subst Bv
  by_cases q1:i < P.length
  ·have q1d:((i:Int) < (P.length:Int))=True:=eq_true (by omega)
   obtain⟨ae2,ke2,Dh,le2a,le2b,D0⟩:=jf1 HL.out hs (show i < P.length by omega)
   replace D0:=ae D0
   go_wp2
   clear Dh
   go_loopw [3,23] (fun s3 s23 wq=>∃a:Nat,a≤(lsZ P i).length∧s23=.int .i64 a∧Below w.heap.size w wq∧cw w.heap.size 37 3 PC wq s3 (sb2 P i a)) (fun s3 s23 _=>(lsZ P i).length - (intOf s23).toNat)
   case atStart=>exact⟨0,Nat.zero_le _,rfl,hs,(by rw[sb2_zero];exact B0)⟩
   case round=>
    clear hs B0
    obtain⟨a,Cu,rfl,hs,B0⟩:=hrel
    obtain⟨B4,Bv⟩:∃x,x=wr:=⟨_,rfl⟩
    subst Bv
    by_cases q3:a < (lsZ P i).length
    ·have q3d:((a:Int) < ((lsZ P i).length:Int))=True:=eq_true (by omega)
     obtain⟨be2,oe2,ce2,hv_, -, -⟩:=ep D0.out (by omega)
     injection hv_ with hv1_ _ hv3_
     subst hv1_ hv3_
     obtain⟨D4,D5,D6,D7,le4⟩:=jf0 (D0.out.mono IE.kept hs) (show a < ((lsZ P i)).length by omega)
     obtain⟨B2,Bh⟩:∃z:Pt,z=(edZ ((lsZ P i)) a).1:=⟨_,rfl⟩
     obtain⟨B3,Bi⟩:∃z:Pt,z=(edZ ((lsZ P i)) a).2:=⟨_,rfl⟩
     rw[show (((lsZ P i)).getD a ((0,0),(0,0))).1.1=B2.1 from by rw[Bh];rfl] at D4
     rw[show (((lsZ P i)).getD a ((0,0),(0,0))).1.2=B2.2 from by rw[Bh];rfl] at D5
     rw[show (((lsZ P i)).getD a ((0,0),(0,0))).2.1=B3.1 from by rw[Bi];rfl] at D6
     rw[show (((lsZ P i)).getD a ((0,0),(0,0))).2.2=B3.2 from by rw[Bi];rfl] at D7
     have Cp:my (B2,B3):=by rw[Bh,Bi];exact ed_ok HE.out (by omega) (by omega)
     have D2:=Cp.1
     have D3:=Cp.2.1
     have Ne4:=Cp.2.2
     skip
     replace Bh:=ae Bh
     replace Bi:=ae Bi
     replace Cp:=ae Cp
     go_upto_region 8 with fail
     clear le4 D4 D5 D6 D7
     refine Code.abs ?_
     intro Bw hW
     have hG:Gr [] B4 Bw:=by rw[hW];exact (Gr.refl _ _).alloc
     have sz_w41:=hs.size
     have B1:Bx Bw (B4.heap.size) 69 #[.int .i64 B2.1,.int .i64 B2.2,.int .i64 B3.1,.int .i64 B3.2]:=by rw[hW];exact (Bx.new0 _ _ _)
     replace hs:=hs.trans (hG.below0 hs.size)
     replace B0:=B0.mono PC.kept (hG.below0 (ag _))
     clear hW hG
     have hz_w41:=B1.lt
     refine bw (S:=fun w'=>w'.cell? ⟨B4.heap.size,0,none⟩=some (.int .i64 B2.1)∧w'.cell? ⟨B4.heap.size,1,none⟩=some (.int .i64 B2.2)∧w'.cell? ⟨B4.heap.size,2,none⟩=some (.int .i64 B3.1)∧w'.cell? ⟨B4.heap.size,3,none⟩=some (.int .i64 B3.2)) (by kernel_rfl) 11 ?_
     refine cq.abs ?_
     intro Bq hW
     have hb:Below Bw.heap.size Bw Bq:=by rw[hW];exact de _
     replace hs:=ar hs hb
     replace B1:=B1.mono hb
     replace B0:=B0.mono PC.kept hb
     clear hb hW
     refine B1.k4 fun B5 B6 B7 B8=>?_
     have hH:=(show Bq.cell? ⟨B4.heap.size,0,none⟩=some (.int .i64 B2.1)∧Bq.cell? ⟨B4.heap.size,1,none⟩=some (.int .i64 B2.2)∧Bq.cell? ⟨B4.heap.size,2,none⟩=some (.int .i64 B3.1)∧Bq.cell? ⟨B4.heap.size,3,none⟩=some (.int .i64 B3.2) from ⟨B5,B6,B7,B8⟩)
     refine cz 0 ?_ ?_ hH ?_
     rotate_left
     ·(intro w Bj;(try dsimp only at Bj);go_simp;try with_reducible rfl)
     try simp only[LY]
     refine cz 1 ?_ ?_ hH ?_
     rotate_left
     ·(intro w Bj;(try dsimp only at Bj);go_simp;try with_reducible rfl)
     try simp only[LY]
     refine cz 2 ?_ ?_ hH ?_
     rotate_left
     ·(intro w Bj;(try dsimp only at Bj);go_simp;try with_reducible rfl)
     try simp only[LY]
     refine cz 3 ?_ ?_ hH ?_
     rotate_left
     ·(intro w Bj;(try dsimp only at Bj);go_simp;try with_reducible rfl)
     try simp only[LY]
     refine cz 5 ?_ ?_ hH ?_
     rotate_left
     ·(intro w Bj;(try dsimp only at Bj);go_simp;try with_reducible rfl)
     try simp only[LY]
     refine cz 6 ?_ ?_ hH ?_
     rotate_left
     ·(intro w Bj;(try dsimp only at Bj);go_simp;try with_reducible rfl)
     try simp only[LY]
     refine cz 7 ?_ ?_ hH ?_
     rotate_left
     ·(intro w Bj;(try dsimp only at Bj);go_simp;try with_reducible rfl)
     try simp only[LY]
     clear hH
     refine U_on 4 fun K hK=>?_
     go_simp
     (with_reducible refine (fh B2.1 _ (D2.1.mono (by decide))).mono ?_)
     rintro e w43 ⟨_,rfl,h5,hb⟩
     obtain⟨Cc,C5,Ca,C7,Bz,C3,C1,rfl⟩:=h5.shape
     replace hs:=ar hs hb
     replace B1:=B1.mono hb
     replace B0:=B0.mono PC.kept hb
     replace B5:=ah B5 hb
     replace B6:=ah B6 hb
     replace B7:=ah B7 hb
     replace B8:=ah B8 hb
     clear hb
     try go_wp2_with fail
     refine hK.out _ _ ⟨B5,B6,B7,B8⟩ (fun hH=>?_)
     clear hK K
     try simp only[LY]
     clear hH
     refine U_on 8 fun K hK=>?_
     go_simp
     (with_reducible refine (fh B3.1 _ (D3.1.mono (by decide))).mono ?_)
     rintro e By ⟨_,rfl,h6,hb⟩
     obtain⟨Cd,C6,Cb,C8,C0,C4,C2,rfl⟩:=h6.shape
     replace hs:=ar hs hb
     revert B1;revert h5;refine mo hb ?_;intro h5 B1
     replace B0:=B0.mono PC.kept hb
     replace B5:=ah B5 hb
     replace B6:=ah B6 hb
     replace B7:=ah B7 hb
     replace B8:=ah B8 hb
     clear hb
     try go_wp2_with fail
     refine hK.out _ _ ⟨B5,B6,B7,B8⟩ (fun hH=>?_)
     clear hK K
     try simp only[LY]
     clear hH
     refine U_on 9 fun K hK=>?_
     go_simp
     generalize hWn:(By.alloc (.cells #[.bool Cc,.slice C5 Ca C7,.slice Bz C3 C1,.bool Cd,.slice C6 Cb C8,.slice C0 C4 C2] 37))=w45
     have hb:Below By.heap.size By w45:=by rw[←hWn];exact (Below.refl _ _).alloc (ag _) _
     have D1:Bx w45 (By.heap.size) 37 #[.bool Cc,.slice C5 Ca C7,.slice Bz C3 C1,.bool Cd,.slice C6 Cb C8,.slice C0 C4 C2]:=by rw[←hWn];exact Bx.new _ _ _
     have ne_ls:B4.heap.size≠By.heap.size:=by have:=B1.lt;omega
     have sz_ls:=hs.size
     replace hs:=ar hs hb
     revert h6 h5 B1;refine mo hb ?_;intro h6 h5 B1
     replace B0:=B0.mono PC.kept hb
     replace B5:=ah B5 hb
     replace B6:=ah B6 hb
     replace B7:=ah B7 hb
     replace B8:=ah B8 hb
     clear hb hWn
     refine hK.out _ _ ⟨B5,B6,B7,B8⟩ (fun hH=>?_)
     clear hK K
     try simp only[LY]
     clear hH
     refine U_on 10 fun K hK=>?_
     obtain⟨css,Cq,Cr,Cs,Ba⟩:=B0
     simp only[List.getElem_toArray,List.getElem_cons_succ,List.getElem_cons_zero]
     rw[if_pos (by rfl)]
     refine wp_append_lies _ _ _ _ (by rfl) w.heap.size 37 j0 _ 3 56 Tryz.underlying131 hj hy0 hy1 hy2 (by rfl) (by omega) _ _ css.flatten (by rfl) Ba ⟨By.heap.size,0,none⟩ 2 2 [.bool Cc,.slice C5 Ca C7,.slice Bz C3 C1,.bool Cd,.slice C6 Cb C8,.slice C0 C4 C2] (by rfl) (by rfl) D1.news ?_ (by omega) ?_ ?_ ?_ _ rfl ?_
     ·intro u hu;simp only[List.mem_cons,List.mem_nil_iff,or_false] at hu;rcases hu with rfl|rfl|rfl|rfl|rfl|rfl<;>rfl
     ·unfold maxLen;(have:=(sb4_le P HT.out i a 0 0).2.2;omega)
     ·(have:=(sb4_le P HT.out i a 0 0).2.2;omega)
     ·exact hs.size
     intro gout D8 w46 Bp Bb hat hlt
     have hk:=aw.owns Ba Bb (by decide)
     have ho:=iu Ba Bb
     replace hs:=hs.grown Bb hs.size (fun k hk=>(Ba.lt k hk).1)
     replace B0:=cw.push2 PC.kept Cq Cr Cs (x:=((B2.1:Int):Rat)) (y:=((B3.1:Int):Rat)) (cs:=[.bool Cc,.slice C5 Ca C7,.slice Bz C3 C1]) (ds:=[.bool Cd,.slice C6 Cb C8,.slice C0 C4 C2]) rfl ⟨_,_,_,rfl,h5⟩ rfl ⟨_,_,_,rfl,h6⟩ Bp hk
     replace B1:=B1.only ho (by decide)
     revert h6 h5;refine ke hk ?_;intro h6 h5
     replace B5:=B1.at 0 rfl
     replace B6:=B1.at 1 rfl
     replace B7:=B1.at 2 rfl
     replace B8:=B1.at 3 rfl
     clear hk ho Cq Cr Cs Ba Bp Bb D1
     refine hK.out _ _ ⟨B5,B6,B7,B8⟩ (fun hH=>?_)
     clear hK K
     try simp only[LY]
     clear hH
     refine dr (by kernel_rfl) rfl (by kernel_rfl) (fun K hK=>?_)
     go_simp
     refine hK.out _ _ ?_
     clear hK K
     intro wl hW
     rw[hW]
     clear hW wl
     try simp only[LY]
     clear B5 B6 B7 B8
     by_cases hcap:cap=i + 1
     ·subst hcap
      have AX0:IntKind.i64.wrap ((i:Int) + 1)=(i:Int) + 1:=IntWalk.i64_in _ (by omega)
      have SX8a:(0:Int)≤(i:Int) + 1:=by omega
      have SX8b:((i:Int) + 1).toNat=i + 1:=by omega
      have SX8c:(i:Int) + 1≤(P.length:Int):=by omega
      have hp0:=ae (show P.length - (i + 1)=0 by omega)
      go_wp2
      refine wp_loop_rounds 1 ?_
      rw[rounds_succ]
      have hp1:((0:Int) < ((P.length - (i + 1):Nat):Int))=False:=eq_false (by omega)
      have hp2:(0 < P.length - (i + 1))=False:=eq_false (by omega)
      have hp3:(i + 1 < P.length)=False:=eq_false (by omega)
      have hp4:P.length≤i + 1:=by omega
      go_wp2
      refine⟨?_,?measB⟩
      iterate 50 apply Exists.intro
      refine⟨?relB,rfl⟩
      case relB=>exact⟨a + 1,by omega,by go_num,hs,(by rw[sb2_succ (by omega),show (P.drop (i + 1)).length=0 from by rw[List.length_drop];omega,sb3_zero,show edZ (lsZ P i) a=(B2,B3) from by rw[Bh.out,Bi.out]];exact B0)⟩
      all_goals first|(simp[intOf];done)|(simp[intOf];omega)
     have hcapF:(cap=i + 1)=False:=eq_false hcap
     have AX7:IntKind.i64.wrap ((i:Int) + 1)=(i:Int) + 1:=IntWalk.i64_in _ (by omega)
     have SX8a:(0:Int)≤(i:Int) + 1:=by omega
     have SX8b:((i:Int) + 1).toNat=i + 1:=by omega
     have SX8c:(i:Int) + 1≤(P.length:Int):=by omega
     have SX8d:(i:Int) + 1≤(cap:Int):=by omega
     go_wp2
     go_loopw [3,43] (fun s3 s43 wq=>∃b:Nat,b≤(P.length - (i + 1))∧s43=.int .i64 b∧Below w.heap.size w wq∧Bx wq (B4.heap.size) 69 #[.int .i64 B2.1,.int .i64 B2.2,.int .i64 B3.1,.int .i64 B3.2]∧PV wq (.agg #[.bool Cc,.slice C5 Ca C7,.slice Bz C3 C1]) (((B2.1:Int):Rat))∧PV wq (.agg #[.bool Cd,.slice C6 Cb C8,.slice C0 C4 C2]) (((B3.1:Int):Rat))∧cw w.heap.size 37 3 PC wq s3 (sb3 P i a b)) (fun s3 s43 _=>(P.length - (i + 1)) - (intOf s43).toNat)
     case atStart=>exact⟨0,Nat.zero_le _,rfl,hs,B1,h5,h6,(by rw[sb3_zero,show edZ (lsZ P i) a=(B2,B3) from by rw[Bh.out,Bi.out]];exact B0)⟩
     case round=>
      clear B1 h5 h6 hs B0
      obtain⟨b,Cu,rfl,hs,B1,h5,h6,B0⟩:=hrel
      obtain⟨wl2,Bv⟩:∃x,x=wr:=⟨_,rfl⟩
      subst Bv
      by_cases q9:b < (P.length - (i + 1))
      ·have q9d:((b:Int) < ((P.length - (i + 1)):Int))=True:=eq_true (by omega)
       obtain⟨ae10,ke10,Cv,le10a,le10b,Ck⟩:=jf1 HL.out hs (show ((i + 1) + b) < P.length by omega)
       rw[←Nat.add_assoc] at Cv
       replace Ck:=ae Ck
       go_wp2
       clear Cv
       go_loopw [3,49] (fun s3 s49 wq=>∃c:Nat,c≤(lsZ P (i + 1 + b)).length∧s49=.int .i64 c∧Below w.heap.size w wq∧Bx wq (B4.heap.size) 69 #[.int .i64 B2.1,.int .i64 B2.2,.int .i64 B3.1,.int .i64 B3.2]∧PV wq (.agg #[.bool Cc,.slice C5 Ca C7,.slice Bz C3 C1]) (((B2.1:Int):Rat))∧PV wq (.agg #[.bool Cd,.slice C6 Cb C8,.slice C0 C4 C2]) (((B3.1:Int):Rat))∧cw w.heap.size 37 3 PC wq s3 (sb4 P i a b c)) (fun s3 s49 _=>(lsZ P (i + 1 + b)).length - (intOf s49).toNat)
       case atStart=>exact⟨0,Nat.zero_le _,rfl,hs,B1,h5,h6,(by rw[sb4_zero];exact B0)⟩
       case round=>
        clear B1 h5 h6 hs B0
        obtain⟨c,Cu,rfl,hs,B1,h5,h6,B0⟩:=hrel
        obtain⟨Bg,Bv⟩:∃x,x=wr:=⟨_,rfl⟩
        subst Bv
        by_cases q11:c < (lsZ P ((i + 1) + b)).length
        ·have q11d:((c:Int) < ((lsZ P ((i + 1) + b)).length:Int))=True:=eq_true (by omega)
         obtain⟨be10,oe10,ce10,hv_, -, -⟩:=ep Ck.out (by omega)
         injection hv_ with hv1_ _ hv3_
         subst hv1_ hv3_
         obtain⟨Cw,Cx,Cy,Cz,le12⟩:=jf0 (Ck.out.mono IE.kept hs) (show c < ((lsZ P ((i + 1) + b))).length by omega)
         obtain⟨Bc,Be⟩:∃z:Pt,z=(edZ ((lsZ P ((i + 1) + b))) c).1:=⟨_,rfl⟩
         obtain⟨Bd,Bf⟩:∃z:Pt,z=(edZ ((lsZ P ((i + 1) + b))) c).2:=⟨_,rfl⟩
         rw[show (((lsZ P ((i + 1) + b))).getD c ((0,0),(0,0))).1.1=Bc.1 from by rw[Be];rfl] at Cw
         rw[show (((lsZ P ((i + 1) + b))).getD c ((0,0),(0,0))).1.2=Bc.2 from by rw[Be];rfl] at Cx
         rw[show (((lsZ P ((i + 1) + b))).getD c ((0,0),(0,0))).2.1=Bd.1 from by rw[Bf];rfl] at Cy
         rw[show (((lsZ P ((i + 1) + b))).getD c ((0,0),(0,0))).2.2=Bd.2 from by rw[Bf];rfl] at Cz
         have Bt:my (Bc,Bd):=by rw[Be,Bf];exact ed_ok HE.out (by omega) (by omega)
         have De:=Bt.1
         have Df:=Bt.2.1
         have Ne12:=Bt.2.2
         skip
         replace Be:=ae Be
         replace Bf:=ae Bf
         replace Bt:=ae Bt
         refine B1.k4l fun B5 B6 B7 B8 Le=>?_
         go_wp2_with fail
         clear B5 B6 B7 B8 Le le12 Cw Cx Cy Cz
         refine Calls.abs ?_
         intro Ct hW
         have hG:Gr [] Bg Ct:=by rw[hW];exact (Gr.refl _ _).alloc
         have sz_w87:=hs.size
         have ne_w87:=B1.lt
         have Bm:Bx Ct (Bg.heap.size) 69 #[.int .i64 Bc.1,.int .i64 Bc.2,.int .i64 Bd.1,.int .i64 Bd.2]:=by rw[hW];exact (Bx.new0 _ _ _)
         replace hs:=hs.trans (hG.below0 hs.size)
         revert h6;revert h5;revert B1;refine g0 hG ?_;intro B1 h5 h6
         replace B0:=B0.mono PC.kept (hG.below0 (ag _))
         clear hW hG
         have hz_w87:=Bm.lt
         with_reducible refine (pl_crossing B2 B3 Bc Bd _ D2 D3 De Df rfl rfl).mono ?_
         rintro e B9 ⟨_,_,rfl,Bs,rfl,hb⟩
         obtain⟨Cn,Ci,Cl,Cj,Ce,Ch,Cg,rfl⟩:=Bs.shape
         replace hs:=ar hs hb
         revert h6;revert h5;revert B1;revert Bm;refine mo hb ?_;intro Bm B1 h5 h6
         replace B0:=B0.mono PC.kept hb
         clear hb
         obtain⟨Dc,Bo⟩:∃zz:Bool,zz=crB (B2,B3) (Bc,Bd):=⟨_,rfl⟩
         rw[←Bo]
         replace Bo:=ae Bo
         by_cases q17:crB (B2,B3) (Bc,Bd)=true
         ·obtain rfl:Dc=true:=by rw[Bo.out];exact q17
          have Cm:=ae q17
          clear q17
          have Bu:=Bs.of_eq (if_pos Cm.out)
          go_wp2_with (at_builtin;refine wpList.stop ?_)
          refine⟨?_⟩
          refine wpList.abs ?_
          intro Bl hW
          have hG:Gr [] B9 Bl:=by rw[hW];exact (Gr.refl _ _).alloc.alloc
          have Dd:=hs.size
          have Da:=B1.lt
          have Db:=Bm.lt
          have Co:Bx Bl (B9.heap.size) 37 #[.bool Cn,.slice Ci Cl Cj,.slice Ce Ch Cg]:=by rw[hW];exact ((Bx.new0 _ _ _).alloc _)
          have Cf:Bx Bl (B9.heap.size + 1) 37 #[.bool Cn,.slice Ci Cl Cj,.slice Ce Ch Cg]:=by rw[hW];exact (Bx.new0 _ _ _)
          have Bk:=B0.ap (g:=B9.heap.size) (by omega)
          replace hs:=hs.trans (hG.below0 hs.size)
          revert h6 Bu;revert h5;revert B1;revert Bm;revert Bs;refine g0 hG ?_;intro Bs Bm B1 h5 h6 Bu
          replace B0:=B0.mono PC.kept (hG.below0 (ag _))
          clear hW hG
          have D9:=Cf.lt
          obtain⟨css,Cq,Cr,Cs,Ba⟩:=B0
          refine wpList_append_lies _ rfl _ _ _ rfl w.heap.size 37 j0 _ 3 56 Tryz.underlying131 hj hy0 hy1 hy2 rfl (by omega) _ _ css.flatten rfl Ba ⟨B9.heap.size + 1,0,none⟩ 1 1 [.bool Cn,.slice Ci Cl Cj,.slice Ce Ch Cg] rfl rfl Cf.news ?_ (by omega) ?_ ?_ ?_ _ rfl ?_
          ·intro u hu;simp only[List.mem_cons,List.mem_nil_iff,or_false] at hu;rcases hu with rfl|rfl|rfl<;>rfl
          ·unfold maxLen;(have:=(sb4_le P HT.out i a b c).1;omega)
          ·(have:=(sb4_le P HT.out i a b c).1;omega)
          ·exact hs.size
          intro gout D8 w90 Bp Bb hat hlt_
          have C9:=aw.owns Ba Bb (by decide)
          have ho:=iu Ba Bb
          replace hs:=hs.grown Bb hs.size (fun k hk=>(Ba.lt k hk).1)
          replace B0:=cw.push' PC.kept Cq Cr Cs (x:=crX (B2,B3) (Bc,Bd)) rfl ⟨_,_,_,rfl,Bu⟩ (by simp) Bp C9
          replace B1:=B1.only ho (by decide)
          replace Bm:=Bm.only ho (by decide)
          have Br:=Bk.app hat Co.lt
          replace Co:=Co.grown Bb Bk.ne
          replace Bk:=Br
          clear Br
          replace h5:=h5.keep C9
          replace h6:=h6.keep C9
          replace Bs:=Bs.keep C9
          replace Bu:=Bu.keep C9
          clear C9 ho Cq Cr Cs Ba Bp Bb hat hlt_ Cf
          have AX18:IntKind.i64.wrap ((c:Int) + 1)=(c:Int) + 1:=IntWalk.i64_in _ (by omega)
          go_wp2
          go_roundw
          case rel=>exact⟨c + 1,by omega,by go_num,hs,B1,h5,h6,(by rw[sb4_yes (by rw[tz];omega) (by rw[show edZ (lsZ P i) a=(B2,B3) from by rw[Bh.out,Bi.out],show edZ (lsZ (P.drop (i + 1)) b) c=(Bc,Bd) from by rw[tz,Be.out,Bf.out]];exact Cm.out),show edZ (lsZ P i) a=(B2,B3) from by rw[Bh.out,Bi.out],show edZ (lsZ (P.drop (i + 1)) b) c=(Bc,Bd) from by rw[tz,Be.out,Bf.out]];exact B0)⟩
          all_goals first|(simp[intOf];done)|(simp[intOf];omega)
         obtain rfl:Dc=false:=by rw[Bo.out];simpa using q17
         have Cm:=ae q17
         clear q17
         go_upto_region 18 with fail
         refine Code.abs ?_
         intro Bl hW
         have hG:Gr [] B9 Bl:=by rw[hW];exact (Gr.refl _ _).alloc
         have Dd:=hs.size
         have Da:=B1.lt
         have Db:=Bm.lt
         have Co:Bx Bl (B9.heap.size) 37 #[.bool Cn,.slice Ci Cl Cj,.slice Ce Ch Cg]:=by rw[hW];exact (Bx.new0 _ _ _)
         have Bk:=B0.ap (g:=B9.heap.size) (by omega)
         replace hs:=hs.trans (hG.below0 hs.size)
         revert h6;revert h5;revert B1;revert Bm;revert Bs;refine g0 hG ?_;intro Bs Bm B1 h5 h6
         replace B0:=B0.mono PC.kept (hG.below0 (ag _))
         clear hW hG
         have D9:=Co.lt
         have AX18:IntKind.i64.wrap ((c:Int) + 1)=(c:Int) + 1:=IntWalk.i64_in _ (by omega)
         go_wp2
         go_roundw
         case rel=>exact⟨c + 1,by omega,by go_num,hs,B1,h5,h6,(by rw[sb4_no (by rw[tz];omega) (by rw[show edZ (lsZ P i) a=(B2,B3) from by rw[Bh.out,Bi.out],show edZ (lsZ (P.drop (i + 1)) b) c=(Bc,Bd) from by rw[tz,Be.out,Bf.out]];simpa using Cm.out)];exact B0)⟩
         all_goals first|(simp[intOf];done)|(simp[intOf];omega)
        have q11d:((c:Int) < ((lsZ P ((i + 1) + b)).length:Int))=False:=eq_false (by omega)
        have AX12:IntKind.i64.wrap ((b:Int) + 1)=(b:Int) + 1:=IntWalk.i64_in _ (by omega)
        go_wp2
        go_roundw
        case rel=>exact⟨b + 1,by omega,by go_num,hs,B1,h5,h6,(by rw[sb3_succ (by rw[List.length_drop];omega),show (lsZ (P.drop (i + 1)) b).length=c from by rw[tz];omega];exact B0)⟩
        all_goals first|(simp[intOf];done)|(simp[intOf];omega)
      have q9d:((b:Int) < ((P.length - (i + 1)):Int))=False:=eq_false (by omega)
      have AX10:IntKind.i64.wrap ((a:Int) + 1)=(a:Int) + 1:=IntWalk.i64_in _ (by omega)
      go_wp2
      refine⟨?_,?measA⟩
      iterate 50 apply Exists.intro
      refine⟨?relA,rfl⟩
      case relA=>exact⟨a + 1,by omega,by go_num,hs,(by rw[sb2_succ (by omega),show (P.drop (i + 1)).length=b from by rw[List.length_drop];omega];exact B0)⟩
      all_goals first|(simp[intOf];done)|(simp[intOf];omega)
    have q3d:((a:Int) < ((lsZ P i).length:Int))=False:=eq_false (by omega)
    have AX4:IntKind.i64.wrap ((i:Int) + 1)=(i:Int) + 1:=IntWalk.i64_in _ (by omega)
    go_wp2
    go_roundw
    case rel=>exact⟨i + 1,by omega,by go_num,hs,(by rw[sb1_succ,show (lsZ P i).length=a from by omega];exact B0)⟩
    all_goals first|(simp[intOf];done)|(simp[intOf];omega)
  have q1d:((i:Int) < (P.length:Int))=False:=eq_false (by omega)
  have Hsz:=slb_szs HE.out
  have Hle:(qr P).length≤624:=by have:=sb1_le P HT.out P.length;rwa [xc] at this
  have hY:cw w.heap.size 37 3 PC wl0 u3 (qr P):=by have h:=B0;rwa [show i=P.length from by omega,xc] at h
  go_wp2_with fail
  refine (xg _ hY (by omega) (fun j hj=>(fw Hsz hj).mono (by decide)) hs.size).mono ?_
  rintro e wS ⟨rfl,hO,hbS⟩
  replace hs:=hs.trans hbS
  clear hbS hY B0
  go_wp2_with fail
  refine (sl_CompQ _ hO hs.size (by rw[xj];omega)).mono ?_
  rintro e wT ⟨vT,rfl,hO2,hbT⟩
  replace hs:=hs.trans hbT
  go_wp2
  go_ret
  exact⟨_,rfl,hO2,hs⟩
end Go.Proofs.YtidmjdmmpajooaaGreat
