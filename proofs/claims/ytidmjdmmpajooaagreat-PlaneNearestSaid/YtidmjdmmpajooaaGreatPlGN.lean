/-
  plane: the parts of an upright line within a polygon.
-/
import Derived.Test.YtidmjdmmpajooaaGreatPlEN
import Derived.Test.YtidmjdmmpajooaaGreatPkV27N
import Derived.Test.YtidmjdmmpajooaaGreatPkV24N
import Derived.Test.YtidmjdmmpajooaaGreatPkV12N
set_option linter.unusedSimpArgs false
set_option linter.unusedVariables false
set_option maxRecDepth 100000
set_option maxHeartbeats 16000000
namespace Go.Proofs.YtidmjdmmpajooaaGreat
open Go.RowKit Dg
attribute [local go_sem ↓] Go.wp_at_zero Go.wp_at_succ
def my (e:Edg):Prop:=WP 268435456 e.1∧WP 268435456 e.2∧¬ e.1.1=e.2.1
def edZ (L:List Edg) (i:Nat):Edg:=L.getD i ((0,0),(0,0))
theorem ja2 {L:List Edg} {i:Nat} (h:i < L.length):L[i]?=some (edZ L i):=by unfold edZ;rw[List.getD_eq_getElem?_getD,List.getElem?_eq_getElem h];rfl
theorem my.at {L:List Edg} (h:∀e∈L,my e) {i:Nat} (hi:i < L.length):my ((edZ L i).1,(edZ L i).2):=h _ (List.mem_of_getElem? (ja2 hi))
theorem at_sz {e:Edg} {x:Rat} {K:Nat} (h:my e) (sx:SzQ K x):SzQ (K + 8) (atE e x):=by
 unfold atE
 exact (SzQ.add (szN (h.1.2.mono (by decide))) (SzQ.mul (SzQ.sub sx (szN (h.1.1.mono (by decide)))) (szD (((h.2.1.mn h.1).2).mono (by decide)) (((h.2.1.mn h.1).1).mono (by decide)) (fun e0=>h.2.2 (by unfold mnZ at e0;simp only at e0;omega))))).mono (by omega)
theorem ys_mem {E:List Edg} {x y:Rat} (h:y∈ysQ E x):∃e∈E,y=atE e x:=by
 unfold ysQ at h
 obtain⟨e,he,hy⟩:=List.mem_flatMap.1 h
 split at hy
 ·exact⟨e,he,List.mem_singleton.1 hy⟩
 cases hy
theorem ys_sz {E:List Edg} {x:Rat} {K:Nat} (hE:∀e∈E,my e) (sx:SzQ K x):∀y∈ysQ E x,SzQ (K + 8) y:=fun y hy=>by
 obtain⟨e,he,rfl⟩:=ys_mem hy
 exact at_sz (hE e he) sx
theorem ys_len (E:List Edg) (x:Rat):(ysQ E x).length≤E.length:=by
 unfold ysQ
 induction E with
 | nil=>exact ag _
 | cons e r ih=>
  rw[List.flatMap_cons,List.length_append,List.length_cons]
  split
  ·rw[List.length_singleton];omega
  rw[List.length_nil];omega
theorem ys_take {E:List Edg} {x:Rat} {k:Nat} (hk:k < E.length):ysQ (E.take (k + 1)) x=ysQ (E.take k) x ++ (if (loE (edZ E k):Rat) < x∧x < (hiE (edZ E k):Rat) then [atE (edZ E k) x] else []):=by
 rw[List.take_add_one,ja2 hk]
 unfold ysQ
 rw[List.flatMap_append]
 simp
theorem fw {L:List Rat} {P:Rat→Prop} (h:∀y∈L,P y) {i:Nat} (hi:i < L.length):P (bj L i):=h _ (List.mem_of_getElem? (ia hi))
theorem srt_mem {L:List Rat} {P:Rat→Prop} (h:∀y∈L,P y):∀y∈ym L,P y:=fun y hy=>h y ((yp L).mem_iff.1 hy)
theorem xj (L:List Rat):(ym L).length=L.length:=(yp L).length_eq
theorem prK_even {Y:List Rat} {m:Nat} (hm:m % 2=0):prK Y ((m + 2) / 2)=prK Y (m / 2) ++ [(bj Y m,bj Y (m + 1))]:=by
 rw[show (m + 2) / 2=m / 2 + 1 by omega]
 show prK Y (m / 2) ++ [(bj Y (2 * (m / 2)),bj Y (2 * (m / 2) + 1))]=_
 rw[show 2 * (m / 2)=m by omega]
theorem prK_len (Y:List Rat):∀j,(prK Y j).length=j
 | 0=>rfl
 | j + 1=>by show (prK Y j ++ _).length=_;rw[List.length_append,prK_len Y j];rfl
theorem prK_end {Y:List Rat} {m:Nat} (hm:m % 2=0) (h1:m≤Y.length) (h2:¬ m + 1 < Y.length):prK Y (m / 2)=prQ Y:=by
 rw[←prK_all,show m / 2=Y.length / 2 by omega]
theorem xg {base:Nat} {v:Value} {L:List Rat} (w:World) (h:cw base 37 3 PC w v L) (h2:L.length≤1000) (hz:∀i,i < L.length→SzQ 100000 (bj L i)) (hb:base≤w.heap.size):
  Calls Tryz.prog 123 #[v,.func (.func 12) #[] #[]] w (fun e w'=>e=.returned (.tuple #[])∧cw base 37 3 PC w' v (ym L)∧Below base w w'):=by
 by_cases h1:1≤L.length
 ·exact sl_SortQ w h h1 h2 hz
 obtain⟨ao,c,rfl, -, -, -⟩:=h.slice
 have e:L=[]:=List.length_eq_zero_iff.1 (by omega)
 subst e
 refine (sl_SortQ0 _ _ _ _).mono ?_
 rintro e w' ⟨rfl,rfl⟩
 exact⟨rfl,h,Below.refl _ _⟩
theorem Rows.tyb {α:Type} {size:Nat} {T:TypeId} {R:World→List Value→α→Prop} {w:World} {l:List α} {b o n c:Nat} {p:Option _} (h:Rows size T R w (.slice (some ⟨b,o,p⟩) n c) l) (hl:0 < l.length):TyB T w b:=by
 obtain⟨ao,c,e,h1,h2,h3,h4,h5⟩:=h
 injection e with e _ _
 subst e
 exact h4 _ rfl hl
theorem span_info:(Tryz.prog.info? 164).map (fun i=>(i.zero,i.size,i.bytes))=some (some (.agg #[.bool false,.slice none 0 0,.slice none 0 0,.bool false,.slice none 0 0,.slice none 0 0]),6,112):=by kernel_rfl
theorem ratP_info:(Tryz.prog.info? 37).map (fun i=>(i.zero,i.size,i.bytes))=some (some (.agg #[.bool false,.slice none 0 0,.slice none 0 0]),3,56):=by kernel_rfl
theorem pl_spans (v:Value) (E:List Edg) (vx:Value) (x:Rat) (w:World) (hl:Bxs w v E) (h1:0 < E.length) (hn:E.length≤24) (hE:∀e∈E,my e) (hx:PV w vx x) (sx:SzQ 1000 x):
  Calls Tryz.prog 99 #[v,vx] w (Ret1 (fun w v=>Rows 6 164 (C2 PC) w v (spQ E x)) w):=by
 obtain⟨rb,ro,cap,rfl,hc1,hc2⟩:=ep hl h1
 obtain⟨Bv,Bs,Bu,Bt,Bp,Br,Bq,rfl⟩:=hx.shape
 have hs:=Below.refl w.heap.size w
 have HL:=ae hl
 have HE:=ae hE
 clear hl hE
 obtain⟨i0,hi,hz0,hz1,hz2⟩:=info_parts span_info
 obtain⟨j0,hj,hy0,hy1,hy2⟩:=info_parts ratP_info
 go_enter Tryz.func99,Tryz.ntmps99
 go_wp2
 refine Code.abs ?_
 intro w1 hW
 have hG:Gr [] w w1:=by rw[hW];exact (Gr.refl _ _).alloc
 have hk:=hG.keep True.intro
 have sz_w1:=hs.size
 have B0:Bx w1 (w.heap.size) 37 #[.bool Bv,.slice Bs Bu Bt,.slice Bp Br Bq]:=by rw[hW];exact (Bx.new0 _ _ _)
 replace hs:=hs.trans (hG.below0 hs.size)
 replace hx:=hx.keep hk
 clear hW hG hk
 have hz_w1:=B0.lt
 have D3:=ae hs
 clear hs
 have hs:=Below.refl w1.heap.size w1
 have nb_x:=B0.lt
 go_loopw [5,14] (fun s5 s14 wq=>∃k:Nat,k≤E.length∧s14=.int .i64 k∧Below w1.heap.size w1 wq∧Bx wq (w.heap.size) 37 #[.bool Bv,.slice Bs Bu Bt,.slice Bp Br Bq]∧PV wq (.agg #[.bool Bv,.slice Bs Bu Bt,.slice Bp Br Bq]) (x)∧cw w1.heap.size 37 3 PC wq s5 (ysQ (E.take k) x)) (fun s5 s14 _=>E.length - (intOf s14).toNat)
 case atStart=>exact⟨0,Nat.zero_le _,rfl,hs,B0,hx,cw.nil _ _ _ _ _⟩
 case round=>
  clear B0 hx hs
  obtain⟨k,k_le,rfl,hs,B0,hx,B6⟩:=hrel
  by_cases q2:k < E.length
  ·have q2d:((k:Int) < (E.length:Int))=True:=eq_true (by omega)
   obtain⟨D8,D9,Da,Db,le3⟩:=jf0 (HL.out.mono IE.kept (ar D3.out hs)) (show k < E.length by omega)
   obtain⟨Bi,Bg⟩:∃z:Pt,z=(edZ E k).1:=⟨_,rfl⟩
   obtain⟨Bj,Bh⟩:∃z:Pt,z=(edZ E k).2:=⟨_,rfl⟩
   rw[show (E.getD k ((0,0),(0,0))).1.1=Bi.1 from by rw[Bg];rfl] at D8
   rw[show (E.getD k ((0,0),(0,0))).1.2=Bi.2 from by rw[Bg];rfl] at D9
   rw[show (E.getD k ((0,0),(0,0))).2.1=Bj.1 from by rw[Bh];rfl] at Da
   rw[show (E.getD k ((0,0),(0,0))).2.2=Bj.2 from by rw[Bh];rfl] at Db
   have Ct:my (Bi,Bj):=by rw[Bg,Bh];exact my.at HE.out (by omega)
   have Cz:=Ct.1
   have D0:=Ct.2.1
   have Ne3:=Ct.2.2
   skip
   replace Bg:=ae Bg
   replace Bh:=ae Bh
   replace Ct:=ae Ct
   go_wp2_with fail
   clear le3 D8 D9 Da Db
   refine Calls.abs ?_
   intro Cx hW
   have hG:Gr [] wr Cx:=by rw[hW];exact (Gr.refl _ _).alloc
   have Cf:Below w1.heap.size wr Cx:=hG.below0 hs.size
   have sz_w22:w1.heap.size≤wr.heap.size:=hs.size
   have nx_w22:=B0.lt
   have B5:Bx Cx (wr.heap.size) 69 #[.int .i64 Bi.1,.int .i64 Bi.2,.int .i64 Bj.1,.int .i64 Bj.2]:=by rw[hW];exact (Bx.new0 _ _ _)
   replace hs:=hs.trans Cf
   revert hx;revert B0;refine g0 hG ?_;intro B0 hx
   replace B6:=B6.mono PC.kept (hG.below0 (ag _))
   clear hW hG Cf
   have hz_w22:=B5.lt
   with_reducible refine (ed_ends Bi Bj _).mono ?_
   rintro e D5 ⟨rfl,hb⟩
   replace hs:=ar hs hb
   revert B5 B0 hx;refine mo hb ?_;intro B5 B0 hx
   replace B6:=B6.mono PC.kept hb
   clear hb
   obtain⟨C7,Cd⟩:∃z:Int,z=min Bi.1 Bj.1:=⟨_,rfl⟩
   rw[←Cd]
   have Cq:Wn 268435456 C7:=by rw[Cd];exact Wn.min (Cz.1.mono (by decide)) (D0.1.mono (by decide))
   replace Cd:=ae Cd
   obtain⟨Cg,Cc⟩:∃z:Int,z=max Bi.1 Bj.1:=⟨_,rfl⟩
   rw[←Cc]
   have Dd:Wn 268435456 Cg:=by rw[Cc];exact Wn.max (Cz.1.mono (by decide)) (D0.1.mono (by decide))
   replace Cc:=ae Cc
   go_upto_region 6 with fail
   obtain⟨D4,Ce⟩:∃s:Int,s=sgQ ((((C7:Int):Rat)) - x):=⟨_,rfl⟩
   replace Ce:=ae Ce
   by_cases q8:((C7:Int):Rat) < x
   ·have q8_:D4 < 0:=by have h:=qg (((C7:Int):Rat)) x;rw[←Ce.out] at h;exact h.2 q8
    have q8H:=ae q8
    clear q8
    have q8d:decide (D4 < 0)=true:=decide_eq_true q8_
    obtain⟨Cr,C0⟩:∃s:Int,s=sgQ (x - (((Cg:Int):Rat))):=⟨_,rfl⟩
    replace C0:=ae C0
    refine bw (S:=fun w'=>w'.cell? ⟨w.heap.size,0,none⟩=some (.bool Bv)∧w'.cell? ⟨w.heap.size,1,none⟩=some (.slice Bs Bu Bt)∧w'.cell? ⟨w.heap.size,2,none⟩=some (.slice Bp Br Bq)) (by kernel_rfl) 12 ?_
    refine cq.abs ?_
    intro w24 hW
    have hb:Below D5.heap.size D5 w24:=by rw[hW];exact de _
    replace hs:=ar hs hb
    revert B5 B0 hx;refine mo hb ?_;intro B5 B0 hx
    replace B6:=B6.mono PC.kept hb
    clear hb hW
    refine B0.k3 fun B2 B3 B4=>?_
    have hH:=(show w24.cell? ⟨w.heap.size,0,none⟩=some (.bool Bv)∧w24.cell? ⟨w.heap.size,1,none⟩=some (.slice Bs Bu Bt)∧w24.cell? ⟨w.heap.size,2,none⟩=some (.slice Bp Br Bq) from ⟨B2,B3,B4⟩)
    refine U_tq 0 23 hH ?_
    refine U_tq 2 25 hH ?_
    clear hH
    refine U_on 1 fun K hK=>?_
    go_simp
    (with_reducible refine (fh C7 _ (Cq.mono (by decide))).mono ?_)
    rintro e w25 ⟨_,rfl,h6,hb⟩
    obtain⟨sh6,ah6,nh6,ch6,Ah6,Nh6,Ch6,rfl⟩:=h6.shape
    replace hs:=ar hs hb
    revert hx;revert B0;revert B5;refine mo hb ?_;intro B5 B0 hx
    replace B6:=B6.mono PC.kept hb
    replace B2:=ah B2 hb
    replace B3:=ah B3 hb
    replace B4:=ah B4 hb
    clear hb
    try go_wp2_with fail
    refine hK.out _ _ ⟨B2,B3,B4⟩ (fun hH=>?_)
    clear hK K
    try simp only[LY]
    clear hH
    refine U_on 3 fun K hK=>?_
    go_simp
    (with_reducible refine (uk h6 hx (SzQ.fit (szN (Cq.mono (by decide)))) (SzQ.fit sx)).mono ?_)
    rintro e w26 ⟨rfl,hb⟩
    replace hs:=ar hs hb
    revert h6 B5 B0 hx;refine mo hb ?_;intro h6 B5 B0 hx
    replace B6:=B6.mono PC.kept hb
    replace B2:=ah B2 hb
    replace B3:=ah B3 hb
    replace B4:=ah B4 hb
    clear hb
    rw[←Ce.out]
    try go_wp2_with fail
    refine hK.out _ _ ⟨B2,B3,B4⟩ (fun hH=>?_)
    clear hK K
    try simp only[LY]
    refine U_tq 4 27 hH ?_
    refine U_tq 5 28 hH ?_
    refine U_tq 6 29 hH ?_
    refine U_tq 7 30 hH ?_
    clear hH
    refine U_on 8 fun K hK=>?_
    go_simp
    (with_reducible refine (fh Cg _ (Dd.mono (by decide))).mono ?_)
    rintro e w27 ⟨_,rfl,h9,hb⟩
    obtain⟨sh9,ah9,nh9,ch9,Ah9,Nh9,Ch9,rfl⟩:=h9.shape
    replace hs:=ar hs hb
    revert hx;revert B0;revert B5;revert h6;refine mo hb ?_;intro h6 B5 B0 hx
    replace B6:=B6.mono PC.kept hb
    replace B2:=ah B2 hb
    replace B3:=ah B3 hb
    replace B4:=ah B4 hb
    clear hb
    try go_wp2_with fail
    refine hK.out _ _ ⟨B2,B3,B4⟩ (fun hH=>?_)
    clear hK K
    try simp only[LY]
    clear hH
    refine U_on 9 fun K hK=>?_
    go_simp
    (with_reducible refine (uk hx h9 (SzQ.fit sx) (SzQ.fit (szN (Dd.mono (by decide))))).mono ?_)
    rintro e C9 ⟨rfl,hb⟩
    replace hs:=ar hs hb
    revert h9 h6 B5 B0 hx;refine mo hb ?_;intro h9 h6 B5 B0 hx
    replace B6:=B6.mono PC.kept hb
    replace B2:=ah B2 hb
    replace B3:=ah B3 hb
    replace B4:=ah B4 hb
    clear hb
    rw[←C0.out]
    try go_wp2_with fail
    refine hK.out _ _ ⟨B2,B3,B4⟩ (fun hH=>?_)
    clear hK K
    try simp only[LY]
    refine U_tq 10 33 hH ?_
    refine U_tq 11 34 hH ?_
    clear hH
    refine im (by kernel_rfl) ?_
    clear B2 B3 B4
    by_cases q11:x < ((Cg:Int):Rat)
    ·have D2:Cr < 0:=by have h:=qg x (((Cg:Int):Rat));rw[←C0.out] at h;exact h.2 q11
     have D1:=ae q11
     clear q11
     have q11d:decide (Cr < 0)=true:=decide_eq_true D2
     refine B5.k4l fun Dl Dm Dn Do Le=>?_
     refine B0.k3l fun B2 B3 B4 Lx=>?_
     go_wp2_with fail
     clear Dl Dm Dn Do B2 B3 B4 Le Lx
     with_reducible refine (ed_at Bi Bj _ _ _ hx (sx.mono (by decide)) Cz D0 Ne3).mono ?_
     rintro e Ca ⟨_,rfl,Co,hb⟩
     obtain⟨Dk,De,Dj,Df,D6,Dc,D7,rfl⟩:=Co.shape
     replace hs:=ar hs hb
     revert hx;revert B0;revert B5;revert h6;revert h9;refine mo hb ?_;intro h9 h6 B5 B0 hx
     replace B6:=B6.mono PC.kept hb
     clear hb
     go_wp2_with (at_builtin;refine wpList.stop ?_)
     refine⟨?_⟩
     refine wpList.abs ?_
     intro Cy hW
     have hG:Gr [] Ca Cy:=by rw[hW];exact (Gr.refl _ _).alloc
     have Cf:Below w1.heap.size Ca Cy:=hG.below0 hs.size
     have sz_w30:w1.heap.size≤Ca.heap.size:=hs.size
     have nx_w30:=B0.lt
     have ne_w30:=B5.lt
     have Cb:Bx Cy (Ca.heap.size) 37 #[.bool Dk,.slice De Dj Df,.slice D6 Dc D7]:=by rw[hW];exact (Bx.new0 _ _ _)
     replace hs:=hs.trans Cf
     revert Co h9 h6 B5 B0 hx;refine g0 hG ?_;intro Co h9 h6 B5 B0 hx
     replace B6:=B6.mono PC.kept (hG.below0 (ag _))
     clear hW hG Cf
     have hz_w30:=Cb.lt
     obtain⟨css,Cu,Cv,Cw,B7⟩:=B6
     refine wpList_append_lies _ rfl _ _ _ rfl w1.heap.size 37 j0 _ 3 56 Tryz.underlying131 hj hy0 hy1 hy2 rfl (by omega) _ _ css.flatten rfl B7 ⟨Ca.heap.size,0,none⟩ 1 1 [.bool Dk,.slice De Dj Df,.slice D6 Dc D7] rfl rfl Cb.news ?_ (by omega) ?_ ?_ ?_ _ rfl ?_
     ·intro u hu;simp only[List.mem_cons,List.mem_nil_iff,or_false] at hu;rcases hu with rfl|rfl|rfl<;>rfl
     ·unfold maxLen;(have:=ys_len (E.take k) x;rw[List.length_take] at this;omega)
     ·(have:=ys_len (E.take k) x;rw[List.length_take] at this;omega)
     ·exact hs.size
     intro gys capys w31 C6 Bc hat hlt_
     have Cp:=aw.owns B7 Bc (by decide)
     have ho:=iu B7 Bc
     replace hs:=hs.grown Bc hs.size (fun k hk=>(B7.lt k hk).1)
     replace B6:=cw.push' PC.kept Cu Cv Cw (x:=atE (Bi,Bj) x) rfl ⟨_,_,_,rfl,Co⟩ (by simp) C6 Cp
     replace B0:=B0.grown Bc (fun e=>by have:=(B7.lt _ e.symm).1;omega)
     replace B5:=B5.only ho (by decide)
     replace hx:=hx.keep Cp
     replace h6:=h6.keep Cp
     replace h9:=h9.keep Cp
     replace Co:=Co.keep Cp
     clear Cp ho Cu Cv Cw B7 C6 Bc hat hlt_ Cb
     have AX13:IntKind.i64.wrap ((k:Int) + 1)=(k:Int) + 1:=IntWalk.i64_in _ (by omega)
     go_wp2
     go_roundw
     case rel=>exact⟨k + 1,by omega,by go_num,hs,B0,hx,(by rw[show ysQ (E.take (k + 1)) x=_ from by rw[ys_take (by omega),if_pos ⟨by rw[show (loE (edZ E k):Rat)=((C7:Int):Rat) from by rw[Cd.out,Bg.out,Bh.out];rfl];exact q8H.out,by rw[show (hiE (edZ E k):Rat)=((Cg:Int):Rat) from by rw[Cc.out,Bg.out,Bh.out];rfl];exact D1.out⟩],show atE (edZ E k) x=atE (Bi,Bj) x from by rw[Bg.out,Bh.out]];exact B6)⟩
     all_goals first|(simp[intOf];done)|(simp[intOf];omega)
    have D2:¬ (Cr < 0):=by have h:=qg x (((Cg:Int):Rat));rw[←C0.out] at h;exact fun h1=>q11 (h.1 h1)
    have D1:=ae q11
    clear q11
    have q11d:decide (Cr < 0)=false:=decide_eq_false D2
    have AX12:IntKind.i64.wrap ((k:Int) + 1)=(k:Int) + 1:=IntWalk.i64_in _ (by omega)
    go_wp2
    go_roundw
    case rel=>exact⟨k + 1,by omega,by go_num,hs,B0,hx,(by rw[show ysQ (E.take (k + 1)) x=_ from by rw[ys_take (by omega),if_neg (fun h=>absurd h.2 (by rw[show (hiE (edZ E k):Rat)=((Cg:Int):Rat) from by rw[Cc.out,Bg.out,Bh.out];rfl];exact D1.out)),List.append_nil]];exact B6)⟩
    all_goals first|(simp[intOf];done)|(simp[intOf];omega)
   have q8_:¬ (D4 < 0):=by have h:=qg (((C7:Int):Rat)) x;rw[←Ce.out] at h;exact fun h1=>q8 (h.1 h1)
   have q8H:=ae q8
   clear q8
   have q8d:decide (D4 < 0)=false:=decide_eq_false q8_
   refine bw (S:=fun w'=>w'.cell? ⟨w.heap.size,0,none⟩=some (.bool Bv)∧w'.cell? ⟨w.heap.size,1,none⟩=some (.slice Bs Bu Bt)∧w'.cell? ⟨w.heap.size,2,none⟩=some (.slice Bp Br Bq)) (by kernel_rfl) 12 ?_
   refine cq.abs ?_
   intro w24 hW
   have hb:Below D5.heap.size D5 w24:=by rw[hW];exact de _
   replace hs:=ar hs hb
   revert B5 B0 hx;refine mo hb ?_;intro B5 B0 hx
   replace B6:=B6.mono PC.kept hb
   clear hb hW
   refine B0.k3 fun B2 B3 B4=>?_
   have hH:=(show w24.cell? ⟨w.heap.size,0,none⟩=some (.bool Bv)∧w24.cell? ⟨w.heap.size,1,none⟩=some (.slice Bs Bu Bt)∧w24.cell? ⟨w.heap.size,2,none⟩=some (.slice Bp Br Bq) from ⟨B2,B3,B4⟩)
   refine U_tq 0 23 hH ?_
   refine U_tq 2 25 hH ?_
   clear hH
   refine U_on 1 fun K hK=>?_
   go_simp
   (with_reducible refine (fh C7 _ (Cq.mono (by decide))).mono ?_)
   rintro e w25 ⟨_,rfl,h6,hb⟩
   obtain⟨sh6,ah6,nh6,ch6,Ah6,Nh6,Ch6,rfl⟩:=h6.shape
   replace hs:=ar hs hb
   revert hx;revert B0;revert B5;refine mo hb ?_;intro B5 B0 hx
   replace B6:=B6.mono PC.kept hb
   replace B2:=ah B2 hb
   replace B3:=ah B3 hb
   replace B4:=ah B4 hb
   clear hb
   try go_wp2_with fail
   refine hK.out _ _ ⟨B2,B3,B4⟩ (fun hH=>?_)
   clear hK K
   try simp only[LY]
   clear hH
   refine U_on 3 fun K hK=>?_
   go_simp
   (with_reducible refine (uk h6 hx (SzQ.fit (szN (Cq.mono (by decide)))) (SzQ.fit sx)).mono ?_)
   rintro e w26 ⟨rfl,hb⟩
   replace hs:=ar hs hb
   revert h6 B5 B0 hx;refine mo hb ?_;intro h6 B5 B0 hx
   replace B6:=B6.mono PC.kept hb
   replace B2:=ah B2 hb
   replace B3:=ah B3 hb
   replace B4:=ah B4 hb
   clear hb
   rw[←Ce.out]
   try go_wp2_with fail
   refine hK.out _ _ ⟨B2,B3,B4⟩ (fun hH=>?_)
   clear hK K
   try simp only[LY]
   refine U_tq 4 27 hH ?_
   refine U_tq 5 28 hH ?_
   refine ff 6 29 hH ?_
   simp only[LY]
   refine ff 7 30 hH ?_
   simp only[LY]
   clear hH
   refine U_on 8 fun K hK=>?_
   go_simp
   refine hK.out _ _ ⟨B2,B3,B4⟩ (fun hH=>?_)
   clear hK K
   try simp only[LY]
   clear hH
   refine U_on 9 fun K hK=>?_
   go_simp
   refine hK.out _ _ ⟨B2,B3,B4⟩ (fun hH=>?_)
   clear hK K
   try simp only[LY]
   refine ff 10 33 hH ?_
   simp only[LY]
   refine U_tq 11 34 hH ?_
   clear hH
   refine im (by kernel_rfl) ?_
   clear B2 B3 B4
   have AX9:IntKind.i64.wrap ((k:Int) + 1)=(k:Int) + 1:=IntWalk.i64_in _ (by omega)
   go_wp2
   go_roundw
   case rel=>exact⟨k + 1,by omega,by go_num,hs,B0,hx,(by rw[show ysQ (E.take (k + 1)) x=_ from by rw[ys_take (by omega),if_neg (fun h=>absurd h.1 (by rw[show (loE (edZ E k):Rat)=((C7:Int):Rat) from by rw[Cd.out,Bg.out,Bh.out];rfl];exact q8H.out)),List.append_nil]];exact B6)⟩
   all_goals first|(simp[intOf];done)|(simp[intOf];omega)
  have q2d:((k:Int) < (E.length:Int))=False:=eq_false (by omega)
  skip
  go_wp2_with fail
  have hYs:∀y∈ysQ E x,SzQ 1008 y:=ys_sz HE.out sx
  have hYl:=ys_len E x
  have hY:cw w1.heap.size 37 3 PC wr u5 (ysQ E x):=by have h:=B6;rwa [show k=E.length from by omega,List.take_length] at h
  refine (xg _ hY (by omega) (fun i hi=>(fw hYs hi).mono (by decide)) hs.size).mono ?_
  rintro e wS ⟨rfl,hO,hbS⟩
  replace hs:=hs.trans hbS
  clear hbS hY B6 B0 hx
  obtain⟨Y,HY⟩:∃Z,Z=ym (ysQ E x):=⟨_,rfl⟩
  have Dh:∀y∈Y,SzQ 1008 y:=by rw[HY];exact srt_mem hYs
  have hYl2:Y.length≤E.length:=by rw[HY,xj];exact hYl
  rw[←HY] at hO
  replace HY:=ae HY
  replace Dh:=ae Dh
  clear hYs hYl
  have B8:=hO.rows
  obtain⟨ay,cy,hv5,c5a,c5b, -⟩:=B8.slice
  subst hv5
  clear hO
  replace hs:=ar D3.out hs
  go_wp2
  go_loopw [10,11] (fun s10 s11 wq=>∃m:Nat,m≤Y.length∧s11=.int .i64 m∧Below w.heap.size w wq∧Rows 3 37 PC wq (.slice ay Y.length cy) Y∧cw w.heap.size 164 6 (C2 PC) wq s10 (prK Y (m / 2))∧(m % 2=0)) (fun s10 s11 _=>Y.length - (intOf s11).toNat)
  case atStart=>exact⟨0,Nat.zero_le _,rfl,hs,B8,cw.nil _ _ _ _ _,rfl⟩
  case round=>
   clear B8 hs
   obtain⟨m,k_le,rfl,hs,B8,Bl,Cs⟩:=hrel
   replace Cs:=ae Cs
   have AX3:IntKind.i64.wrap ((m:Int) + 1)=(m:Int) + 1:=IntWalk.i64_in _ (by omega)
   by_cases q4:(m:Int) + 1 < (Y.length:Int)
   ·have q4d:((m:Int) + 1 < (Y.length:Int))=True:=eq_true (by omega)
    go_upto_region 14 with fail
    have BI5a:m < Y.length:=by omega
    have BI5b:((m:Int):Int) < (Y.length:Int):=by omega
    obtain⟨Bn,Bo,rc2,hv_, -, -, -⟩:=B8.open_ (by omega)
    obtain⟨rfl,rfl⟩:=yk hv_
    clear hv_
    obtain⟨Cm,Ck,Cn,Cl,Ch,Cj,Ci,Bd,Be,Bf,Bw,le6⟩:=ug B8 (show m < Y.length by omega)
    have AX7:IntKind.i64.wrap ((m:Int) + 1)=(m:Int) + 1:=IntWalk.i64_in _ (by omega)
    have SW8a:=IntWalk.i64_in ((m:Int) + 1) (by omega)
    have SW8b:(0:Int)≤(m:Int) + 1:=by omega
    have SW8c:((m:Int) + 1).toNat=(m + 1):=by omega
    have SW8d:(m:Int) + 1 < (Y.length:Int):=by omega
    have BI9a:(m + 1) < Y.length:=by omega
    have BI9b:((m:Int) + 1:Int) < (Y.length:Int):=by omega
    obtain⟨C5,C3,C8,C4,By,C1,Bz,B9,Ba,Bb,Bm,le10⟩:=ug B8 (show (m + 1) < Y.length by omega)
    refine bw (S:=fun w'=>w'.cell? ⟨Bn,Bo + m * 3,none⟩=some (.bool Cm)∧w'.cell? ⟨Bn,Bo + m * 3 + 1,none⟩=some (.slice Ck Cn Cl)∧w'.cell? ⟨Bn,Bo + m * 3 + 2,none⟩=some (.slice Ch Cj Ci)∧w'.cell? ⟨Bn,Bo + (m + 1) * 3,none⟩=some (.bool C5)∧w'.cell? ⟨Bn,Bo + (m + 1) * 3 + 1,none⟩=some (.slice C3 C8 C4)∧w'.cell? ⟨Bn,Bo + (m + 1) * 3 + 2,none⟩=some (.slice By C1 Bz)) (by kernel_rfl) 13 ?_
    refine cq.abs ?_
    intro Bk hW
    have hb:Below wr.heap.size wr Bk:=by rw[hW];exact de _
    replace hs:=ar hs hb
    revert Bw Bm;refine mo hb ?_;intro Bw Bm
    replace Bl:=Bl.mono (C2.kept PC.kept) hb
    replace B8:=el PC.kept _ _ _ B8 hb
    replace Bd:=ah Bd hb
    replace Be:=ah Be hb
    replace Bf:=ah Bf hb
    replace B9:=ah B9 hb
    replace Ba:=ah Ba hb
    replace Bb:=ah Bb hb
    clear hb hW
    have hH:=(show Bk.cell? ⟨Bn,Bo + m * 3,none⟩=some (.bool Cm)∧Bk.cell? ⟨Bn,Bo + m * 3 + 1,none⟩=some (.slice Ck Cn Cl)∧Bk.cell? ⟨Bn,Bo + m * 3 + 2,none⟩=some (.slice Ch Cj Ci)∧Bk.cell? ⟨Bn,Bo + (m + 1) * 3,none⟩=some (.bool C5)∧Bk.cell? ⟨Bn,Bo + (m + 1) * 3 + 1,none⟩=some (.slice C3 C8 C4)∧Bk.cell? ⟨Bn,Bo + (m + 1) * 3 + 2,none⟩=some (.slice By C1 Bz) from ⟨Bd,Be,Bf,B9,Ba,Bb⟩)
    refine cz 0 ?_ ?_ hH ?_
    rotate_left
    ·(intro w B1;(try dsimp only at B1);go_simp;try with_reducible rfl)
    try simp only[LY]
    refine cz 1 ?_ ?_ hH ?_
    rotate_left
    ·(intro w B1;(try dsimp only at B1);go_simp;try with_reducible rfl)
    try simp only[LY]
    refine cz 2 ?_ ?_ hH ?_
    rotate_left
    ·(intro w B1;(try dsimp only at B1);go_simp;try with_reducible rfl)
    try simp only[LY]
    refine cz 3 ?_ ?_ hH ?_
    rotate_left
    ·(intro w B1;(try dsimp only at B1);go_simp;try with_reducible rfl)
    try simp only[LY]
    refine cz 4 ?_ ?_ hH ?_
    rotate_left
    ·(intro w B1;(try dsimp only at B1);go_simp;try with_reducible rfl)
    try simp only[LY]
    refine cz 5 ?_ ?_ hH ?_
    rotate_left
    ·(intro w B1;(try dsimp only at B1);go_simp;try with_reducible rfl)
    try simp only[LY]
    refine cz 6 ?_ ?_ hH ?_
    rotate_left
    ·(intro w B1;(try dsimp only at B1);go_simp;try with_reducible rfl)
    try simp only[LY]
    refine cz 7 ?_ ?_ hH ?_
    rotate_left
    ·(intro w B1;(try dsimp only at B1);go_simp;try with_reducible rfl)
    try simp only[LY]
    refine cz 8 ?_ ?_ hH ?_
    rotate_left
    ·(intro w B1;(try dsimp only at B1);go_simp;try with_reducible rfl)
    try simp only[LY]
    refine cz 9 ?_ ?_ hH ?_
    rotate_left
    ·(intro w B1;(try dsimp only at B1);go_simp;try with_reducible rfl)
    try simp only[LY]
    refine cz 10 ?_ ?_ hH ?_
    rotate_left
    ·(intro w B1;(try dsimp only at B1);go_simp;try with_reducible rfl)
    try simp only[LY]
    clear hH
    refine U_on 11 fun K hK=>?_
    go_simp
    generalize hWn:(Bk.alloc (.cells #[.bool Cm,.slice Ck Cn Cl,.slice Ch Cj Ci,.bool C5,.slice C3 C8 C4,.slice By C1 Bz] 164))=w43
    have hb:Below Bk.heap.size Bk w43:=by rw[←hWn];exact (Below.refl _ _).alloc (ag _) _
    have Cb:Bx w43 (Bk.heap.size) 164 #[.bool Cm,.slice Ck Cn Cl,.slice Ch Cj Ci,.bool C5,.slice C3 C8 C4,.slice By C1 Bz]:=by rw[←hWn];exact Bx.new _ _ _
    have sz_ls:=hs.size
    replace hs:=ar hs hb
    revert Bw Bm;refine mo hb ?_;intro Bw Bm
    replace Bl:=Bl.mono (C2.kept PC.kept) hb
    replace B8:=el PC.kept _ _ _ B8 hb
    replace Bd:=ah Bd hb
    replace Be:=ah Be hb
    replace Bf:=ah Bf hb
    replace B9:=ah B9 hb
    replace Ba:=ah Ba hb
    replace Bb:=ah Bb hb
    clear hb hWn
    refine hK.out _ _ ⟨Bd,Be,Bf,B9,Ba,Bb⟩ (fun hH=>?_)
    clear hK K
    try simp only[LY]
    clear hH
    refine U_on 12 fun K hK=>?_
    obtain⟨css,Cu,Cv,Cw,B7⟩:=Bl
    simp only[List.getElem_toArray,List.getElem_cons_succ,List.getElem_cons_zero]
    rw[if_pos (by rfl)]
    refine wp_append_lies _ _ _ _ (by rfl) w.heap.size 164 i0 _ 6 112 Tryz.underlying133 hi hz0 hz1 hz2 (by rfl) (by omega) _ _ css.flatten (by rfl) B7 ⟨Bk.heap.size,0,none⟩ 1 1 [.bool Cm,.slice Ck Cn Cl,.slice Ch Cj Ci,.bool C5,.slice C3 C8 C4,.slice By C1 Bz] (by rfl) (by rfl) Cb.news ?_ (by omega) ?_ ?_ ?_ _ rfl ?_
    ·intro u hu;simp only[List.mem_cons,List.mem_nil_iff,or_false] at hu;rcases hu with rfl|rfl|rfl|rfl|rfl|rfl<;>rfl
    ·unfold maxLen;(have:=prK_len Y (m / 2);omega)
    ·(have:=prK_len Y (m / 2);omega)
    ·exact hs.size
    intro gout capout w44 C6 Bc hat hlt
    have hk:=aw.owns B7 Bc (by decide)
    have ho:=iu B7 Bc
    replace Bd:=ho.cell Bd (fun h=>TyB.ne h (Rows.tyb B8 (by omega)) (by decide) rfl)
    replace Be:=ho.cell Be (fun h=>TyB.ne h (Rows.tyb B8 (by omega)) (by decide) rfl)
    replace Bf:=ho.cell Bf (fun h=>TyB.ne h (Rows.tyb B8 (by omega)) (by decide) rfl)
    replace B9:=ho.cell B9 (fun h=>TyB.ne h (Rows.tyb B8 (by omega)) (by decide) rfl)
    replace Ba:=ho.cell Ba (fun h=>TyB.ne h (Rows.tyb B8 (by omega)) (by decide) rfl)
    replace Bb:=ho.cell Bb (fun h=>TyB.ne h (Rows.tyb B8 (by omega)) (by decide) rfl)
    replace hs:=hs.grown Bc hs.size (fun k hk=>(B7.lt k hk).1)
    replace Bl:=cw.push (C2.kept PC.kept) Cu Cv Cw (x:=(bj Y m,bj Y (m + 1))) rfl ⟨[_,_,_],[_,_,_],rfl,⟨_,_,_,rfl,Bw⟩,⟨_,_,_,rfl,Bm⟩⟩ C6 hk
    revert Bw Bm;refine ke hk ?_;intro Bw Bm
    replace B8:=B8.onlyT PC.kept ho (by decide) (by decide)
    clear hk ho Cu Cv Cw B7 C6 Bc Cb
    refine hK.out _ _ ⟨Bd,Be,Bf,B9,Ba,Bb⟩ (fun hH=>?_)
    clear hK K
    try simp only[LY]
    clear hH
    refine dr (by kernel_rfl) rfl (by kernel_rfl) (fun K hK=>?_)
    go_simp
    refine hK.out _ _ ?_
    clear hK K
    intro wl hW
    rw[hW]
    clear hW wl
    try simp only[LY]
    clear Bd Be Bf B9 Ba Bb
    have AX11:IntKind.i64.wrap ((m:Int) + 2)=(m:Int) + 2:=IntWalk.i64_in _ (by omega)
    go_wp2
    go_roundw
    case rel=>exact⟨m + 2,by omega,by go_num,hs,B8,(by rw[prK_even Cs.out];exact Bl),by have:=Cs.out;omega⟩
    all_goals first|(simp[intOf];done)|(simp[intOf];omega)
   have q4d:((m:Int) + 1 < (Y.length:Int))=False:=eq_false (by omega)
   have Di:=prK_end (Y:=Y) Cs.out (by omega) (by omega)
   rw[Di] at Bl
   clear Di
   go_wp2
   go_ret
   exact⟨_,rfl,by rw[show spQ E x=prQ Y from by unfold spQ;rw[HY.out]];exact Bl.rows,hs⟩
end Go.Proofs.YtidmjdmmpajooaaGreat
