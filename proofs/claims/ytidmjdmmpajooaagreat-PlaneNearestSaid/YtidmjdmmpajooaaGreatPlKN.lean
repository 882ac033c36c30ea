/-
  plane: the union of polygons.
-/
import Derived.Test.YtidmjdmmpajooaaGreatPkV34N
import Derived.Test.YtidmjdmmpajooaaGreatPlIN
import Derived.Test.YtidmjdmmpajooaaGreatPlHN
import Derived.Test.YtidmjdmmpajooaaGreatPkV17N
import Derived.Test.YtidmjdmmpajooaaGreatPlBN
set_option linter.unusedSimpArgs false
set_option linter.unusedVariables false
set_option maxRecDepth 100000
set_option maxHeartbeats 16000000
namespace Go.Proofs.YtidmjdmmpajooaaGreat
open Go.RowKit Dg
attribute [local go_sem ↓] Go.wp_at_zero Go.wp_at_succ
def ppZ (l:List (List Pt)) (i:Nat):List Pt:=l.getD i []
theorem pp_some {l:List (List Pt)} {i:Nat} (h:i < l.length):l[i]?=some (ppZ l i):=by unfold ppZ;rw[List.getD_eq_getElem?_getD,List.getElem?_eq_getElem h];rfl
theorem pp_mem {l:List (List Pt)} {i:Nat} (h:i < l.length):ppZ l i∈l:=List.mem_of_getElem? (pp_some h)
theorem slT_s {l:List (List Pt)} {k:Nat} (h:k < l.length):(l.take (k + 1)).map slE=(l.take k).map slE ++ [slE (ppZ l k)]:=slT_succ h
theorem rowP_get {w W:World} {b o n c:Nat} {P:List (List Pt)} (h:be 1 (LRI 2 IP) w (.slice (some ⟨b,o,none⟩) n c) P) (hs:Below w.heap.size w W) {i:Nat} (hi:i < P.length):
  ∃a k,W.cell? ⟨b,o + i,none⟩=some (.slice a (ppZ P i).length k)∧(ppZ P i).length≤k∧k≤9223372036854775807∧Pts w (.slice a (ppZ P i).length k) (ppZ P i):=by
 obtain⟨a,k,h1,h2,h3,h4,_⟩:=rowLI_at h (pp_some hi)
 exact⟨a,k,ah h1 hs,h2,h3,h4⟩
theorem sl_ok {p:List Pt} (h:∀q∈p,WP 1048576 q):∀e∈slE p,my e:=by
 have hz:∀i,WP 1048576 (ptZ p i):=fun i=>by
  unfold ptZ
  rw[List.getD_eq_getElem?_getD]
  cases hi:p[i]? with
  | none=>exact⟨⟨by decide,by decide⟩,⟨by decide,by decide⟩⟩
  | some q=>exact h q (List.mem_of_getElem? hi)
 have hk:∀k,∀e∈slK p k,my e:=fun k=>by
  induction k with
  | zero=>intro e he;cases he
  | succ k ih=>
   intro e he
   unfold slK at he
   split at he
   ·exact ih e he
   rename_i hne
   rcases List.mem_append.1 he with he|he
   ·exact ih e he
   rw[List.mem_singleton] at he
   subst he
   exact⟨(hz k).mono (by decide),(hz _).mono (by decide),hne⟩
 exact hk _
theorem lr_lri {w:World} {T U:TypeId} {v:Value} {l:List (List Edg)} (h:Rows 1 T (LR 4 U IE) w v l):be 1 (LRI 4 IE) w v l:=by
 obtain⟨ao,c,e,h1,h2,h3,_,h5⟩:=h
 refine⟨ao,c,e,h1,h2,h3,fun i x hx=>?_⟩
 obtain⟨b,o,cs,q1,q2,q3,u,q4,q5⟩:=h5 i x hx
 exact⟨b,o,cs,q1,q2,q3,u,q4,q5.toI⟩
theorem c2_one (w:World) (cs:List Value) (x:Rat × Rat) (h:C2 PC w cs x):∀u∈cs,u.oneCell'=true:=by
 obtain⟨c1,c2,rfl,h1,h2⟩:=h
 intro u hu
 rcases List.mem_append.1 hu with hu|hu
 ·exact (PC.one h1).2 u hu
 exact (PC.one h2).2 u hu
theorem pl_half (w:World):Calls Tryz.prog 100 #[.int .i64 1,.int .i64 2] w (mp w (1 / 2)):=ja9 1 2 w ⟨by decide,by decide⟩ ⟨by decide,by decide⟩ (by decide)
theorem sumK_step {P:List (List Edg)} {X:List Rat} {j:Nat} (h:1≤j):uv P X (j + 1 - 1)=uv P X (j - 1) + rr P (bj X (j - 1)) (bj X j):=by
 obtain⟨j,rfl⟩:∃z,j=z + 1:=⟨j - 1,by omega⟩
 rfl
theorem ledge_info:(Tryz.prog.info? 129).map (fun i=>(i.zero,i.size,i.bytes))=some (some (.slice none 0 0),1,24):=by kernel_rfl
theorem pl_union (v:Value) (l:List (List Pt)) (w:World) (hl:be 1 (LRI 2 IP) w v l) (h1:0 < l.length) (hn:l.length≤1000) (hp:∀p∈l,p.length≤1000∧∀q∈p,WP 1048576 q) (hT:jt (l.map slE)≤24) (hS:∀p∈l,0 < (slE p).length):
  Calls Tryz.prog 79 #[v] w (mp w (uniQ l)):=by
 obtain⟨lb,lo,cap,rfl,hc1,hc2⟩:=ep hl h1
 have hs:=Below.refl w.heap.size w
 obtain⟨P,hP⟩:∃P,P=l.map slE:=⟨_,rfl⟩
 obtain⟨X,hX⟩:∃X,X=xsQ P:=⟨_,rfl⟩
 have hPl1:P.length≤l.length:=by rw[hP,List.length_map];exact ag _
 have hPl2:l.length≤P.length:=by rw[hP,List.length_map];exact ag _
 rw[←hP] at hT
 have hE:∀p∈P,∀e∈p,my e:=fun p hp'=>by
  rw[hP] at hp'
  obtain⟨q,hq,rfl⟩:=List.mem_map.1 hp'
  exact sl_ok (hp q hq).2
 have hNE:∀p∈P,0 < p.length:=fun p hp'=>by
  rw[hP] at hp'
  obtain⟨q,hq,rfl⟩:=List.mem_map.1 hp'
  exact hS q hq
 have hX1:0 < X.length:=by rw[hX];exact xs_ne (by omega) hNE
 have hX2:X.length≤624:=by rw[hX];exact xs_len hT
 have C3:=ae (show ∀y∈X,SzQ 7 y by rw[hX];exact xs_sz hE)
 have HSS:=ae (show ∀k,k + 1≤X.length→SzQ (624 * 2001 + 1) (uv P X k) from fun k hk=>(sumK_sz hE hT C3.out k hk).mono (by omega))
 have HSA:=ae (show SzQ (624 * 2001 + 1) (sumQ P X) by rw[←xk];exact HSS.out _ (by omega))
 have HLL:=ae hl
 have HP:=ae hP
 have HX:=ae hX
 have HE:=ae hE
 have HNE:=ae hNE
 have HT:=ae hT
 have HPP:=ae hp
 obtain⟨i0,hi,hz0,hz1,hz2⟩:=info_parts span_info
 obtain⟨k0,hk,hw0,hw1,hw2⟩:=info_parts ledge_info
 clear hl hX hE hNE hT hp hS hP
 go_enter Tryz.func79,Tryz.ntmps79
 go_wp2
 refine Code.abs ?_
 intro w1 hW
 have hG:Gr [] w w1:=by rw[hW];exact (Gr.refl _ _).alloc
 have sz_w1:=hs.size
 have Blk:Bx w1 (w.heap.size) 37 #[.bool false,.slice none 0 0,.slice none 0 0]:=by rw[hW];exact (Bx.new0 _ _ _)
 replace hs:=hs.trans (hG.below0 hs.size)
 clear hW hG
 have hz_w1:=Blk.lt
 go_loopw [3,15] (fun s3 s15 wq=>∃k:Nat,k≤l.length∧s15=.int .i64 k∧Below w.heap.size w wq∧Bx wq (w.heap.size) 37 #[.bool false,.slice none 0 0,.slice none 0 0]∧ru w.heap.size 129 4 69 IE wq s3 ((l.take k).map slE)) (fun s3 s15 _=>l.length - (intOf s15).toNat)
 case atStart=>exact⟨0,Nat.zero_le _,rfl,hs,Blk,ru.nil _ _ _ _ _ _⟩
 case round=>
  clear Blk hs
  obtain⟨k,k_le,rfl,hs,Blk,Cd⟩:=hrel
  obtain⟨C0,Df⟩:∃x,x=wr:=⟨_,rfl⟩
  subst Df
  by_cases q1:k < l.length
  ·have q1d:((k:Int) < (l.length:Int))=True:=eq_true (by omega)
   obtain⟨ae2,ke2,Ek,le2a,le2b,he2⟩:=rowP_get HLL.out hs (show k < l.length by omega)
   replace he2:=ae he2
   go_wp2_with fail
   clear Ek
   with_reducible refine (pl_sloped _ (ppZ l k) _ (be.mono IP.kept he2.out hs) (HPP.out _ (pp_mem (by omega))).1 (HPP.out _ (pp_mem (by omega))).2).mono ?_
   rintro e B8 ⟨_,rfl,r3,hb⟩
   obtain⟨ar3,kr3,rfl,r31,r32, -⟩:=r3.toI.slice
   replace hs:=ar hs hb
   replace Blk:=Blk.mono hb
   replace Cd:=Cd.mono IE.kept hb
   clear hb
   go_wp2_with (at_builtin;refine wpList.stop ?_)
   refine⟨?_⟩
   refine wpList.abs ?_
   intro Cl hW
   have hG:Gr [] B8 Cl:=by rw[hW];exact (Gr.refl _ _).alloc
   have Ec:=hs.size
   have Eb:=Blk.lt
   have Dj:Bx Cl (B8.heap.size) 129 #[.slice ar3 (slE (ppZ l k)).length kr3]:=by rw[hW];exact (Bx.new0 _ _ _)
   replace hs:=hs.trans (hG.below0 hs.size)
   replace r3:=el IE.kept _ _ _ r3 (hG.below0 (ag _))
   replace Blk:=hG.bx Blk wh
   replace Cd:=Cd.mono IE.kept (hG.below0 (ag _))
   clear hW hG
   have Ea:=Dj.lt
   obtain⟨css,ho1,ho2,ho3,Co⟩:=Cd
   refine wpList_append_lies _ rfl _ _ _ rfl w.heap.size 129 k0 _ 1 24 Tryz.underlying128 hk hw0 hw1 hw2 rfl (by omega) _ _ css.flatten rfl Co ⟨B8.heap.size,0,none⟩ 1 1 [.slice ar3 (slE (ppZ l k)).length kr3] rfl rfl Dj.news ?_ (by omega) ?_ ?_ ?_ _ rfl ?_
   ·intro u hu;simp only[List.mem_cons,List.mem_nil_iff,or_false] at hu;rcases hu with rfl<;>rfl
   ·unfold maxLen;(try simp only[List.length_map,List.length_take]);omega
   ·(try simp only[List.length_map,List.length_take]);omega
   ·exact hs.size
   intro gall capall w24 E0 Cz hat hlt_
   have hk_:=aw.owns Co Cz (by decide)
   have ho:=iu Co Cz
   replace hs:=hs.grown Cz hs.size (fun k hk=>(Co.lt k hk).1)
   replace Cd:=ru.push IE.kept ho1 ho2 ho3 (x:=(slE (ppZ l k))) r3 (n:=_) rfl E0 ho (by decide) (by decide)
   replace Blk:=Blk.only ho (by decide)
   replace r3:=r3.onlyT IE.kept ho (by decide) (by decide)
   clear hk_ ho ho1 ho2 ho3 Co E0 Cz hat hlt_ Dj
   go_wp2
   go_roundw
   case rel=>exact⟨k + 1,by omega,by go_num,hs,Blk,(by rw[slT_s (by omega)];have h:=Cd;rw[show ((l.take k).map slE).length=k from by simp;omega] at h;exact h)⟩
   all_goals first|(simp[intOf];done)|(simp[intOf];omega)
  have q1d:((k:Int) < (l.length:Int))=False:=eq_false (by omega)
  have Da:be 1 (LRI 4 IE) C0 u3 ((l.take l.length).map slE):=by have h:=Cd;rw[show k=l.length from by omega] at h;exact lr_lri (ru.rows h)
  rw[List.take_length,←HP.out] at Da
  clear Cd
  obtain⟨pb,po,pc,hv3,p1,p2⟩:=ep Da (by omega)
  subst hv3
  have HL:=ae Da
  clear Da
  have Eg:=ae hs
  clear hs
  have hs:=Below.refl C0.heap.size C0
  have nb_k:=Blk.lt
  go_wp2_with fail
  with_reducible refine (pl_slabs _ P _ (HL.out.monoB (LRI.keptB IE.kept) hs) (by omega) HT.out (by omega) HE.out).mono ?_
  rintro e B8 ⟨_,rfl,x3,hb⟩
  rw[←HX.out] at x3
  obtain⟨Bd,Bq,kx3,rfl,x31,x32, -⟩:=x3.open_ (by omega)
  revert Blk;refine mS hs hb ?_;clear hs hb;intro hs Blk
  go_wp2
  refine Code.abs ?_
  intro Cl hW
  have hG:Gr [] B8 Cl:=by rw[hW];exact (Gr.refl _ _).alloc
  have Bz:Below C0.heap.size B8 Cl:=hG.below0 hs.size
  have Ec:C0.heap.size≤B8.heap.size:=hs.size
  have Eb:=Blk.lt
  have Em:Bd < B8.heap.size:=x3.lt (by omega)
  have B0:Bx Cl (B8.heap.size) 37 #[.bool false,.slice none 0 0,.slice none 0 0]:=by rw[hW];exact (Bx.new0 _ _ _)
  replace hs:=hs.trans Bz
  replace x3:=el PC.kept _ _ _ x3 (hG.below0 (ag _))
  replace Blk:=hG.bx Blk wh
  clear hW hG Bz
  have Ea:=B0.lt
  go_loopw [8] (fun s8 wq=>∃j:Nat,1≤j∧j≤X.length∧s8=.int .i64 j∧Below C0.heap.size C0 wq∧Bx wq (w.heap.size) 37 #[.bool false,.slice none 0 0,.slice none 0 0]∧Rows 3 37 PC wq (.slice (some ⟨Bd,Bq,none⟩) X.length kx3) X∧BoxP wq (B8.heap.size) (uv P X (j - 1))) (fun s8 _=>X.length - (intOf s8).toNat)
  case atStart=>exact⟨1,ag _,(by omega),rfl,hs,Blk,x3,⟨_,_,_,_,_,_,_,B0,(PV.zero _)⟩⟩
  case round=>
   clear Blk B0 x3 hs
   obtain⟨j,k_ge,k_le,rfl,hs,Blk,x3,⟨Ck,Ch,Cj,Ci,Ce,Cg,Cf,B0,h4⟩⟩:=hrel
   obtain⟨Di,Df⟩:∃x,x=wr:=⟨_,rfl⟩
   subst Df
   by_cases q5:j < X.length
   ·have q5d:((j:Int) < (X.length:Int))=True:=eq_true (by omega)
    go_upto_region 12 with fail
    have SW6a:=IntWalk.i64_in ((j:Int) - 1) (by omega)
    have SW6b:(0:Int)≤(j:Int) - 1:=by omega
    have SW6c:((j:Int) - 1).toNat=(j - 1):=by omega
    have SW6d:(j:Int) - 1 < (X.length:Int):=by omega
    have SW6e:(1:Int)≤(j:Int):=by omega
    have SW6f:(j:Int) < (X.length:Int) + 1:=by omega
    have BI7a:(j - 1) < X.length:=by omega
    have BI7b:((j:Int) - 1:Int) < (X.length:Int):=by omega
    obtain⟨D9,D7,Dc,D8,D4,D6,D5,Bs,Bt,Bu,B3,le8⟩:=ug x3 (show (j - 1) < X.length by omega)
    have BI9a:j < X.length:=by omega
    have BI9b:((j:Int):Int) < (X.length:Int):=by omega
    obtain⟨Cy,Cw,D0,Cx,Ct,Cv,Cu,Be,Bf,Bg,B2,le10⟩:=ug x3 (show j < X.length by omega)
    go_cut [9] (fun kv0 wz=>∃Bj Cb C8 Ca C9 C5 C7 C6,kv0=.pointer (some ⟨Bj,0,none⟩)∧C0.heap.size≤Bj∧Bj≠w.heap.size∧Bj≠B8.heap.size∧Bd≠Bj∧Bx wz Bj 37 #[.bool Cb,.slice C8 Ca C9,.slice C5 C7 C6]∧Below C0.heap.size C0 wz∧Bx wz (w.heap.size) 37 #[.bool false,.slice none 0 0,.slice none 0 0]∧Bx wz (B8.heap.size) 37 #[.bool Ck,.slice Ch Cj Ci,.slice Ce Cg Cf]∧PV wz (.agg #[.bool Ck,.slice Ch Cj Ci,.slice Ce Cg Cf]) (uv P X (j - 1))∧PV wz (.agg #[.bool D9,.slice D7 Dc D8,.slice D4 D6 D5]) (bj X (j - 1))∧PV wz (.agg #[.bool Cy,.slice Cw D0 Cx,.slice Ct Cv Cu]) (bj X j)∧PV wz (.agg #[.bool Cb,.slice C8 Ca C9,.slice C5 C7 C6]) ((bj X (j - 1)) + bj X j)∧Rows 3 37 PC wz (.slice (some ⟨Bd,Bq,none⟩) X.length kx3) X)
    case first=>
     refine bw (S:=fun w'=>w'.cell? ⟨Bd,Bq + (j - 1) * 3,none⟩=some (.bool D9)∧w'.cell? ⟨Bd,Bq + (j - 1) * 3 + 1,none⟩=some (.slice D7 Dc D8)∧w'.cell? ⟨Bd,Bq + (j - 1) * 3 + 2,none⟩=some (.slice D4 D6 D5)∧w'.cell? ⟨Bd,Bq + j * 3,none⟩=some (.bool Cy)∧w'.cell? ⟨Bd,Bq + j * 3 + 1,none⟩=some (.slice Cw D0 Cx)∧w'.cell? ⟨Bd,Bq + j * 3 + 2,none⟩=some (.slice Ct Cv Cu)) (by kernel_rfl) 11 ?_
     refine cq.abs ?_
     intro Bh hW
     have hb:Below Di.heap.size Di Bh:=by rw[hW];exact de _
     replace hs:=ar hs hb
     revert h4 B3 B2;revert B0;revert Blk;refine mo hb ?_;intro Blk B0 h4 B3 B2
     replace x3:=el PC.kept _ _ _ x3 hb
     replace Bs:=ah Bs hb
     replace Bt:=ah Bt hb
     replace Bu:=ah Bu hb
     replace Be:=ah Be hb
     replace Bf:=ah Bf hb
     replace Bg:=ah Bg hb
     clear hb hW
     have hH:=(show Bh.cell? ⟨Bd,Bq + (j - 1) * 3,none⟩=some (.bool D9)∧Bh.cell? ⟨Bd,Bq + (j - 1) * 3 + 1,none⟩=some (.slice D7 Dc D8)∧Bh.cell? ⟨Bd,Bq + (j - 1) * 3 + 2,none⟩=some (.slice D4 D6 D5)∧Bh.cell? ⟨Bd,Bq + j * 3,none⟩=some (.bool Cy)∧Bh.cell? ⟨Bd,Bq + j * 3 + 1,none⟩=some (.slice Cw D0 Cx)∧Bh.cell? ⟨Bd,Bq + j * 3 + 2,none⟩=some (.slice Ct Cv Cu) from ⟨Bs,Bt,Bu,Be,Bf,Bg⟩)
     refine cz 0 ?_ ?_ hH ?_
     rotate_left
     ·(intro w B7;(try dsimp only at B7);go_simp;try with_reducible rfl)
     try simp only[LY]
     refine cz 1 ?_ ?_ hH ?_
     rotate_left
     ·(intro w B7;(try dsimp only at B7);go_simp;try with_reducible rfl)
     try simp only[LY]
     refine cz 2 ?_ ?_ hH ?_
     rotate_left
     ·(intro w B7;(try dsimp only at B7);go_simp;try with_reducible rfl)
     try simp only[LY]
     refine cz 3 ?_ ?_ hH ?_
     rotate_left
     ·(intro w B7;(try dsimp only at B7);go_simp;try with_reducible rfl)
     try simp only[LY]
     refine cz 4 ?_ ?_ hH ?_
     rotate_left
     ·(intro w B7;(try dsimp only at B7);go_simp;try with_reducible rfl)
     try simp only[LY]
     refine cz 5 ?_ ?_ hH ?_
     rotate_left
     ·(intro w B7;(try dsimp only at B7);go_simp;try with_reducible rfl)
     try simp only[LY]
     refine cz 6 ?_ ?_ hH ?_
     rotate_left
     ·(intro w B7;(try dsimp only at B7);go_simp;try with_reducible rfl)
     try simp only[LY]
     refine cz 7 ?_ ?_ hH ?_
     rotate_left
     ·(intro w B7;(try dsimp only at B7);go_simp;try with_reducible rfl)
     try simp only[LY]
     refine cz 8 ?_ ?_ hH ?_
     rotate_left
     ·(intro w B7;(try dsimp only at B7);go_simp;try with_reducible rfl)
     try simp only[LY]
     refine dq (i:=9) (j:=10) (by kernel_rfl) rfl rfl (fun K hK=>?_) (fun K hK=>?_)
     ·clear hH
      go_simp
      (with_reducible refine (yi B3 B2 (SzQ.fit (fw C3.out (show (j - 1) < X.length by omega))) (SzQ.fit (fw C3.out (show j < X.length by omega)))).mono ?_)
      rintro e C1 ⟨_,rfl,B9,hb⟩
      obtain⟨Cb,C8,Ca,C9,C5,C7,C6,rfl⟩:=B9.shape
      replace hs:=ar hs hb
      revert B2;revert B3;revert h4;revert B0;revert Blk;refine mo hb ?_;intro Blk B0 h4 B3 B2
      replace x3:=el PC.kept _ _ _ x3 hb
      replace Bs:=ah Bs hb
      replace Bt:=ah Bt hb
      replace Bu:=ah Bu hb
      replace Be:=ah Be hb
      replace Bf:=ah Bf hb
      replace Bg:=ah Bg hb
      clear hb
      try go_wp2_with fail
      refine hK.out _ _ ⟨Bs,Bt,Bu,Be,Bf,Bg⟩ (fun hH=>?_)
      clear hK K
      try simp only[LY]
      clear hH
      refine U_on 10 fun K hK=>?_
      go_simp
      generalize hWn:(C1.alloc (.cells #[.bool false,.slice none 0 0,.slice none 0 0] 37))=Br
      have hb:Below C1.heap.size C1 Br:=by rw[←hWn];exact (Below.refl _ _).alloc (ag _) _
      have B1:Bx Br (C1.heap.size) 37 #[.bool false,.slice none 0 0,.slice none 0 0]:=by rw[←hWn];exact Bx.new _ _ _
      have E5:w.heap.size≠C1.heap.size:=by have:=Blk.lt;omega
      have Dh:B8.heap.size≠C1.heap.size:=by have:=B0.lt;omega
      have Dl:Bd < C1.heap.size:=x3.lt (by omega)
      have Cp:C0.heap.size≤C1.heap.size:=hs.size
      replace hs:=ar hs hb
      revert B9 Blk B0 h4 B3 B2;refine mo hb ?_;intro B9 Blk B0 h4 B3 B2
      replace x3:=el PC.kept _ _ _ x3 hb
      replace Bs:=ah Bs hb
      replace Bt:=ah Bt hb
      replace Bu:=ah Bu hb
      replace Be:=ah Be hb
      replace Bf:=ah Bf hb
      replace Bg:=ah Bg hb
      clear hb hWn
      refine hK.out _ _ ⟨Bs,Bt,Bu,Be,Bf,Bg⟩ (fun hH=>?_)
      clear hK K
      try simp only[LY]
      clear hH
      refine B1.k3fl fun Ba Bb Bc Ei Eh=>?_
      refine dr (by kernel_rfl) rfl (by kernel_rfl) (fun K hK=>?_)
      go_simp
      refine hK.out _ _ ?_
      clear hK K
      intro C4 hW
      have hG:Gr [C1.heap.size] Br C4:=by rw[hW];exact (Gr.refl _ _).set.set.set
      have D1:=hs.size
      have Db:=B1.lt
      have Bz:Below C0.heap.size Br C4:=hG.d1 hs.size
      have hk:=hG.keep ⟨⟨_,B1.ty,by decide⟩,True.intro⟩
      have Cc:Bx C4 (C1.heap.size) 37 #[.bool Cb,.slice C8 Ca C9,.slice C5 C7 C6]:=by rw[hW];exact B1.set3
      replace hs:=hs.trans Bz
      replace x3:=x3.gr PC.kept hG (az (by omega)) hk
      replace Blk:=hG.b1 Blk
      replace B0:=hG.b1 B0
      replace B1:=Cc
      clear Cc
      revert B9 h4 B3 B2;refine ke hk ?_;intro B9 h4 B3 B2
      clear hW hG hk Bz D1 Db
      try simp only[LY]
      clear Bs Bt Bu Be Bf Bg
      go_wp2_with fail
      go_meet
      exact⟨C1.heap.size,_,_,_,_,_,_,_,rfl,(by first|exact Cp|omega),(by omega),(by omega),(by omega),B1,hs,Blk,B0,h4,B3,B2,B9,x3⟩
     clear hH
     go_simp
     generalize hWn:(Bh.alloc (.cells #[.bool false,.slice none 0 0,.slice none 0 0] 37))=C1
     have hb:Below Bh.heap.size Bh C1:=by rw[←hWn];exact (Below.refl _ _).alloc (ag _) _
     have B1:Bx C1 (Bh.heap.size) 37 #[.bool false,.slice none 0 0,.slice none 0 0]:=by rw[←hWn];exact Bx.new _ _ _
     have E5:w.heap.size≠Bh.heap.size:=by have:=Blk.lt;omega
     have Dh:B8.heap.size≠Bh.heap.size:=by have:=B0.lt;omega
     have Dl:Bd < Bh.heap.size:=x3.lt (by omega)
     have Cp:C0.heap.size≤Bh.heap.size:=hs.size
     replace hs:=ar hs hb
     revert Blk B0 h4 B3 B2;refine mo hb ?_;intro Blk B0 h4 B3 B2
     replace x3:=el PC.kept _ _ _ x3 hb
     replace Bs:=ah Bs hb
     replace Bt:=ah Bt hb
     replace Bu:=ah Bu hb
     replace Be:=ah Be hb
     replace Bf:=ah Bf hb
     replace Bg:=ah Bg hb
     clear hb hWn
     refine hK.out _ _ ⟨Bs,Bt,Bu,Be,Bf,Bg⟩ (fun hH=>?_)
     clear hK K
     try simp only[LY]
     clear hH
     refine U_on 9 fun K hK=>?_
     go_simp
     (with_reducible refine (yi B3 B2 (SzQ.fit (fw C3.out (show (j - 1) < X.length by omega))) (SzQ.fit (fw C3.out (show j < X.length by omega)))).mono ?_)
     rintro e Br ⟨_,rfl,B9,hb⟩
     obtain⟨Cb,C8,Ca,C9,C5,C7,C6,rfl⟩:=B9.shape
     replace hs:=ar hs hb
     revert B2;revert B3;revert h4;revert B0;revert Blk;revert B1;refine mo hb ?_;intro B1 Blk B0 h4 B3 B2
     replace x3:=el PC.kept _ _ _ x3 hb
     replace Bs:=ah Bs hb
     replace Bt:=ah Bt hb
     replace Bu:=ah Bu hb
     replace Be:=ah Be hb
     replace Bf:=ah Bf hb
     replace Bg:=ah Bg hb
     clear hb
     try go_wp2_with fail
     refine hK.out _ _ ⟨Bs,Bt,Bu,Be,Bf,Bg⟩ (fun hH=>?_)
     clear hK K
     try simp only[LY]
     clear hH
     refine B1.k3fl fun Ba Bb Bc Ei Eh=>?_
     refine dr (by kernel_rfl) rfl (by kernel_rfl) (fun K hK=>?_)
     go_simp
     refine hK.out _ _ ?_
     clear hK K
     intro C4 hW
     have hG:Gr [Bh.heap.size] Br C4:=by rw[hW];exact (Gr.refl _ _).set.set.set
     have D1:=hs.size
     have Db:=B1.lt
     have Bz:Below C0.heap.size Br C4:=hG.d1 hs.size
     have hk:=hG.keep ⟨⟨_,B1.ty,by decide⟩,True.intro⟩
     have Cc:Bx C4 (Bh.heap.size) 37 #[.bool Cb,.slice C8 Ca C9,.slice C5 C7 C6]:=by rw[hW];exact B1.set3
     replace hs:=hs.trans Bz
     replace x3:=x3.gr PC.kept hG (az (by omega)) hk
     replace Blk:=hG.b1 Blk
     replace B0:=hG.b1 B0
     replace B1:=Cc
     clear Cc
     revert B9 h4 B3 B2;refine ke hk ?_;intro B9 h4 B3 B2
     clear hW hG hk Bz D1 Db
     try simp only[LY]
     clear Bs Bt Bu Be Bf Bg
     go_wp2_with fail
     go_meet
     exact⟨Bh.heap.size,_,_,_,_,_,_,_,rfl,(by first|exact Cp|omega),(by omega),(by omega),(by omega),B1,hs,Blk,B0,h4,B3,B2,B9,x3⟩
    case rest=>
     clear hs Bs Bt Bu Be Bf Bg Blk B0 h4 B3 B2 x3
     obtain⟨Bj,Cb,C8,Ca,C9,C5,C7,C6,rfl,El,Ej,Ed,Ee,B1,hs,Blk,B0,h4,B3,B2,B9,x3⟩:=hcut
     have HMZ:=ae (show SzQ 24 (((bj X (j - 1)) + bj X j) * (1 / 2)) from (SzQ.mul (SzQ.add (fw C3.out (show (j - 1) < X.length by omega)) (fw C3.out (show j < X.length by omega))) ja4).mono (by decide))
     have HHZ:=ae (show ∀i,i < (hrK P (((bj X (j - 1)) + bj X j) * (1 / 2)) P.length).length→SzQ 100 (mr (hrK P (((bj X (j - 1)) + bj X j) * (1 / 2)) P.length) i).1∧SzQ 100 (mr (hrK P (((bj X (j - 1)) + bj X j) * (1 / 2)) P.length) i).2 from fun i hi=>nthS_mem (Q:=fun s=>SzQ 100 s.1∧SzQ 100 s.2) (fun s hs=>⟨(hr_sz HE.out HMZ.out _ s hs).1.mono (by decide),(hr_sz HE.out HMZ.out _ s hs).2.mono (by decide)⟩) hi)
     have HLS:=ae (show SzQ 1700 (lnQ (xi (hrK P (((bj X (j - 1)) + bj X j) * (1 / 2)) P.length))) from (lnQ_sz (N:=24) (hr_sz HE.out HMZ.out _) (Nat.le_trans (ja5 P _ _) HT.out)).mono (by decide))
     go_wp2
     go_loopw [10,45] (fun s10 s45 wq=>∃i:Nat,i≤P.length∧s45=.int .i64 i∧Below C0.heap.size C0 wq∧Bx wq (w.heap.size) 37 #[.bool false,.slice none 0 0,.slice none 0 0]∧Bx wq (B8.heap.size) 37 #[.bool Ck,.slice Ch Cj Ci,.slice Ce Cg Cf]∧Bx wq (Bj) 37 #[.bool Cb,.slice C8 Ca C9,.slice C5 C7 C6]∧PV wq (.agg #[.bool Ck,.slice Ch Cj Ci,.slice Ce Cg Cf]) (uv P X (j - 1))∧PV wq (.agg #[.bool D9,.slice D7 Dc D8,.slice D4 D6 D5]) (bj X (j - 1))∧PV wq (.agg #[.bool Cy,.slice Cw D0 Cx,.slice Ct Cv Cu]) (bj X j)∧PV wq (.agg #[.bool Cb,.slice C8 Ca C9,.slice C5 C7 C6]) ((bj X (j - 1)) + bj X j)∧Rows 3 37 PC wq (.slice (some ⟨Bd,Bq,none⟩) X.length kx3) X∧cw C0.heap.size 164 6 (C2 PC) wq s10 (hrK P (((bj X (j - 1)) + bj X j) * (1 / 2)) i)) (fun s10 s45 _=>P.length - (intOf s45).toNat)
     case atStart=>exact⟨0,Nat.zero_le _,rfl,hs,Blk,B0,B1,h4,B3,B2,B9,x3,cw.nil _ _ _ _ _⟩
     case round=>
      clear Blk B0 B1 h4 B3 B2 B9 x3 hs
      obtain⟨i,i_le,rfl,hs,Blk,B0,B1,h4,B3,B2,B9,x3,Bi⟩:=hrel
      obtain⟨E4,Df⟩:∃x,x=wr:=⟨_,rfl⟩
      subst Df
      by_cases q12:i < P.length
      ·have q12d:((i:Int) < (P.length:Int))=True:=eq_true (by omega)
       obtain⟨ae13,ke13,Ef,le13a,le13b,Dk⟩:=jf1 HL.out hs (show i < P.length by omega)
       replace Dk:=ae Dk
       go_upto_region 17 with fail
       clear Ef
       refine bw (S:=fun w'=>w'.cell? ⟨Bj,0,none⟩=some (.bool Cb)∧w'.cell? ⟨Bj,1,none⟩=some (.slice C8 Ca C9)∧w'.cell? ⟨Bj,2,none⟩=some (.slice C5 C7 C6)) (by kernel_rfl) 7 ?_
       refine cq.abs ?_
       intro By hW
       have hb:Below E4.heap.size E4 By:=by rw[hW];exact de _
       replace hs:=ar hs hb
       revert B9;revert B2;revert B3;revert h4;revert B1;revert B0;revert Blk;refine mo hb ?_;intro Blk B0 B1 h4 B3 B2 B9
       replace Bi:=Bi.mono (C2.kept PC.kept) hb
       replace x3:=el PC.kept _ _ _ x3 hb
       clear hb hW
       refine B1.k3 fun Ba Bb Bc=>?_
       have hH:=(show By.cell? ⟨Bj,0,none⟩=some (.bool Cb)∧By.cell? ⟨Bj,1,none⟩=some (.slice C8 Ca C9)∧By.cell? ⟨Bj,2,none⟩=some (.slice C5 C7 C6) from ⟨Ba,Bb,Bc⟩)
       refine cz 0 ?_ ?_ hH ?_
       rotate_left
       ·(intro w B7;(try dsimp only at B7);go_simp;try with_reducible rfl)
       try simp only[LY]
       refine cz 1 ?_ ?_ hH ?_
       rotate_left
       ·(intro w B7;(try dsimp only at B7);go_simp;try with_reducible rfl)
       try simp only[LY]
       refine cz 2 ?_ ?_ hH ?_
       rotate_left
       ·(intro w B7;(try dsimp only at B7);go_simp;try with_reducible rfl)
       try simp only[LY]
       clear hH
       refine U_on 3 fun K hK=>?_
       go_simp
       (with_reducible refine (pl_half _).mono ?_)
       rintro e w65 ⟨_,rfl,Cq,hb⟩
       obtain⟨sh14,ah14,nh14,ch14,Ah14,Nh14,Ch14,rfl⟩:=Cq.shape
       replace hs:=ar hs hb
       revert B9;revert B2;revert B3;revert h4;revert B1;revert B0;revert Blk;refine mo hb ?_;intro Blk B0 B1 h4 B3 B2 B9
       replace Bi:=Bi.mono (C2.kept PC.kept) hb
       replace x3:=el PC.kept _ _ _ x3 hb
       replace Ba:=ah Ba hb
       replace Bb:=ah Bb hb
       replace Bc:=ah Bc hb
       clear hb
       try go_wp2_with fail
       refine hK.out _ _ ⟨Ba,Bb,Bc⟩ (fun hH=>?_)
       clear hK K
       try simp only[LY]
       clear hH
       refine U_on 4 fun K hK=>?_
       go_simp
       (with_reducible refine (pMul B9 Cq (SzQ.fit (SzQ.add (fw C3.out (show (j - 1) < X.length by omega)) (fw C3.out (show j < X.length by omega)))) (SzQ.fit ja4)).mono ?_)
       rintro e w66 ⟨_,rfl,D2,hb⟩
       obtain⟨sh15,ah15,nh15,ch15,Ah15,Nh15,Ch15,rfl⟩:=D2.shape
       replace hs:=ar hs hb
       revert B9;revert B2;revert B3;revert h4;revert B1;revert B0;revert Blk;revert Cq;refine mo hb ?_;intro Cq Blk B0 B1 h4 B3 B2 B9
       replace Bi:=Bi.mono (C2.kept PC.kept) hb
       replace x3:=el PC.kept _ _ _ x3 hb
       replace Ba:=ah Ba hb
       replace Bb:=ah Bb hb
       replace Bc:=ah Bc hb
       clear hb
       try go_wp2_with fail
       refine hK.out _ _ ⟨Ba,Bb,Bc⟩ (fun hH=>?_)
       clear hK K
       try simp only[LY]
       clear hH
       refine U_on 5 fun K hK=>?_
       go_simp
       (with_reducible refine (pl_spans _ (lsZ P i) _ _ _ (be.mono IE.kept Dk.out hs) (HNE.out _ (List.mem_of_getElem? (qy (by omega)))) (Nat.le_trans (totE_nth (by omega)) HT.out) (HE.out _ (List.mem_of_getElem? (qy (by omega)))) D2 ((SzQ.mul (SzQ.add (fw C3.out (show (j - 1) < X.length by omega)) (fw C3.out (show j < X.length by omega))) ja4).mono (by decide))).mono ?_)
       rintro e w67 ⟨_,rfl,Dm,hb⟩
       obtain⟨asp16,ksp16,rfl,sp161,sp162, -⟩:=Dm.toI.slice
       replace hs:=ar hs hb
       revert B9;revert B2;revert B3;revert h4;revert B1;revert B0;revert Blk;revert Cq;revert D2;refine mo hb ?_;intro D2 Cq Blk B0 B1 h4 B3 B2 B9
       replace Bi:=Bi.mono (C2.kept PC.kept) hb
       replace x3:=el PC.kept _ _ _ x3 hb
       replace Ba:=ah Ba hb
       replace Bb:=ah Bb hb
       replace Bc:=ah Bc hb
       clear hb
       try go_wp2_with fail
       refine hK.out _ _ ⟨Ba,Bb,Bc⟩ (fun hH=>?_)
       clear hK K
       try simp only[LY]
       clear hH
       refine U_on 6 fun K hK=>?_
       have hlh:=ja5 P (((bj X (j - 1)) + bj X j) * (1 / 2)) i
       have hls:=ja5 P (((bj X (j - 1)) + bj X j) * (1 / 2)) (i + 1)
       rw[hrK_succ (by omega),List.length_append] at hls
       have hT24:=HT.out
       simp only[List.getElem_toArray,List.getElem_cons_succ,List.getElem_cons_zero]
       rw[if_pos (by rfl)]
       refine jg1 _ _ (C2.kept PC.kept) c2_one (by decide) (by rfl) Tryz.underlying133 hi hz0 hz1 hz2 (by rfl) (by omega) (by rfl) (by rfl) Bi Dm (by unfold maxLen;omega) (by omega) hs.size ?_
       intro vN Cs hON De ho
       replace Bi:=hON
       clear hON hlh hls hT24 Dm
       have hk:=aw.of_only ho (by decide)
       replace hs:=hs.trans De
       replace Blk:=Blk.only ho (by decide)
       replace B0:=B0.only ho (by decide)
       replace B1:=B1.only ho (by decide)
       revert D2 Cq h4 B3 B2 B9;refine ke hk ?_;intro D2 Cq h4 B3 B2 B9
       replace x3:=x3.onlyT PC.kept ho (by decide) (by decide)
       clear hk De ho
       replace Ba:=B1.at 0 rfl
       replace Bb:=B1.at 1 rfl
       replace Bc:=B1.at 2 rfl
       refine hK.out _ _ ⟨Ba,Bb,Bc⟩ (fun hH=>?_)
       clear hK K
       try simp only[LY]
       clear hH
       refine dr (by kernel_rfl) rfl (by kernel_rfl) (fun K hK=>?_)
       go_simp
       refine hK.out _ _ ?_
       clear hK K
       intro wl hW
       rw[hW]
       clear hW wl
       try simp only[LY]
       clear Ba Bb Bc
       go_wp2
       go_roundw
       case rel=>exact⟨i + 1,by omega,by go_num,hs,Blk,B0,B1,h4,B3,B2,B9,x3,(by rw[hrK_succ (by omega)];exact Bi)⟩
       all_goals first|(simp[intOf];done)|(simp[intOf];omega)
      have q12d:((i:Int) < (P.length:Int))=False:=eq_false (by omega)
      go_upto_region 19 with fail
      have BI13a:j < X.length:=by omega
      have BI13b:((j:Int):Int) < (X.length:Int):=by omega
      obtain⟨Dx,Dt,E1,Dv,Dn,Dr,Dp,Bk,Bl,Bm,Bv,le14⟩:=ug x3 (show j < X.length by omega)
      have SW15a:=IntWalk.i64_in ((j:Int) - 1) (by omega)
      have SW15b:(0:Int)≤(j:Int) - 1:=by omega
      have SW15c:((j:Int) - 1).toNat=(j - 1):=by omega
      have SW15d:(j:Int) - 1 < (X.length:Int):=by omega
      have SW15e:(1:Int)≤(j:Int):=by omega
      have SW15f:(j:Int) < (X.length:Int) + 1:=by omega
      have BI16a:(j - 1) < X.length:=by omega
      have BI16b:((j:Int) - 1:Int) < (X.length:Int):=by omega
      obtain⟨Dy,Du,E2,Dw,Do,Ds,Dq,Bn,Bo,Bp,Bw,le17⟩:=ug x3 (show (j - 1) < X.length by omega)
      refine bw (S:=fun w'=>w'.cell? ⟨B8.heap.size,0,none⟩=some (.bool Ck)∧w'.cell? ⟨B8.heap.size,1,none⟩=some (.slice Ch Cj Ci)∧w'.cell? ⟨B8.heap.size,2,none⟩=some (.slice Ce Cg Cf)∧w'.cell? ⟨Bd,Bq + j * 3,none⟩=some (.bool Dx)∧w'.cell? ⟨Bd,Bq + j * 3 + 1,none⟩=some (.slice Dt E1 Dv)∧w'.cell? ⟨Bd,Bq + j * 3 + 2,none⟩=some (.slice Dn Dr Dp)∧w'.cell? ⟨Bd,Bq + (j - 1) * 3,none⟩=some (.bool Dy)∧w'.cell? ⟨Bd,Bq + (j - 1) * 3 + 1,none⟩=some (.slice Du E2 Dw)∧w'.cell? ⟨Bd,Bq + (j - 1) * 3 + 2,none⟩=some (.slice Do Ds Dq)) (by kernel_rfl) 15 ?_
      refine cq.abs ?_
      intro By hW
      have hb:Below E4.heap.size E4 By:=by rw[hW];exact de _
      replace hs:=ar hs hb
      revert B9 Bv Bw;revert B2;revert B3;revert h4;revert B1;revert B0;revert Blk;refine mo hb ?_;intro Blk B0 B1 h4 B3 B2 B9 Bv Bw
      replace Bi:=Bi.mono (C2.kept PC.kept) hb
      replace x3:=el PC.kept _ _ _ x3 hb
      replace Bk:=ah Bk hb
      replace Bl:=ah Bl hb
      replace Bm:=ah Bm hb
      replace Bn:=ah Bn hb
      replace Bo:=ah Bo hb
      replace Bp:=ah Bp hb
      clear hb hW
      refine B0.k3 fun B4 B5 B6=>?_
      have hH:=(show By.cell? ⟨B8.heap.size,0,none⟩=some (.bool Ck)∧By.cell? ⟨B8.heap.size,1,none⟩=some (.slice Ch Cj Ci)∧By.cell? ⟨B8.heap.size,2,none⟩=some (.slice Ce Cg Cf)∧By.cell? ⟨Bd,Bq + j * 3,none⟩=some (.bool Dx)∧By.cell? ⟨Bd,Bq + j * 3 + 1,none⟩=some (.slice Dt E1 Dv)∧By.cell? ⟨Bd,Bq + j * 3 + 2,none⟩=some (.slice Dn Dr Dp)∧By.cell? ⟨Bd,Bq + (j - 1) * 3,none⟩=some (.bool Dy)∧By.cell? ⟨Bd,Bq + (j - 1) * 3 + 1,none⟩=some (.slice Du E2 Dw)∧By.cell? ⟨Bd,Bq + (j - 1) * 3 + 2,none⟩=some (.slice Do Ds Dq) from ⟨B4,B5,B6,Bk,Bl,Bm,Bn,Bo,Bp⟩)
      refine cz 0 ?_ ?_ hH ?_
      rotate_left
      ·(intro w B7;(try dsimp only at B7);go_simp;try with_reducible rfl)
      try simp only[LY]
      refine cz 1 ?_ ?_ hH ?_
      rotate_left
      ·(intro w B7;(try dsimp only at B7);go_simp;try with_reducible rfl)
      try simp only[LY]
      refine cz 2 ?_ ?_ hH ?_
      rotate_left
      ·(intro w B7;(try dsimp only at B7);go_simp;try with_reducible rfl)
      try simp only[LY]
      refine cz 3 ?_ ?_ hH ?_
      rotate_left
      ·(intro w B7;(try dsimp only at B7);go_simp;try with_reducible rfl)
      try simp only[LY]
      refine cz 4 ?_ ?_ hH ?_
      rotate_left
      ·(intro w B7;(try dsimp only at B7);go_simp;try with_reducible rfl)
      try simp only[LY]
      refine cz 5 ?_ ?_ hH ?_
      rotate_left
      ·(intro w B7;(try dsimp only at B7);go_simp;try with_reducible rfl)
      try simp only[LY]
      refine cz 6 ?_ ?_ hH ?_
      rotate_left
      ·(intro w B7;(try dsimp only at B7);go_simp;try with_reducible rfl)
      try simp only[LY]
      refine cz 7 ?_ ?_ hH ?_
      rotate_left
      ·(intro w B7;(try dsimp only at B7);go_simp;try with_reducible rfl)
      try simp only[LY]
      refine cz 8 ?_ ?_ hH ?_
      rotate_left
      ·(intro w B7;(try dsimp only at B7);go_simp;try with_reducible rfl)
      try simp only[LY]
      refine cz 9 ?_ ?_ hH ?_
      rotate_left
      ·(intro w B7;(try dsimp only at B7);go_simp;try with_reducible rfl)
      try simp only[LY]
      refine cz 11 ?_ ?_ hH ?_
      rotate_left
      ·(intro w B7;(try dsimp only at B7);go_simp;try with_reducible rfl)
      try simp only[LY]
      clear hH
      refine U_on 10 fun K hK=>?_
      go_simp
      (with_reducible refine (pSub Bv Bw (SzQ.fit (fw C3.out (show j < X.length by omega))) (SzQ.fit (fw C3.out (show (j - 1) < X.length by omega)))).mono ?_)
      rintro e w65 ⟨_,rfl,Cm,hb⟩
      obtain⟨sh18,ah18,nh18,ch18,Ah18,Nh18,Ch18,rfl⟩:=Cm.shape
      replace hs:=ar hs hb
      revert Bw;revert Bv;revert B9;revert B2;revert B3;revert h4;revert B1;revert B0;revert Blk;refine mo hb ?_;intro Blk B0 B1 h4 B3 B2 B9 Bv Bw
      replace Bi:=Bi.mono (C2.kept PC.kept) hb
      replace x3:=el PC.kept _ _ _ x3 hb
      replace B4:=ah B4 hb
      replace B5:=ah B5 hb
      replace B6:=ah B6 hb
      replace Bk:=ah Bk hb
      replace Bl:=ah Bl hb
      replace Bm:=ah Bm hb
      replace Bn:=ah Bn hb
      replace Bo:=ah Bo hb
      replace Bp:=ah Bp hb
      clear hb
      try go_wp2_with fail
      refine hK.out _ _ ⟨B4,B5,B6,Bk,Bl,Bm,Bn,Bo,Bp⟩ (fun hH=>?_)
      clear hK K
      try simp only[LY]
      clear hH
      refine U_on 12 fun K hK=>?_
      go_simp
      have hOL:cw C0.heap.size 164 6 (C2 PC) w65 u10 (hrK P (((bj X (j - 1)) + bj X j) * (1 / 2)) P.length):=by have h:=Bi;rwa [show i=P.length from by omega] at h
      clear Bi
      (with_reducible refine (pl_length _ _ _ hOL hs.size (Nat.le_trans (ja5 P _ _) (Nat.le_trans HT.out (by decide))) (fun q hq=>HHZ.out q hq)).mono ?_)
      rintro e w66 ⟨_,rfl,Cr,De,ho⟩
      obtain⟨sh19,ah19,nh19,ch19,Ah19,Nh19,Ch19,rfl⟩:=Cr.shape
      clear hOL
      have hk:=aw.of_only ho (by decide)
      replace hs:=hs.trans De
      replace Blk:=Blk.only ho (by decide)
      replace B0:=B0.only ho (by decide)
      replace B1:=B1.only ho (by decide)
      revert Bw;revert Bv;revert B9;revert B2;revert B3;revert h4;revert Cm;refine ke hk ?_;intro Cm h4 B3 B2 B9 Bv Bw
      replace Bk:=ho.cell Bk (fun h=>TyB.ne h (Rows.tyb x3 (by omega)) (by decide) rfl)
      replace Bl:=ho.cell Bl (fun h=>TyB.ne h (Rows.tyb x3 (by omega)) (by decide) rfl)
      replace Bm:=ho.cell Bm (fun h=>TyB.ne h (Rows.tyb x3 (by omega)) (by decide) rfl)
      replace Bn:=ho.cell Bn (fun h=>TyB.ne h (Rows.tyb x3 (by omega)) (by decide) rfl)
      replace Bo:=ho.cell Bo (fun h=>TyB.ne h (Rows.tyb x3 (by omega)) (by decide) rfl)
      replace Bp:=ho.cell Bp (fun h=>TyB.ne h (Rows.tyb x3 (by omega)) (by decide) rfl)
      replace x3:=x3.onlyT PC.kept ho (by decide) (by decide)
      clear hk De ho
      replace B4:=B0.at 0 rfl
      replace B5:=B0.at 1 rfl
      replace B6:=B0.at 2 rfl
      try go_wp2_with fail
      refine hK.out _ _ ⟨B4,B5,B6,Bk,Bl,Bm,Bn,Bo,Bp⟩ (fun hH=>?_)
      clear hK K
      try simp only[LY]
      clear hH
      refine U_on 13 fun K hK=>?_
      go_simp
      (with_reducible refine (pMul Cm Cr (SzQ.fit (SzQ.sub (fw C3.out (show j < X.length by omega)) (fw C3.out (show (j - 1) < X.length by omega)))) (SzQ.fit HLS.out)).mono ?_)
      rintro e w67 ⟨_,rfl,D3,hb⟩
      obtain⟨sh20,ah20,nh20,ch20,Ah20,Nh20,Ch20,rfl⟩:=D3.shape
      replace hs:=ar hs hb
      revert Bw;revert Bv;revert B9;revert B2;revert B3;revert h4;revert Cm;revert B1;revert B0;revert Blk;revert Cr;refine mo hb ?_;intro Cr Blk B0 B1 Cm h4 B3 B2 B9 Bv Bw
      replace x3:=el PC.kept _ _ _ x3 hb
      replace B4:=ah B4 hb
      replace B5:=ah B5 hb
      replace B6:=ah B6 hb
      replace Bk:=ah Bk hb
      replace Bl:=ah Bl hb
      replace Bm:=ah Bm hb
      replace Bn:=ah Bn hb
      replace Bo:=ah Bo hb
      replace Bp:=ah Bp hb
      clear hb
      try go_wp2_with fail
      refine hK.out _ _ ⟨B4,B5,B6,Bk,Bl,Bm,Bn,Bo,Bp⟩ (fun hH=>?_)
      clear hK K
      try simp only[LY]
      clear hH
      refine U_on 14 fun K hK=>?_
      go_simp
      (with_reducible refine (yi h4 D3 (SzQ.fit (HSS.out (j - 1) (by omega))) (SzQ.fit (SzQ.mul (SzQ.sub (fw C3.out (show j < X.length by omega)) (fw C3.out (show (j - 1) < X.length by omega))) HLS.out))).mono ?_)
      rintro e Cs ⟨_,rfl,Dz,hb⟩
      obtain⟨sh21,ah21,nh21,ch21,Ah21,Nh21,Ch21,rfl⟩:=Dz.shape
      replace hs:=ar hs hb
      revert Bw;revert Bv;revert B9;revert B2;revert B3;revert h4;revert Cm;revert B1;revert B0;revert Blk;revert Cr;revert D3;refine mo hb ?_;intro D3 Cr Blk B0 B1 Cm h4 B3 B2 B9 Bv Bw
      replace x3:=el PC.kept _ _ _ x3 hb
      replace B4:=ah B4 hb
      replace B5:=ah B5 hb
      replace B6:=ah B6 hb
      replace Bk:=ah Bk hb
      replace Bl:=ah Bl hb
      replace Bm:=ah Bm hb
      replace Bn:=ah Bn hb
      replace Bo:=ah Bo hb
      replace Bp:=ah Bp hb
      clear hb
      try go_wp2_with fail
      refine hK.out _ _ ⟨B4,B5,B6,Bk,Bl,Bm,Bn,Bo,Bp⟩ (fun hH=>?_)
      clear hK K
      try simp only[LY]
      clear hH
      refine B0.k3fl fun B4 B5 B6 fsum Lsum=>?_
      refine dr (by kernel_rfl) rfl (by kernel_rfl) (fun K hK=>?_)
      go_simp
      refine hK.out _ _ ?_
      clear hK K
      intro E3 hW
      have hG:Gr [B8.heap.size] Cs E3:=by rw[hW];exact (Gr.refl _ _).set.set.set
      have D1:=hs.size
      have lsum:=B0.lt
      have Bz:Below C0.heap.size Cs E3:=hG.d1 hs.size
      have hk:=hG.keep ⟨⟨_,B0.ty,by decide⟩,True.intro⟩
      have Dd:Bx E3 (B8.heap.size) 37 #[.bool sh21,.slice ah21 nh21 ch21,.slice Ah21 Nh21 Ch21]:=by rw[hW];exact B0.set3
      replace hs:=hs.trans Bz
      replace x3:=x3.gr PC.kept hG (az (by omega)) hk
      replace Blk:=hG.b1 Blk
      replace B1:=hG.b1 B1
      replace B0:=Dd
      clear Dd
      revert Dz D3 Cr Cm h4 B3 B2 B9 Bv Bw;refine ke hk ?_;intro Dz D3 Cr Cm h4 B3 B2 B9 Bv Bw
      clear hW hG hk Bz D1 lsum
      try simp only[LY]
      clear B4 B5 B6 Bk Bl Bm Bn Bo Bp
      go_wp2
      go_roundw
      case rel=>exact⟨j + 1,by omega,by omega,by go_num,hs,Blk,x3,⟨_,_,_,_,_,_,_,B0,(Dz.of_eq (by rw[sumK_step k_ge];unfold rr;rw[←hrK_all]))⟩⟩
      all_goals first|(simp[intOf];done)|(simp[intOf];omega)
   have q5d:((j:Int) < (X.length:Int))=False:=eq_false (by omega)
   clear x3
   have Cn:PV Di (.agg #[.bool Ck,.slice Ch Cj Ci,.slice Ce Cg Cf]) (sumQ P X):=h4.of_eq (by rw[show j=X.length from by omega];exact xk P X)
   clear h4
   replace hs:=ar Eg.out hs
   go_upto_region 20 with fail
   refine bw (S:=fun w'=>w'.cell? ⟨B8.heap.size,0,none⟩=some (.bool Ck)∧w'.cell? ⟨B8.heap.size,1,none⟩=some (.slice Ch Cj Ci)∧w'.cell? ⟨B8.heap.size,2,none⟩=some (.slice Ce Cg Cf)) (by kernel_rfl) 3 ?_
   refine cq.abs ?_
   intro Bh hW
   have hb:Below Di.heap.size Di Bh:=by rw[hW];exact de _
   replace hs:=ar hs hb
   revert B0 Cn;revert Blk;refine mo hb ?_;intro Blk B0 Cn
   clear hb hW
   refine B0.k3 fun B4 B5 B6=>?_
   have hH:=(show Bh.cell? ⟨B8.heap.size,0,none⟩=some (.bool Ck)∧Bh.cell? ⟨B8.heap.size,1,none⟩=some (.slice Ch Cj Ci)∧Bh.cell? ⟨B8.heap.size,2,none⟩=some (.slice Ce Cg Cf) from ⟨B4,B5,B6⟩)
   refine cz 0 ?_ ?_ hH ?_
   rotate_left
   ·(intro w B7;(try dsimp only at B7);go_simp;try with_reducible rfl)
   try simp only[LY]
   clear hH
   refine U_on 1 fun K hK=>?_
   go_simp
   (with_reducible refine (fh 2 _ ((show Wn 1000 2 from Wn.lit (by decide) (by decide)).mono (by decide))).mono ?_)
   rintro e C1 ⟨_,rfl,h6,hb⟩
   obtain⟨sh6,ah6,nh6,ch6,Ah6,Nh6,Ch6,rfl⟩:=h6.shape
   replace hs:=ar hs hb
   revert Cn;revert B0;revert Blk;refine mo hb ?_;intro Blk B0 Cn
   replace B4:=ah B4 hb
   replace B5:=ah B5 hb
   replace B6:=ah B6 hb
   clear hb
   try go_wp2_with fail
   refine hK.out _ _ ⟨B4,B5,B6⟩ (fun hH=>?_)
   clear hK K
   try simp only[LY]
   clear hH
   refine U_on 2 fun K hK=>?_
   go_simp
   (with_reducible refine (pMul Cn h6 (SzQ.fit HSA.out) (SzQ.fit (szN ((show Wn 1000 2 from Wn.lit (by decide) (by decide)).mono (by decide))))).mono ?_)
   rintro e Br ⟨_,rfl,h7,hb⟩
   obtain⟨sh7,ah7,nh7,ch7,Ah7,Nh7,Ch7,rfl⟩:=h7.shape
   replace hs:=ar hs hb
   revert Cn;revert B0;revert Blk;revert h6;refine mo hb ?_;intro h6 Blk B0 Cn
   replace B4:=ah B4 hb
   replace B5:=ah B5 hb
   replace B6:=ah B6 hb
   clear hb
   try go_wp2_with fail
   refine hK.out _ _ ⟨B4,B5,B6⟩ (fun hH=>?_)
   clear hK K
   try simp only[LY]
   clear hH
   refine Blk.k3fl fun E7 E8 E9 fk Lk=>?_
   refine dr (by kernel_rfl) rfl (by kernel_rfl) (fun K hK=>?_)
   go_simp
   refine hK.out _ _ ?_
   clear hK K
   intro C4 hW
   have hG:Gr [w.heap.size] Br C4:=by rw[hW];exact (Gr.refl _ _).set.set.set
   have D1:=hs.size
   have lk:=Blk.lt
   have hk:=hG.keep ⟨⟨_,Blk.ty,by decide⟩,True.intro⟩
   have E6:Bx C4 (w.heap.size) 37 #[.bool sh7,.slice ah7 nh7 ch7,.slice Ah7 Nh7 Ch7]:=by rw[hW];exact Blk.set3
   replace hs:=hs.trans (hG.d1 hs.size)
   replace B0:=hG.b1 B0
   replace Blk:=E6
   clear E6
   revert h7 h6 Cn;refine ke hk ?_;intro h7 h6 Cn
   clear hW hG hk D1 lk
   try simp only[LY]
   clear B4 B5 B6
   go_wp2
   refine Blk.k3 fun E7 E8 E9=>?_
   exact bodyPost_ret (v:=.agg #[.bool sh7,.slice ah7 nh7 ch7,.slice Ah7 Nh7 Ch7]) (by simp[results,Tryz.results79,go_sem,E7,E8,E9]) rfl ⟨_,rfl,h7.of_eq (by unfold uniQ;rw[←HP.out,←HX.out];rfl),hs⟩
end Go.Proofs.YtidmjdmmpajooaaGreat
