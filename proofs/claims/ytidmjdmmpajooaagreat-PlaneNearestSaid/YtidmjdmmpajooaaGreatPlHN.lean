/-
  plane: how long spans are together.
-/
import Derived.Test.YtidmjdmmpajooaaGreatPlGN
set_option linter.unusedSimpArgs false
set_option linter.unusedVariables false
set_option maxRecDepth 100000
set_option maxHeartbeats 16000000
namespace Go.Proofs.YtidmjdmmpajooaaGreat
open Go.RowKit Dg
attribute [local go_sem ↓] Go.wp_at_zero Go.wp_at_succ
theorem yf (x:Rat × Rat):∀l,(insS x l).Perm (x ::l)
 | []=>List.Perm.refl _
 | y ::r=>by
  unfold insS
  split
  ·exact List.Perm.refl _
  exact ((yf x r).cons y).trans (List.Perm.swap x y r)
theorem zg (x:Rat × Rat):∀{l:List (Rat × Rat)},l.Pairwise (fun a b=>a.1≤b.1)→(insS x l).Pairwise (fun a b=>a.1≤b.1)
 | [],_=>by unfold insS;exact List.pairwise_singleton _ _
 | y ::r,h=>by
  have h1:=List.pairwise_cons.1 h
  unfold insS
  split
  ·rename_i hlt
   refine List.pairwise_cons.2 ⟨fun z hz=>?_,h⟩
   rcases List.mem_cons.1 hz with rfl|hz
   ·grind
   have:=h1.1 z hz;grind
  rename_i hlt
  refine List.pairwise_cons.2 ⟨fun z hz=>?_,zg x h1.2⟩
  rcases List.mem_cons.1 ((yf x r).mem_iff.1 hz) with rfl|hz
  ·grind
  exact h1.1 z hz
theorem yq:∀(l a:List (Rat × Rat)),a.Pairwise (fun a b=>a.1≤b.1)→(l.foldl (fun a x=>insS x a) a).Perm (l ++ a)∧(l.foldl (fun a x=>insS x a) a).Pairwise (fun a b=>a.1≤b.1)
 | [],a,h=>⟨List.Perm.refl _,h⟩
 | x ::r,a,h=>by
  obtain⟨h1,h2⟩:=yq r (insS x a) (zg x h)
  refine⟨h1.trans ?_,h2⟩
  exact ((yf x a).append_left r).trans (List.perm_middle)
theorem yr (l:List (Rat × Rat)):(xi l).Perm l:=by
 have h:=(yq l [] List.Pairwise.nil).1
 rwa [List.append_nil] at h
theorem srtS_sorted (l:List (Rat × Rat)):(xi l).Pairwise (fun a b=>a.1≤b.1):=(yq l [] List.Pairwise.nil).2
theorem rowS_at {w:World} {T:TypeId} {b o n c:Nat} {L:List (Rat × Rat)} {i:Nat} (h:Rows 6 T (C2 PC) w (.slice (some ⟨b,o,none⟩) n c) L) (hi:i < L.length):
  ∃g a n' c' A N D g2 a2 n2 c2 A2 N2 D2,w.cell? ⟨b,o + i * 6,none⟩=some (.bool g)∧w.cell? ⟨b,o + i * 6 + 1,none⟩=some (.slice a n' c')∧w.cell? ⟨b,o + i * 6 + 2,none⟩=some (.slice A N D)∧
   w.cell? ⟨b,o + i * 6 + 3,none⟩=some (.bool g2)∧w.cell? ⟨b,o + i * 6 + 4,none⟩=some (.slice a2 n2 c2)∧w.cell? ⟨b,o + i * 6 + 5,none⟩=some (.slice A2 N2 D2)∧
   PV w (.agg #[.bool g,.slice a n' c',.slice A N D]) (cn L i).1∧PV w (.agg #[.bool g2,.slice a2 n2 c2,.slice A2 N2 D2]) (cn L i).2∧b < w.heap.size:=by
 obtain⟨b',o',c',cs,hv,_,Dn,c1,c2,rfl,h1,h2⟩:=h.get (show L[i]?=some (cn L i) from nt hi)
 obtain⟨e,rfl⟩:=yk hv
 injection e with e
 injection e with e1 e2
 subst e1 e2
 obtain⟨g,a,n',c',A,N,D,rfl,hp⟩:=h1.cells
 obtain⟨g2,a2,n2,c2,A2,N2,D2,rfl,hp2⟩:=h2.cells
 exact⟨g,a,n',c',A,N,D,g2,a2,n2,c2,A2,N2,D2,Dn 0 _ rfl,Dn 1 _ rfl,Dn 2 _ rfl,Dn 3 _ rfl,Dn 4 _ rfl,Dn 5 _ rfl,hp,hp2,jw (Dn 0 _ rfl)⟩
theorem jd7 {S:List (Rat × Rat)} {k:Nat} {e:Rat} (he:e=if k=0∨(lnS S k).2 < (cn S k).1 then (cn S k).1 else (lnS S k).2):
  lnS S (k + 1)=if e < (cn S k).2 then ((lnS S k).1 + ((cn S k).2 - e),(cn S k).2) else ((lnS S k).1,e):=by subst he;rfl
theorem mq {S:List (Rat × Rat)} {k:Nat} {e:Rat} (he:e=if k=0∨(lnS S k).2 < (cn S k).1 then (cn S k).1 else (lnS S k).2) (h:e < (cn S k).2):lnS S (k + 1)=((lnS S k).1 + ((cn S k).2 - e),(cn S k).2):=by rw[jd7 he,if_pos h]
theorem ln_no {S:List (Rat × Rat)} {k:Nat} {e:Rat} (he:e=if k=0∨(lnS S k).2 < (cn S k).1 then (cn S k).1 else (lnS S k).2) (h:¬ e < (cn S k).2):lnS S (k + 1)=((lnS S k).1,e):=by rw[jd7 he,if_neg h]
theorem lnS_sz {S:List (Rat × Rat)} {K:Nat} (h:∀i,i < S.length→SzQ K (mr S i).1∧SzQ K (mr S i).2):∀k,k≤S.length→SzQ (k * (2 * K + 3) + 1) (lnS S k).1∧SzQ (K + 1) (lnS S k).2
 | 0,_=>⟨jn.mono (by omega),jn.mono (by omega)⟩
 | k + 1,hk=>by
  obtain⟨h1,h2⟩:=lnS_sz h k (by omega)
  obtain⟨a1,a2⟩:=h k (by omega)
  have he:SzQ (K + 1) (if k=0∨(lnS S k).2 < (cn S k).1 then (cn S k).1 else (lnS S k).2):=by
   split
   ·exact a1.mono (by omega)
   exact h2
  obtain⟨e,hee⟩:∃e,e=if k=0∨(lnS S k).2 < (cn S k).1 then (cn S k).1 else (lnS S k).2:=⟨_,rfl⟩
  rw[←hee] at he
  rw[jd7 hee]
  have hm:(k + 1) * (2 * K + 3)=k * (2 * K + 3) + (2 * K + 3):=Nat.succ_mul _ _
  split
  ·exact⟨(SzQ.add h1 (SzQ.sub a2 he)).mono (by omega),a2.mono (by omega)⟩
  exact⟨h1.mono (by omega),he⟩
theorem sl_SortS_any {base:Nat} {v:Value} {L:List (Rat × Rat)} (w:World) (h:cw base 164 6 (C2 PC) w v L) (h2:L.length≤1000) (hz:∀i,i < L.length→SzQ 100000 (mr L i).1∧SzQ 100000 (mr L i).2):
  Calls Tryz.prog 128 #[v,.func (.func 129) #[] #[]] w (fun e w'=>e=.returned (.tuple #[])∧(∃S:List (Rat × Rat),S.Perm L∧S.Pairwise (fun a b=>a.1≤b.1)∧cw base 164 6 (C2 PC) w' v S)∧Below base w w'∧dg 164 w w'):=by
 by_cases h1:1≤L.length
 ·exact sl_SortS w h h1 h2 hz
 obtain⟨ao,c,rfl, -, -, -⟩:=h.slice
 have e:L=[]:=List.length_eq_zero_iff.1 (by omega)
 subst e
 refine (sl_SortS0 _ _ _ _).mono ?_
 rintro e w' ⟨rfl,rfl⟩
 exact⟨rfl,⟨[],List.Perm.refl _,List.Pairwise.nil,h⟩,Below.refl _ _,⟨ag _,fun _ _ _=>rfl⟩⟩
theorem ln_sorted {S L:List (Rat × Rat)} (hp:S.Perm L) (hs:S.Pairwise (fun a b=>a.1≤b.1)):(lnS S S.length).1=lnQ (xi L):=by
 rw[lnS_all]
 exact lnQ_perm (hp.trans (yr L).symm) hs (srtS_sorted L)
theorem jc4 (n:Nat) (W:World) (h:n≤W.heap.size):∃w:World,w.heap.size≤n∧n≤w.heap.size∧Below w.heap.size w W:=by
 refine⟨{W with heap:=W.heap.extract 0 n},by simp only[Array.size_extract];omega,by simp only[Array.size_extract];omega,⟨rfl,rfl,rfl,by simp only[Array.size_extract];omega,fun k hk=>?_⟩⟩
 simp only[Array.size_extract] at hk
 show W.heap[k]?=(W.heap.extract 0 n)[k]?
 rw[Array.getElem?_extract]
 simp;omega
theorem len_same {w wS W wk Wf:World} (hl:w.heap.size≤wS.heap.size) (h1:Below wS.heap.size wS W) (Do:wk.heap.size≤w.heap.size) (Dp:w.heap.size≤wk.heap.size) (a:Below wk.heap.size wk W) (b:Below wk.heap.size wk Wf) {k:Nat} (hk:k < w.heap.size):Wf.heap[k]?=wS.heap[k]?:=
 (b.block k (by omega)).trans ((a.block k (by omega)).symm.trans (h1.block k (by omega)))
theorem len_fin {base:Nat} {w wS W wk Wf:World} (h:Below base w wS) (hb:base≤w.heap.size) (hl:w.heap.size≤wS.heap.size) (h1:Below wS.heap.size wS W) (Do:wk.heap.size≤w.heap.size) (Dp:w.heap.size≤wk.heap.size) (a:Below wk.heap.size wk W) (b:Below wk.heap.size wk Wf):Below base w Wf:=
 ⟨b.os.trans (a.os.symm.trans (h1.os.trans h.os)),b.tape.trans (a.tape.symm.trans (h1.tape.trans h.tape)),b.output.trans (a.output.symm.trans (h1.output.trans h.output)),by have:=b.size;omega,fun k hk=>(len_same hl h1 Do Dp a b (by omega)).trans (h.block k hk)⟩
theorem len_only {T:TypeId} {w wS W wk Wf:World} (h:dg T w wS) (hl:w.heap.size≤wS.heap.size) (h1:Below wS.heap.size wS W) (Do:wk.heap.size≤w.heap.size) (Dp:w.heap.size≤wk.heap.size) (a:Below wk.heap.size wk W) (b:Below wk.heap.size wk Wf):dg T w Wf:=
 ⟨by have:=b.size;omega,fun k hk hn=>(len_same hl h1 Do Dp a b hk).trans (h.block k hk hn)⟩
theorem below_le {A B:Nat} {w w':World} (h:Below B w w') (hA:A≤B):Below A w w':=⟨h.os,h.tape,h.output,h.size,fun k hk=>h.block k (by omega)⟩
theorem onlyT_below {T:TypeId} {w w1 w2:World} (h:Below w.heap.size w w1) (k:dg T w1 w2):dg T w w2:=
 ⟨Nat.le_trans h.size k.size,fun j hj hn=>(k.block j (by have:=h.size;omega) (fun ⟨cs,fr,e⟩=>hn ⟨cs,fr,by rw[←h.block j hj];exact e⟩)).trans (h.block j hj)⟩
theorem pl_length {base:Nat} (v:Value) (L:List (Rat × Rat)) (w:World) (hl:cw base 164 6 (C2 PC) w v L) (hbase:base≤w.heap.size) (hn:L.length≤48) (hz:∀i,i < L.length→SzQ 100 (mr L i).1∧SzQ 100 (mr L i).2):
  Calls Tryz.prog 101 #[v] w (fun e w'=>∃vq,e=.returned vq∧PV w' vq (lnQ (xi L))∧Below base w w'∧dg 164 w w'):=by
 have hs:=Below.refl w.heap.size w
 have HO:=ae hl
 have HZ1:=ae hz
 have HZ:=ae (fun i (hi:i < L.length)=>(⟨(hz i hi).1.mono (by decide),(hz i hi).2.mono (by decide)⟩:SzQ 100000 (mr L i).1∧SzQ 100000 (mr L i).2))
 clear hl hz
 go_enter Tryz.func101,Tryz.ntmps101
 go_wp2_with fail
 refine Calls.abs ?_
 intro w1 hW
 have hG:Gr [] w w1:=by rw[hW];exact (Gr.refl _ _).alloc
 have sz_w1:=hs.size
 have Blk:Bx w1 (w.heap.size) 37 #[.bool false,.slice none 0 0,.slice none 0 0]:=by rw[hW];exact (Bx.new0 _ _ _)
 replace hs:=hs.trans (hG.below0 hs.size)
 clear hW hG
 have hz_w1:=Blk.lt
 have hO1:=HO.out.mono (C2.kept PC.kept) hs
 refine (sl_SortS_any _ hO1 (by omega) HZ.out).mono ?_
 rintro e wS ⟨rfl,⟨S,hp,hsS,hO⟩,hbS,hoS⟩
 replace Blk:=Blk.only hoS (by decide)
 have hG_:dg 164 w wS:=onlyT_below hs hoS
 have hB_:Below base w wS:=(below_le hs hbase).trans hbS
 clear hO1 hbS hoS hs
 have hLl:=hp.length_eq
 have C1:∀i,i < S.length→SzQ 100 (mr S i).1∧SzQ 100 (mr S i).2:=fun i hi=>by
  have hm:=hp.mem_iff.1 (List.mem_of_getElem? (nt hi))
  obtain⟨j,hj,e⟩:=List.getElem_of_mem hm
  have:=HZ1.out j hj
  rwa [show mr L j=mr S i from by rw[←e];exact (Option.some.inj (by rw[←nt hj,List.getElem?_eq_getElem hj]))] at this
 have HLN:=ae (ln_sorted hp hsS)
 have D1:=ae (lnS_sz C1)
 replace C1:=ae C1
 clear hp hsS
 have Be:=hO.rows
 clear hO
 have Bz:=Blk.lt
 have HG0:=ae hG_
 have HB0:=ae hB_
 have HW0:w.heap.size≤wS.heap.size:=hG_.size
 clear hG_ hB_
 have hs:=Below.refl wS.heap.size wS
 obtain⟨ay,cy,hv5,c5a,c5b, -⟩:=Be.slice
 subst hv5
 go_wp2
 refine Code.abs ?_
 intro w2 hW
 have hG:Gr [] wS w2:=by rw[hW];exact (Gr.refl _ _).alloc.alloc
 have Bg:Below wS.heap.size wS w2:=hG.below0 hs.size
 have sz_w2:wS.heap.size≤wS.heap.size:=hs.size
 have nk_w2:=Blk.lt
 have B1:Bx w2 (wS.heap.size) 37 #[.bool false,.slice none 0 0,.slice none 0 0]:=by rw[hW];exact ((Bx.new0 _ _ _).alloc _)
 have B0:Bx w2 (wS.heap.size + 1) 37 #[.bool false,.slice none 0 0,.slice none 0 0]:=by rw[hW];exact (Bx.new0 _ _ _)
 replace hs:=hs.trans Bg
 replace Be:=el (C2.kept PC.kept) _ _ _ Be (hG.below0 (ag _))
 replace Blk:=hG.bx Blk wh
 clear hW hG Bg
 have hz_w2:=B0.lt
 go_loopw [11] (fun s11 wq=>∃k:Nat,k≤S.length∧s11=.int .i64 k∧Below wS.heap.size wS wq∧Bx wq (w.heap.size) 37 #[.bool false,.slice none 0 0,.slice none 0 0]∧Rows 6 164 (C2 PC) wq (.slice ay S.length cy) S∧BoxP wq (wS.heap.size) ((lnS S k).1)∧BoxP wq (wS.heap.size + 1) ((lnS S k).2)) (fun s11 _=>S.length - (intOf s11).toNat)
 case atStart=>exact⟨0,Nat.zero_le _,rfl,hs,Blk,Be,⟨_,_,_,_,_,_,_,B1,(PV.zero _)⟩,⟨_,_,_,_,_,_,_,B0,(PV.zero _)⟩⟩
 case round=>
  clear Blk B1 B0 Be hs
  obtain⟨k,k_le,rfl,hs,Blk,Be,⟨Cn,Ck,Cm,Cl,Ch,Cj,Ci,B1,h1⟩,⟨De,D9,Db,Da,D6,D8,D7,B0,h2⟩⟩:=hrel
  by_cases q3:k < S.length
  ·have q3d:((k:Int) < (S.length:Int))=True:=eq_true (by omega)
   have BI4a:k < S.length:=by omega
   have BI4b:((k:Int):Int) < (S.length:Int):=by omega
   obtain⟨rb2,ro2,rc2,hv_, -, -, -⟩:=Be.open_ (by omega)
   obtain⟨rfl,rfl⟩:=yk hv_
   clear hv_
   obtain⟨Bu,Bs,Bw,Bt,Bo,Br,Bq,Ca,C8,Cc,C9,C5,C7,C6,E9,Ea,Eb,Ec,Ed,Ee,B7,B5,le5⟩:=rowS_at Be (show k < S.length by omega)
   by_cases q6:k=0
   ·have q6b:((k:Int) == 0)=true:=beq_iff_eq.2 (by omega)
    have q6n:((k:Int) != 0)=false:=bne_eq_false_iff_eq.2 (by omega)
    have Cz:=ae q6
    clear q6
    go_upto_region 7 with fail
    clear le5 E9 Ea Eb Ec Ed Ee
    refine Code.abs ?_
    intro By hW
    have hG:Gr [] wr By:=by rw[hW];exact (Gr.refl _ _).alloc
    have Bg:Below wS.heap.size wr By:=hG.below0 hs.size
    have Ei:wS.heap.size≤wr.heap.size:=hs.size
    have Eh:=Blk.lt
    have E4:=B1.lt
    have E2:=B0.lt
    have B6:Bx By (wr.heap.size) 164 #[.bool Bu,.slice Bs Bw Bt,.slice Bo Br Bq,.bool Ca,.slice C8 Cc C9,.slice C5 C7 C6]:=by rw[hW];exact (Bx.new0 _ _ _)
    replace hs:=hs.trans Bg
    replace Be:=el (C2.kept PC.kept) _ _ _ Be (hG.below0 (ag _))
    revert h2 B7 B5;revert B0;revert h1;revert B1;revert Blk;refine g0 hG ?_;intro Blk B1 h1 B0 h2 B7 B5
    clear hW hG Bg
    have Eg:=B6.lt
    have B8:=B6.a0
    have B9:=B6.a1
    have Ba:=B6.a2
    have Bb:=B6.a3
    have Bc:=B6.a4
    have Bd:=B6.a5
    have Ls:=B6.lt
    refine B0.k3fl fun B2 B3 B4 D0 Cg=>?_
    go_wp2_with fail
    clear B8 B9 Ba Bb Bc Bd B2 B3 B4 D0 Ls Cg
    refine Calls.abs ?_
    intro w24 hW
    have hG:Gr [wS.heap.size + 1] By w24:=by rw[hW];exact (Gr.refl _ _).set.set.set
    have C4:=hs.size
    have Ce:=B0.lt
    have Bg:Below wS.heap.size By w24:=hG.d1 hs.size
    have hk:=hG.keep ⟨⟨_,B0.ty,by decide⟩,True.intro⟩
    have Bi:Bx w24 (wS.heap.size + 1) 37 #[.bool Bu,.slice Bs Bw Bt,.slice Bo Br Bq]:=by rw[hW];exact B0.set3
    replace hs:=hs.trans Bg
    replace Be:=Be.onlyT (C2.kept PC.kept) (hG.onlyT (by intro g hg;simp only[List.mem_cons,List.mem_nil_iff,or_false] at hg;rcases hg with rfl<;>first|exact B0.ty)) (by decide) (by decide)
    replace Blk:=hG.b1 Blk
    replace B1:=hG.b1 B1
    replace B6:=hG.b1 B6
    replace B0:=Bi
    clear Bi
    revert h1 h2 B7 B5;refine ke hk ?_;intro h1 h2 B7 B5
    clear hW hG hk Bg C4 Ce
    with_reducible refine (uk B5 B7 (SzQ.fit (C1.out k (by omega)).2) (SzQ.fit (C1.out k (by omega)).1)).mono ?_
    rintro e D3 ⟨rfl,hb⟩
    replace hs:=ar hs hb
    revert Blk B1 B6 B0 h1 h2 B7 B5;refine mo hb ?_;intro Blk B1 B6 B0 h1 h2 B7 B5
    replace Be:=el (C2.kept PC.kept) _ _ _ Be hb
    clear hb
    obtain⟨Dc,Cq⟩:∃s:Int,s=sgQ (((cn S k).2) - ((cn S k).1)):=⟨_,rfl⟩
    rw[←Cq]
    replace Cq:=ae Cq
    by_cases q8:(cn S k).1 < (cn S k).2
    ·have Dr:0 < Dc:=by have h:=rt ((cn S k).2) ((cn S k).1);rw[←Cq.out] at h;exact h.2 q8
     have Cd:=ae q8
     clear q8
     have q8d:decide (0 < Dc)=true:=decide_eq_true Dr
     go_upto_region 9 with fail
     refine bw (S:=fun w'=>w'.cell? ⟨wr.heap.size,0,none⟩=some (.bool Bu)∧w'.cell? ⟨wr.heap.size,1,none⟩=some (.slice Bs Bw Bt)∧w'.cell? ⟨wr.heap.size,2,none⟩=some (.slice Bo Br Bq)∧w'.cell? ⟨wr.heap.size,3,none⟩=some (.bool Ca)∧w'.cell? ⟨wr.heap.size,4,none⟩=some (.slice C8 Cc C9)∧w'.cell? ⟨wr.heap.size,5,none⟩=some (.slice C5 C7 C6)∧w'.cell? ⟨wS.heap.size + 1,0,none⟩=some (.bool Bu)∧w'.cell? ⟨wS.heap.size + 1,1,none⟩=some (.slice Bs Bw Bt)∧w'.cell? ⟨wS.heap.size + 1,2,none⟩=some (.slice Bo Br Bq)) (by kernel_rfl) 9 ?_
     refine cq.abs ?_
     intro Bh hW
     have hb:Below D3.heap.size D3 Bh:=by rw[hW];exact de _
     replace hs:=ar hs hb
     revert Blk B1 B6 B0 h1 h2 B7 B5;refine mo hb ?_;intro Blk B1 B6 B0 h1 h2 B7 B5
     replace Be:=el (C2.kept PC.kept) _ _ _ Be hb
     clear hb hW
     have B8:=B6.a0
     have B9:=B6.a1
     have Ba:=B6.a2
     have Bb:=B6.a3
     have Bc:=B6.a4
     have Bd:=B6.a5
     refine B0.k3 fun B2 B3 B4=>?_
     have hH:=(show Bh.cell? ⟨wr.heap.size,0,none⟩=some (.bool Bu)∧Bh.cell? ⟨wr.heap.size,1,none⟩=some (.slice Bs Bw Bt)∧Bh.cell? ⟨wr.heap.size,2,none⟩=some (.slice Bo Br Bq)∧Bh.cell? ⟨wr.heap.size,3,none⟩=some (.bool Ca)∧Bh.cell? ⟨wr.heap.size,4,none⟩=some (.slice C8 Cc C9)∧Bh.cell? ⟨wr.heap.size,5,none⟩=some (.slice C5 C7 C6)∧Bh.cell? ⟨wS.heap.size + 1,0,none⟩=some (.bool Bu)∧Bh.cell? ⟨wS.heap.size + 1,1,none⟩=some (.slice Bs Bw Bt)∧Bh.cell? ⟨wS.heap.size + 1,2,none⟩=some (.slice Bo Br Bq) from ⟨B8,B9,Ba,Bb,Bc,Bd,B2,B3,B4⟩)
     refine cz 1 ?_ ?_ hH ?_
     rotate_left
     ·(intro w C3;(try dsimp only at C3);go_simp;try with_reducible rfl)
     try simp only[LY]
     refine cz 2 ?_ ?_ hH ?_
     rotate_left
     ·(intro w C3;(try dsimp only at C3);go_simp;try with_reducible rfl)
     try simp only[LY]
     refine cz 3 ?_ ?_ hH ?_
     rotate_left
     ·(intro w C3;(try dsimp only at C3);go_simp;try with_reducible rfl)
     try simp only[LY]
     refine cz 6 ?_ ?_ hH ?_
     rotate_left
     ·(intro w C3;(try dsimp only at C3);go_simp;try with_reducible rfl)
     try simp only[LY]
     refine cz 7 ?_ ?_ hH ?_
     rotate_left
     ·(intro w C3;(try dsimp only at C3);go_simp;try with_reducible rfl)
     try simp only[LY]
     refine dq (i:=0) (j:=4) (by kernel_rfl) rfl rfl (fun K hK=>?_) (fun K hK=>?_)
     ·clear hH
      refine B1.k3 fun Bl Bm Bn=>?_
      go_simp
      try go_wp2_with fail
      clear Bl Bm Bn
      refine hK.out _ _ ⟨B8,B9,Ba,Bb,Bc,Bd,B2,B3,B4⟩ (fun hH=>?_)
      clear hK K
      try simp only[LY]
      clear hH
      refine U_on 4 fun K hK=>?_
      go_simp
      (with_reducible refine (pSub B5 B7 (SzQ.fit (C1.out k (by omega)).2) (SzQ.fit (C1.out k (by omega)).1)).mono ?_)
      rintro e C0 ⟨_,rfl,h9,hb⟩
      obtain⟨sh9,ah9,nh9,ch9,Ah9,Nh9,Ch9,rfl⟩:=h9.shape
      replace hs:=ar hs hb
      revert B5;revert B7;revert h2;revert h1;revert B0;revert B6;revert B1;revert Blk;refine mo hb ?_;intro Blk B1 B6 B0 h1 h2 B7 B5
      replace Be:=el (C2.kept PC.kept) _ _ _ Be hb
      replace B8:=ah B8 hb
      replace B9:=ah B9 hb
      replace Ba:=ah Ba hb
      replace Bb:=ah Bb hb
      replace Bc:=ah Bc hb
      replace Bd:=ah Bd hb
      replace B2:=ah B2 hb
      replace B3:=ah B3 hb
      replace B4:=ah B4 hb
      clear hb
      try go_wp2_with fail
      refine hK.out _ _ ⟨B8,B9,Ba,Bb,Bc,Bd,B2,B3,B4⟩ (fun hH=>?_)
      clear hK K
      try simp only[LY]
      clear hH
      refine U_on 5 fun K hK=>?_
      go_simp
      (with_reducible refine (yi h1 h9 (SzQ.fit (D1.out k (by omega)).1) (SzQ.fit (SzQ.sub (C1.out k (by omega)).2 (C1.out k (by omega)).1))).mono ?_)
      rintro e Bk ⟨_,rfl,Cy,hb⟩
      obtain⟨Ds,Dk,Dq,Dl,Dh,Dj,Di,rfl⟩:=Cy.shape
      replace hs:=ar hs hb
      revert B5;revert B7;revert h2;revert h1;revert B0;revert B6;revert B1;revert Blk;revert h9;refine mo hb ?_;intro h9 Blk B1 B6 B0 h1 h2 B7 B5
      replace Be:=el (C2.kept PC.kept) _ _ _ Be hb
      replace B8:=ah B8 hb
      replace B9:=ah B9 hb
      replace Ba:=ah Ba hb
      replace Bb:=ah Bb hb
      replace Bc:=ah Bc hb
      replace Bd:=ah Bd hb
      replace B2:=ah B2 hb
      replace B3:=ah B3 hb
      replace B4:=ah B4 hb
      clear hb
      try go_wp2_with fail
      refine hK.out _ _ ⟨B8,B9,Ba,Bb,Bc,Bd,B2,B3,B4⟩ (fun hH=>?_)
      clear hK K
      try simp only[LY]
      clear hH
      refine B1.k3fl fun Bl Bm Bn Dm D4=>?_
      refine U_on 8 fun K hK=>?_
      go_simp
      generalize hW_:(((Bk.setCell ⟨wS.heap.size,0,none⟩ (.bool Ds)).setCell ⟨wS.heap.size,1,none⟩ (.slice Dk Dq Dl)).setCell ⟨wS.heap.size,2,none⟩ (.slice Dh Dj Di))=Bf
      have hW:=hW_.symm
      clear hW_
      have hG:Gr [wS.heap.size] Bk Bf:=by rw[hW];exact (Gr.refl _ _).set.set.set
      have C4:=hs.size
      have Cv:=B1.lt
      have Bg:Below wS.heap.size Bk Bf:=hG.d1 hs.size
      have hk:=hG.keep ⟨⟨_,B1.ty,by decide⟩,True.intro⟩
      have Bp:Bx Bf (wS.heap.size) 37 #[.bool Ds,.slice Dk Dq Dl,.slice Dh Dj Di]:=by rw[hW];exact B1.set3
      replace hs:=hs.trans Bg
      replace Be:=Be.onlyT (C2.kept PC.kept) (hG.onlyT (by intro g hg;simp only[List.mem_cons,List.mem_nil_iff,or_false] at hg;rcases hg with rfl<;>first|exact B1.ty)) (by decide) (by decide)
      replace Blk:=hG.b1 Blk
      replace B0:=hG.b1 B0
      replace B6:=hG.b1 B6
      replace B1:=Bp
      clear Bp
      revert Cy h9 h1 h2 B7 B5;refine ke hk ?_;intro Cy h9 h1 h2 B7 B5
      replace B8:=hG.c1 B8
      replace B9:=hG.c1 B9
      replace Ba:=hG.c1 Ba
      replace Bb:=hG.c1 Bb
      replace Bc:=hG.c1 Bc
      replace Bd:=hG.c1 Bd
      replace B2:=hG.c1 B2
      replace B3:=hG.c1 B3
      replace B4:=hG.c1 B4
      clear hW hG hk Bg C4 Cv
      refine hK.out _ _ ⟨B8,B9,Ba,Bb,Bc,Bd,B2,B3,B4⟩ (fun hH=>?_)
      clear hK K
      try simp only[LY]
      clear hH
      refine B0.k3fl fun B2 B3 B4 D0 Cg=>?_
      refine dr (by kernel_rfl) rfl (by kernel_rfl) (fun K hK=>?_)
      go_simp
      refine hK.out _ _ ?_
      clear hK K
      intro Bj hW
      have hG:Gr [wS.heap.size + 1] Bf Bj:=by rw[hW];exact (Gr.refl _ _).set.set.set
      have C4:=hs.size
      have Ce:=B0.lt
      have Bg:Below wS.heap.size Bf Bj:=hG.d1 hs.size
      have hk:=hG.keep ⟨⟨_,B0.ty,by decide⟩,True.intro⟩
      have Bi:Bx Bj (wS.heap.size + 1) 37 #[.bool Ca,.slice C8 Cc C9,.slice C5 C7 C6]:=by rw[hW];exact B0.set3
      replace hs:=hs.trans Bg
      replace Be:=Be.onlyT (C2.kept PC.kept) (hG.onlyT (by intro g hg;simp only[List.mem_cons,List.mem_nil_iff,or_false] at hg;rcases hg with rfl<;>first|exact B0.ty)) (by decide) (by decide)
      replace Blk:=hG.b1 Blk
      replace B1:=hG.b1 B1
      replace B6:=hG.b1 B6
      replace B0:=Bi
      clear Bi
      revert Cy h9 h1 h2 B7 B5;refine ke hk ?_;intro Cy h9 h1 h2 B7 B5
      clear hW hG hk Bg C4 Ce
      try simp only[LY]
      clear B8 B9 Ba Bb Bc Bd B2 B3 B4
      go_wp2
      go_roundw
      case rel=>exact⟨k + 1,by omega,by go_num,hs,Blk,Be,⟨_,_,_,_,_,_,_,B1,Cy.of_eq (by rw[mq (e:=(cn S k).1) (by rw[if_pos (.inl Cz.out)]) Cd.out])⟩,⟨_,_,_,_,_,_,_,B0,B5.of_eq (by rw[mq (e:=(cn S k).1) (by rw[if_pos (.inl Cz.out)]) Cd.out])⟩⟩
      all_goals first|(simp[intOf];done)|(simp[intOf];omega)
     clear hH
     go_simp
     (with_reducible refine (pSub B5 B7 (SzQ.fit (C1.out k (by omega)).2) (SzQ.fit (C1.out k (by omega)).1)).mono ?_)
     rintro e C0 ⟨_,rfl,h9,hb⟩
     obtain⟨sh9,ah9,nh9,ch9,Ah9,Nh9,Ch9,rfl⟩:=h9.shape
     replace hs:=ar hs hb
     revert B5;revert B7;revert h2;revert h1;revert B0;revert B6;revert B1;revert Blk;refine mo hb ?_;intro Blk B1 B6 B0 h1 h2 B7 B5
     replace Be:=el (C2.kept PC.kept) _ _ _ Be hb
     replace B8:=ah B8 hb
     replace B9:=ah B9 hb
     replace Ba:=ah Ba hb
     replace Bb:=ah Bb hb
     replace Bc:=ah Bc hb
     replace Bd:=ah Bd hb
     replace B2:=ah B2 hb
     replace B3:=ah B3 hb
     replace B4:=ah B4 hb
     clear hb
     try go_wp2_with fail
     refine hK.out _ _ ⟨B8,B9,Ba,Bb,Bc,Bd,B2,B3,B4⟩ (fun hH=>?_)
     clear hK K
     try simp only[LY]
     clear hH
     refine U_on 0 fun K hK=>?_
     refine B1.k3 fun Bl Bm Bn=>?_
     go_simp
     try go_wp2_with fail
     clear Bl Bm Bn
     refine hK.out _ _ ⟨B8,B9,Ba,Bb,Bc,Bd,B2,B3,B4⟩ (fun hH=>?_)
     clear hK K
     try simp only[LY]
     clear hH
     refine U_on 5 fun K hK=>?_
     go_simp
     (with_reducible refine (yi h1 h9 (SzQ.fit (D1.out k (by omega)).1) (SzQ.fit (SzQ.sub (C1.out k (by omega)).2 (C1.out k (by omega)).1))).mono ?_)
     rintro e Bk ⟨_,rfl,Cy,hb⟩
     obtain⟨Ds,Dk,Dq,Dl,Dh,Dj,Di,rfl⟩:=Cy.shape
     replace hs:=ar hs hb
     revert B5;revert B7;revert h2;revert h1;revert B0;revert B6;revert B1;revert Blk;revert h9;refine mo hb ?_;intro h9 Blk B1 B6 B0 h1 h2 B7 B5
     replace Be:=el (C2.kept PC.kept) _ _ _ Be hb
     replace B8:=ah B8 hb
     replace B9:=ah B9 hb
     replace Ba:=ah Ba hb
     replace Bb:=ah Bb hb
     replace Bc:=ah Bc hb
     replace Bd:=ah Bd hb
     replace B2:=ah B2 hb
     replace B3:=ah B3 hb
     replace B4:=ah B4 hb
     clear hb
     try go_wp2_with fail
     refine hK.out _ _ ⟨B8,B9,Ba,Bb,Bc,Bd,B2,B3,B4⟩ (fun hH=>?_)
     clear hK K
     try simp only[LY]
     clear hH
     refine B1.k3fl fun Bl Bm Bn Dm D4=>?_
     refine U_on 8 fun K hK=>?_
     go_simp
     generalize hW_:(((Bk.setCell ⟨wS.heap.size,0,none⟩ (.bool Ds)).setCell ⟨wS.heap.size,1,none⟩ (.slice Dk Dq Dl)).setCell ⟨wS.heap.size,2,none⟩ (.slice Dh Dj Di))=Bf
     have hW:=hW_.symm
     clear hW_
     have hG:Gr [wS.heap.size] Bk Bf:=by rw[hW];exact (Gr.refl _ _).set.set.set
     have C4:=hs.size
     have Cv:=B1.lt
     have Bg:Below wS.heap.size Bk Bf:=hG.d1 hs.size
     have hk:=hG.keep ⟨⟨_,B1.ty,by decide⟩,True.intro⟩
     have Bp:Bx Bf (wS.heap.size) 37 #[.bool Ds,.slice Dk Dq Dl,.slice Dh Dj Di]:=by rw[hW];exact B1.set3
     replace hs:=hs.trans Bg
     replace Be:=Be.onlyT (C2.kept PC.kept) (hG.onlyT (by intro g hg;simp only[List.mem_cons,List.mem_nil_iff,or_false] at hg;rcases hg with rfl<;>first|exact B1.ty)) (by decide) (by decide)
     replace Blk:=hG.b1 Blk
     replace B0:=hG.b1 B0
     replace B6:=hG.b1 B6
     replace B1:=Bp
     clear Bp
     revert Cy h9 h1 h2 B7 B5;refine ke hk ?_;intro Cy h9 h1 h2 B7 B5
     replace B8:=hG.c1 B8
     replace B9:=hG.c1 B9
     replace Ba:=hG.c1 Ba
     replace Bb:=hG.c1 Bb
     replace Bc:=hG.c1 Bc
     replace Bd:=hG.c1 Bd
     replace B2:=hG.c1 B2
     replace B3:=hG.c1 B3
     replace B4:=hG.c1 B4
     clear hW hG hk Bg C4 Cv
     refine hK.out _ _ ⟨B8,B9,Ba,Bb,Bc,Bd,B2,B3,B4⟩ (fun hH=>?_)
     clear hK K
     try simp only[LY]
     clear hH
     refine B0.k3fl fun B2 B3 B4 D0 Cg=>?_
     refine dr (by kernel_rfl) rfl (by kernel_rfl) (fun K hK=>?_)
     go_simp
     refine hK.out _ _ ?_
     clear hK K
     intro Bj hW
     have hG:Gr [wS.heap.size + 1] Bf Bj:=by rw[hW];exact (Gr.refl _ _).set.set.set
     have C4:=hs.size
     have Ce:=B0.lt
     have Bg:Below wS.heap.size Bf Bj:=hG.d1 hs.size
     have hk:=hG.keep ⟨⟨_,B0.ty,by decide⟩,True.intro⟩
     have Bi:Bx Bj (wS.heap.size + 1) 37 #[.bool Ca,.slice C8 Cc C9,.slice C5 C7 C6]:=by rw[hW];exact B0.set3
     replace hs:=hs.trans Bg
     replace Be:=Be.onlyT (C2.kept PC.kept) (hG.onlyT (by intro g hg;simp only[List.mem_cons,List.mem_nil_iff,or_false] at hg;rcases hg with rfl<;>first|exact B0.ty)) (by decide) (by decide)
     replace Blk:=hG.b1 Blk
     replace B1:=hG.b1 B1
     replace B6:=hG.b1 B6
     replace B0:=Bi
     clear Bi
     revert Cy h9 h1 h2 B7 B5;refine ke hk ?_;intro Cy h9 h1 h2 B7 B5
     clear hW hG hk Bg C4 Ce
     try simp only[LY]
     clear B8 B9 Ba Bb Bc Bd B2 B3 B4
     go_wp2
     go_roundw
     case rel=>exact⟨k + 1,by omega,by go_num,hs,Blk,Be,⟨_,_,_,_,_,_,_,B1,Cy.of_eq (by rw[mq (e:=(cn S k).1) (by rw[if_pos (.inl Cz.out)]) Cd.out])⟩,⟨_,_,_,_,_,_,_,B0,B5.of_eq (by rw[mq (e:=(cn S k).1) (by rw[if_pos (.inl Cz.out)]) Cd.out])⟩⟩
     all_goals first|(simp[intOf];done)|(simp[intOf];omega)
    have Dr:¬ (0 < Dc):=by have h:=rt ((cn S k).2) ((cn S k).1);rw[←Cq.out] at h;exact fun h1=>q8 (h.1 h1)
    have Cd:=ae q8
    clear q8
    have q8d:decide (0 < Dc)=false:=decide_eq_false Dr
    go_wp2
    go_roundw
    case rel=>exact⟨k + 1,by omega,by go_num,hs,Blk,Be,⟨_,_,_,_,_,_,_,B1,h1.of_eq (by rw[ln_no (e:=(cn S k).1) (by rw[if_pos (.inl Cz.out)]) Cd.out])⟩,⟨_,_,_,_,_,_,_,B0,B7.of_eq (by rw[ln_no (e:=(cn S k).1) (by rw[if_pos (.inl Cz.out)]) Cd.out])⟩⟩
    all_goals first|(simp[intOf];done)|(simp[intOf];omega)
   have q6b:((k:Int) == 0)=false:=beq_eq_false_iff_ne.2 (by omega)
   have q6n:((k:Int) != 0)=true:=bne_iff_ne.2 (by omega)
   have Cz:=ae q6
   clear q6
   refine B0.k3l fun B2 B3 B4 Cg=>?_
   have Ef:wS.heap.size < wr.heap.size:=by omega
   go_wp2_with fail
   clear B2 B3 B4 Cg Ef le5 E9 Ea Eb Ec Ed Ee
   refine Calls.abs ?_
   intro By hW
   have hG:Gr [] wr By:=by rw[hW];exact (Gr.refl _ _).alloc
   have Bg:Below wS.heap.size wr By:=hG.below0 hs.size
   have Ei:wS.heap.size≤wr.heap.size:=hs.size
   have Eh:=Blk.lt
   have E4:=B1.lt
   have E2:=B0.lt
   have B6:Bx By (wr.heap.size) 164 #[.bool Bu,.slice Bs Bw Bt,.slice Bo Br Bq,.bool Ca,.slice C8 Cc C9,.slice C5 C7 C6]:=by rw[hW];exact (Bx.new0 _ _ _)
   replace hs:=hs.trans Bg
   replace Be:=el (C2.kept PC.kept) _ _ _ Be (hG.below0 (ag _))
   revert h2 B7 B5;revert B0;revert h1;revert B1;revert Blk;refine g0 hG ?_;intro Blk B1 h1 B0 h2 B7 B5
   clear hW hG Bg
   have Eg:=B6.lt
   with_reducible refine (uk B7 h2 (SzQ.fit (C1.out k (by omega)).1) (SzQ.fit (D1.out k (by omega)).2)).mono ?_
   rintro e w24 ⟨rfl,hb⟩
   replace hs:=ar hs hb
   revert B6 Blk B1 h1 B0 h2 B7 B5;refine mo hb ?_;intro B6 Blk B1 h1 B0 h2 B7 B5
   replace Be:=el (C2.kept PC.kept) _ _ _ Be hb
   clear hb
   obtain⟨Dc,Cq⟩:∃s:Int,s=sgQ (((cn S k).1) - ((lnS S k).2)):=⟨_,rfl⟩
   rw[←Cq]
   replace Cq:=ae Cq
   by_cases q8:(lnS S k).2 < (cn S k).1
   ·have Dr:0 < Dc:=by have h:=rt ((cn S k).1) ((lnS S k).2);rw[←Cq.out] at h;exact h.2 q8
    have Cd:=ae q8
    clear q8
    have q8d:decide (0 < Dc)=true:=decide_eq_true Dr
    have B8:=B6.a0
    have B9:=B6.a1
    have Ba:=B6.a2
    have Bb:=B6.a3
    have Bc:=B6.a4
    have Bd:=B6.a5
    have Ls:=B6.lt
    refine B0.k3fl fun B2 B3 B4 D0 Cg=>?_
    go_wp2_with fail
    clear B8 B9 Ba Bb Bc Bd B2 B3 B4 D0 Ls Cg
    refine Calls.abs ?_
    intro D3 hW
    have hG:Gr [wS.heap.size + 1] w24 D3:=by rw[hW];exact (Gr.refl _ _).set.set.set
    have C4:=hs.size
    have Ce:=B0.lt
    have Bg:Below wS.heap.size w24 D3:=hG.d1 hs.size
    have hk:=hG.keep ⟨⟨_,B0.ty,by decide⟩,True.intro⟩
    have Bi:Bx D3 (wS.heap.size + 1) 37 #[.bool Bu,.slice Bs Bw Bt,.slice Bo Br Bq]:=by rw[hW];exact B0.set3
    replace hs:=hs.trans Bg
    replace Be:=Be.onlyT (C2.kept PC.kept) (hG.onlyT (by intro g hg;simp only[List.mem_cons,List.mem_nil_iff,or_false] at hg;rcases hg with rfl<;>first|exact B0.ty)) (by decide) (by decide)
    replace Blk:=hG.b1 Blk
    replace B1:=hG.b1 B1
    replace B6:=hG.b1 B6
    replace B0:=Bi
    clear Bi
    revert h1 h2 B7 B5;refine ke hk ?_;intro h1 h2 B7 B5
    clear hW hG hk Bg C4 Ce
    with_reducible refine (uk B5 B7 (SzQ.fit (C1.out k (by omega)).2) (SzQ.fit (C1.out k (by omega)).1)).mono ?_
    rintro e Bh ⟨rfl,hb⟩
    replace hs:=ar hs hb
    revert Blk B1 B6 B0 h1 h2 B7 B5;refine mo hb ?_;intro Blk B1 B6 B0 h1 h2 B7 B5
    replace Be:=el (C2.kept PC.kept) _ _ _ Be hb
    clear hb
    obtain⟨Dd,Cr⟩:∃s:Int,s=sgQ (((cn S k).2) - ((cn S k).1)):=⟨_,rfl⟩
    rw[←Cr]
    replace Cr:=ae Cr
    by_cases q10:(cn S k).1 < (cn S k).2
    ·have D5:0 < Dd:=by have h:=rt ((cn S k).2) ((cn S k).1);rw[←Cr.out] at h;exact h.2 q10
     have Cf:=ae q10
     clear q10
     have E5:decide (0 < Dd)=true:=decide_eq_true D5
     go_upto_region 9 with fail
     refine bw (S:=fun w'=>w'.cell? ⟨wr.heap.size,0,none⟩=some (.bool Bu)∧w'.cell? ⟨wr.heap.size,1,none⟩=some (.slice Bs Bw Bt)∧w'.cell? ⟨wr.heap.size,2,none⟩=some (.slice Bo Br Bq)∧w'.cell? ⟨wr.heap.size,3,none⟩=some (.bool Ca)∧w'.cell? ⟨wr.heap.size,4,none⟩=some (.slice C8 Cc C9)∧w'.cell? ⟨wr.heap.size,5,none⟩=some (.slice C5 C7 C6)∧w'.cell? ⟨wS.heap.size + 1,0,none⟩=some (.bool Bu)∧w'.cell? ⟨wS.heap.size + 1,1,none⟩=some (.slice Bs Bw Bt)∧w'.cell? ⟨wS.heap.size + 1,2,none⟩=some (.slice Bo Br Bq)) (by kernel_rfl) 9 ?_
     refine cq.abs ?_
     intro C0 hW
     have hb:Below Bh.heap.size Bh C0:=by rw[hW];exact de _
     replace hs:=ar hs hb
     revert Blk B1 B6 B0 h1 h2 B7 B5;refine mo hb ?_;intro Blk B1 B6 B0 h1 h2 B7 B5
     replace Be:=el (C2.kept PC.kept) _ _ _ Be hb
     clear hb hW
     have B8:=B6.a0
     have B9:=B6.a1
     have Ba:=B6.a2
     have Bb:=B6.a3
     have Bc:=B6.a4
     have Bd:=B6.a5
     refine B0.k3 fun B2 B3 B4=>?_
     have hH:=(show C0.cell? ⟨wr.heap.size,0,none⟩=some (.bool Bu)∧C0.cell? ⟨wr.heap.size,1,none⟩=some (.slice Bs Bw Bt)∧C0.cell? ⟨wr.heap.size,2,none⟩=some (.slice Bo Br Bq)∧C0.cell? ⟨wr.heap.size,3,none⟩=some (.bool Ca)∧C0.cell? ⟨wr.heap.size,4,none⟩=some (.slice C8 Cc C9)∧C0.cell? ⟨wr.heap.size,5,none⟩=some (.slice C5 C7 C6)∧C0.cell? ⟨wS.heap.size + 1,0,none⟩=some (.bool Bu)∧C0.cell? ⟨wS.heap.size + 1,1,none⟩=some (.slice Bs Bw Bt)∧C0.cell? ⟨wS.heap.size + 1,2,none⟩=some (.slice Bo Br Bq) from ⟨B8,B9,Ba,Bb,Bc,Bd,B2,B3,B4⟩)
     refine cz 1 ?_ ?_ hH ?_
     rotate_left
     ·(intro w C3;(try dsimp only at C3);go_simp;try with_reducible rfl)
     try simp only[LY]
     refine cz 2 ?_ ?_ hH ?_
     rotate_left
     ·(intro w C3;(try dsimp only at C3);go_simp;try with_reducible rfl)
     try simp only[LY]
     refine cz 3 ?_ ?_ hH ?_
     rotate_left
     ·(intro w C3;(try dsimp only at C3);go_simp;try with_reducible rfl)
     try simp only[LY]
     refine cz 6 ?_ ?_ hH ?_
     rotate_left
     ·(intro w C3;(try dsimp only at C3);go_simp;try with_reducible rfl)
     try simp only[LY]
     refine cz 7 ?_ ?_ hH ?_
     rotate_left
     ·(intro w C3;(try dsimp only at C3);go_simp;try with_reducible rfl)
     try simp only[LY]
     refine dq (i:=0) (j:=4) (by kernel_rfl) rfl rfl (fun K hK=>?_) (fun K hK=>?_)
     ·clear hH
      refine B1.k3 fun Bl Bm Bn=>?_
      go_simp
      try go_wp2_with fail
      clear Bl Bm Bn
      refine hK.out _ _ ⟨B8,B9,Ba,Bb,Bc,Bd,B2,B3,B4⟩ (fun hH=>?_)
      clear hK K
      try simp only[LY]
      clear hH
      refine U_on 4 fun K hK=>?_
      go_simp
      (with_reducible refine (pSub B5 B7 (SzQ.fit (C1.out k (by omega)).2) (SzQ.fit (C1.out k (by omega)).1)).mono ?_)
      rintro e Bk ⟨_,rfl,Bv,hb⟩
      obtain⟨E6,Dw,E3,Dx,Dt,Dv,Du,rfl⟩:=Bv.shape
      replace hs:=ar hs hb
      revert B5;revert B7;revert h2;revert h1;revert B0;revert B6;revert B1;revert Blk;refine mo hb ?_;intro Blk B1 B6 B0 h1 h2 B7 B5
      replace Be:=el (C2.kept PC.kept) _ _ _ Be hb
      replace B8:=ah B8 hb
      replace B9:=ah B9 hb
      replace Ba:=ah Ba hb
      replace Bb:=ah Bb hb
      replace Bc:=ah Bc hb
      replace Bd:=ah Bd hb
      replace B2:=ah B2 hb
      replace B3:=ah B3 hb
      replace B4:=ah B4 hb
      clear hb
      try go_wp2_with fail
      refine hK.out _ _ ⟨B8,B9,Ba,Bb,Bc,Bd,B2,B3,B4⟩ (fun hH=>?_)
      clear hK K
      try simp only[LY]
      clear hH
      refine U_on 5 fun K hK=>?_
      go_simp
      (with_reducible refine (yi h1 Bv (SzQ.fit (D1.out k (by omega)).1) (SzQ.fit (SzQ.sub (C1.out k (by omega)).2 (C1.out k (by omega)).1))).mono ?_)
      rintro e Bf ⟨_,rfl,Cb,hb⟩
      obtain⟨Cx,Ct,Cw,Cu,Co,Cs,Cp,rfl⟩:=Cb.shape
      replace hs:=ar hs hb
      revert B5;revert B7;revert h2;revert h1;revert B0;revert B6;revert B1;revert Blk;revert Bv;refine mo hb ?_;intro Bv Blk B1 B6 B0 h1 h2 B7 B5
      replace Be:=el (C2.kept PC.kept) _ _ _ Be hb
      replace B8:=ah B8 hb
      replace B9:=ah B9 hb
      replace Ba:=ah Ba hb
      replace Bb:=ah Bb hb
      replace Bc:=ah Bc hb
      replace Bd:=ah Bd hb
      replace B2:=ah B2 hb
      replace B3:=ah B3 hb
      replace B4:=ah B4 hb
      clear hb
      try go_wp2_with fail
      refine hK.out _ _ ⟨B8,B9,Ba,Bb,Bc,Bd,B2,B3,B4⟩ (fun hH=>?_)
      clear hK K
      try simp only[LY]
      clear hH
      refine B1.k3fl fun Bl Bm Bn Dm D4=>?_
      refine U_on 8 fun K hK=>?_
      go_simp
      generalize hW_:(((Bf.setCell ⟨wS.heap.size,0,none⟩ (.bool Cx)).setCell ⟨wS.heap.size,1,none⟩ (.slice Ct Cw Cu)).setCell ⟨wS.heap.size,2,none⟩ (.slice Co Cs Cp))=Bj
      have hW:=hW_.symm
      clear hW_
      have hG:Gr [wS.heap.size] Bf Bj:=by rw[hW];exact (Gr.refl _ _).set.set.set
      have C4:=hs.size
      have Cv:=B1.lt
      have Bg:Below wS.heap.size Bf Bj:=hG.d1 hs.size
      have hk:=hG.keep ⟨⟨_,B1.ty,by decide⟩,True.intro⟩
      have Bp:Bx Bj (wS.heap.size) 37 #[.bool Cx,.slice Ct Cw Cu,.slice Co Cs Cp]:=by rw[hW];exact B1.set3
      replace hs:=hs.trans Bg
      replace Be:=Be.onlyT (C2.kept PC.kept) (hG.onlyT (by intro g hg;simp only[List.mem_cons,List.mem_nil_iff,or_false] at hg;rcases hg with rfl<;>first|exact B1.ty)) (by decide) (by decide)
      replace Blk:=hG.b1 Blk
      replace B0:=hG.b1 B0
      replace B6:=hG.b1 B6
      replace B1:=Bp
      clear Bp
      revert Cb Bv h1 h2 B7 B5;refine ke hk ?_;intro Cb Bv h1 h2 B7 B5
      replace B8:=hG.c1 B8
      replace B9:=hG.c1 B9
      replace Ba:=hG.c1 Ba
      replace Bb:=hG.c1 Bb
      replace Bc:=hG.c1 Bc
      replace Bd:=hG.c1 Bd
      replace B2:=hG.c1 B2
      replace B3:=hG.c1 B3
      replace B4:=hG.c1 B4
      clear hW hG hk Bg C4 Cv
      refine hK.out _ _ ⟨B8,B9,Ba,Bb,Bc,Bd,B2,B3,B4⟩ (fun hH=>?_)
      clear hK K
      try simp only[LY]
      clear hH
      refine B0.k3fl fun B2 B3 B4 D0 Cg=>?_
      refine dr (by kernel_rfl) rfl (by kernel_rfl) (fun K hK=>?_)
      go_simp
      refine hK.out _ _ ?_
      clear hK K
      intro Df hW
      have hG:Gr [wS.heap.size + 1] Bj Df:=by rw[hW];exact (Gr.refl _ _).set.set.set
      have C4:=hs.size
      have Ce:=B0.lt
      have Bg:Below wS.heap.size Bj Df:=hG.d1 hs.size
      have hk:=hG.keep ⟨⟨_,B0.ty,by decide⟩,True.intro⟩
      have Bi:Bx Df (wS.heap.size + 1) 37 #[.bool Ca,.slice C8 Cc C9,.slice C5 C7 C6]:=by rw[hW];exact B0.set3
      replace hs:=hs.trans Bg
      replace Be:=Be.onlyT (C2.kept PC.kept) (hG.onlyT (by intro g hg;simp only[List.mem_cons,List.mem_nil_iff,or_false] at hg;rcases hg with rfl<;>first|exact B0.ty)) (by decide) (by decide)
      replace Blk:=hG.b1 Blk
      replace B1:=hG.b1 B1
      replace B6:=hG.b1 B6
      replace B0:=Bi
      clear Bi
      revert Cb Bv h1 h2 B7 B5;refine ke hk ?_;intro Cb Bv h1 h2 B7 B5
      clear hW hG hk Bg C4 Ce
      try simp only[LY]
      clear B8 B9 Ba Bb Bc Bd B2 B3 B4
      go_wp2
      go_roundw
      case rel=>exact⟨k + 1,by omega,by go_num,hs,Blk,Be,⟨_,_,_,_,_,_,_,B1,Cb.of_eq (by rw[mq (e:=(cn S k).1) (by rw[if_pos (.inr Cd.out)]) Cf.out])⟩,⟨_,_,_,_,_,_,_,B0,B5.of_eq (by rw[mq (e:=(cn S k).1) (by rw[if_pos (.inr Cd.out)]) Cf.out])⟩⟩
      all_goals first|(simp[intOf];done)|(simp[intOf];omega)
     clear hH
     go_simp
     (with_reducible refine (pSub B5 B7 (SzQ.fit (C1.out k (by omega)).2) (SzQ.fit (C1.out k (by omega)).1)).mono ?_)
     rintro e Bk ⟨_,rfl,Bv,hb⟩
     obtain⟨E6,Dw,E3,Dx,Dt,Dv,Du,rfl⟩:=Bv.shape
     replace hs:=ar hs hb
     revert B5;revert B7;revert h2;revert h1;revert B0;revert B6;revert B1;revert Blk;refine mo hb ?_;intro Blk B1 B6 B0 h1 h2 B7 B5
     replace Be:=el (C2.kept PC.kept) _ _ _ Be hb
     replace B8:=ah B8 hb
     replace B9:=ah B9 hb
     replace Ba:=ah Ba hb
     replace Bb:=ah Bb hb
     replace Bc:=ah Bc hb
     replace Bd:=ah Bd hb
     replace B2:=ah B2 hb
     replace B3:=ah B3 hb
     replace B4:=ah B4 hb
     clear hb
     try go_wp2_with fail
     refine hK.out _ _ ⟨B8,B9,Ba,Bb,Bc,Bd,B2,B3,B4⟩ (fun hH=>?_)
     clear hK K
     try simp only[LY]
     clear hH
     refine U_on 0 fun K hK=>?_
     refine B1.k3 fun Bl Bm Bn=>?_
     go_simp
     try go_wp2_with fail
     clear Bl Bm Bn
     refine hK.out _ _ ⟨B8,B9,Ba,Bb,Bc,Bd,B2,B3,B4⟩ (fun hH=>?_)
     clear hK K
     try simp only[LY]
     clear hH
     refine U_on 5 fun K hK=>?_
     go_simp
     (with_reducible refine (yi h1 Bv (SzQ.fit (D1.out k (by omega)).1) (SzQ.fit (SzQ.sub (C1.out k (by omega)).2 (C1.out k (by omega)).1))).mono ?_)
     rintro e Bf ⟨_,rfl,Cb,hb⟩
     obtain⟨Cx,Ct,Cw,Cu,Co,Cs,Cp,rfl⟩:=Cb.shape
     replace hs:=ar hs hb
     revert B5;revert B7;revert h2;revert h1;revert B0;revert B6;revert B1;revert Blk;revert Bv;refine mo hb ?_;intro Bv Blk B1 B6 B0 h1 h2 B7 B5
     replace Be:=el (C2.kept PC.kept) _ _ _ Be hb
     replace B8:=ah B8 hb
     replace B9:=ah B9 hb
     replace Ba:=ah Ba hb
     replace Bb:=ah Bb hb
     replace Bc:=ah Bc hb
     replace Bd:=ah Bd hb
     replace B2:=ah B2 hb
     replace B3:=ah B3 hb
     replace B4:=ah B4 hb
     clear hb
     try go_wp2_with fail
     refine hK.out _ _ ⟨B8,B9,Ba,Bb,Bc,Bd,B2,B3,B4⟩ (fun hH=>?_)
     clear hK K
     try simp only[LY]
     clear hH
     refine B1.k3fl fun Bl Bm Bn Dm D4=>?_
     refine U_on 8 fun K hK=>?_
     go_simp
     generalize hW_:(((Bf.setCell ⟨wS.heap.size,0,none⟩ (.bool Cx)).setCell ⟨wS.heap.size,1,none⟩ (.slice Ct Cw Cu)).setCell ⟨wS.heap.size,2,none⟩ (.slice Co Cs Cp))=Bj
     have hW:=hW_.symm
     clear hW_
     have hG:Gr [wS.heap.size] Bf Bj:=by rw[hW];exact (Gr.refl _ _).set.set.set
     have C4:=hs.size
     have Cv:=B1.lt
     have Bg:Below wS.heap.size Bf Bj:=hG.d1 hs.size
     have hk:=hG.keep ⟨⟨_,B1.ty,by decide⟩,True.intro⟩
     have Bp:Bx Bj (wS.heap.size) 37 #[.bool Cx,.slice Ct Cw Cu,.slice Co Cs Cp]:=by rw[hW];exact B1.set3
     replace hs:=hs.trans Bg
     replace Be:=Be.onlyT (C2.kept PC.kept) (hG.onlyT (by intro g hg;simp only[List.mem_cons,List.mem_nil_iff,or_false] at hg;rcases hg with rfl<;>first|exact B1.ty)) (by decide) (by decide)
     replace Blk:=hG.b1 Blk
     replace B0:=hG.b1 B0
     replace B6:=hG.b1 B6
     replace B1:=Bp
     clear Bp
     revert Cb Bv h1 h2 B7 B5;refine ke hk ?_;intro Cb Bv h1 h2 B7 B5
     replace B8:=hG.c1 B8
     replace B9:=hG.c1 B9
     replace Ba:=hG.c1 Ba
     replace Bb:=hG.c1 Bb
     replace Bc:=hG.c1 Bc
     replace Bd:=hG.c1 Bd
     replace B2:=hG.c1 B2
     replace B3:=hG.c1 B3
     replace B4:=hG.c1 B4
     clear hW hG hk Bg C4 Cv
     refine hK.out _ _ ⟨B8,B9,Ba,Bb,Bc,Bd,B2,B3,B4⟩ (fun hH=>?_)
     clear hK K
     try simp only[LY]
     clear hH
     refine B0.k3fl fun B2 B3 B4 D0 Cg=>?_
     refine dr (by kernel_rfl) rfl (by kernel_rfl) (fun K hK=>?_)
     go_simp
     refine hK.out _ _ ?_
     clear hK K
     intro Df hW
     have hG:Gr [wS.heap.size + 1] Bj Df:=by rw[hW];exact (Gr.refl _ _).set.set.set
     have C4:=hs.size
     have Ce:=B0.lt
     have Bg:Below wS.heap.size Bj Df:=hG.d1 hs.size
     have hk:=hG.keep ⟨⟨_,B0.ty,by decide⟩,True.intro⟩
     have Bi:Bx Df (wS.heap.size + 1) 37 #[.bool Ca,.slice C8 Cc C9,.slice C5 C7 C6]:=by rw[hW];exact B0.set3
     replace hs:=hs.trans Bg
     replace Be:=Be.onlyT (C2.kept PC.kept) (hG.onlyT (by intro g hg;simp only[List.mem_cons,List.mem_nil_iff,or_false] at hg;rcases hg with rfl<;>first|exact B0.ty)) (by decide) (by decide)
     replace Blk:=hG.b1 Blk
     replace B1:=hG.b1 B1
     replace B6:=hG.b1 B6
     replace B0:=Bi
     clear Bi
     revert Cb Bv h1 h2 B7 B5;refine ke hk ?_;intro Cb Bv h1 h2 B7 B5
     clear hW hG hk Bg C4 Ce
     try simp only[LY]
     clear B8 B9 Ba Bb Bc Bd B2 B3 B4
     go_wp2
     go_roundw
     case rel=>exact⟨k + 1,by omega,by go_num,hs,Blk,Be,⟨_,_,_,_,_,_,_,B1,Cb.of_eq (by rw[mq (e:=(cn S k).1) (by rw[if_pos (.inr Cd.out)]) Cf.out])⟩,⟨_,_,_,_,_,_,_,B0,B5.of_eq (by rw[mq (e:=(cn S k).1) (by rw[if_pos (.inr Cd.out)]) Cf.out])⟩⟩
     all_goals first|(simp[intOf];done)|(simp[intOf];omega)
    have D5:¬ (0 < Dd):=by have h:=rt ((cn S k).2) ((cn S k).1);rw[←Cr.out] at h;exact fun h1=>q10 (h.1 h1)
    have Cf:=ae q10
    clear q10
    have E5:decide (0 < Dd)=false:=decide_eq_false D5
    go_wp2
    go_roundw
    case rel=>exact⟨k + 1,by omega,by go_num,hs,Blk,Be,⟨_,_,_,_,_,_,_,B1,h1.of_eq (by rw[ln_no (e:=(cn S k).1) (by rw[if_pos (.inr Cd.out)]) Cf.out])⟩,⟨_,_,_,_,_,_,_,B0,B7.of_eq (by rw[ln_no (e:=(cn S k).1) (by rw[if_pos (.inr Cd.out)]) Cf.out])⟩⟩
    all_goals first|(simp[intOf];done)|(simp[intOf];omega)
   have Dr:¬ (0 < Dc):=by have h:=rt ((cn S k).1) ((lnS S k).2);rw[←Cq.out] at h;exact fun h1=>q8 (h.1 h1)
   have Cd:=ae q8
   clear q8
   have q8d:decide (0 < Dc)=false:=decide_eq_false Dr
   have B8:=B6.a0
   have B9:=B6.a1
   have Ba:=B6.a2
   have Bb:=B6.a3
   have Bc:=B6.a4
   have Bd:=B6.a5
   have Ls:=B6.lt
   refine B0.k3l fun B2 B3 B4 Cg=>?_
   go_wp2_with fail
   clear B8 B9 Ba Bb Bc Bd B2 B3 B4 Ls Cg
   with_reducible refine (uk B5 h2 (SzQ.fit (C1.out k (by omega)).2) (SzQ.fit (D1.out k (by omega)).2)).mono ?_
   rintro e D3 ⟨rfl,hb⟩
   replace hs:=ar hs hb
   revert B6 Blk B1 h1 B0 h2 B7 B5;refine mo hb ?_;intro B6 Blk B1 h1 B0 h2 B7 B5
   replace Be:=el (C2.kept PC.kept) _ _ _ Be hb
   clear hb
   obtain⟨Dd,Cr⟩:∃s:Int,s=sgQ (((cn S k).2) - ((lnS S k).2)):=⟨_,rfl⟩
   rw[←Cr]
   replace Cr:=ae Cr
   by_cases q10:(lnS S k).2 < (cn S k).2
   ·have D5:0 < Dd:=by have h:=rt ((cn S k).2) ((lnS S k).2);rw[←Cr.out] at h;exact h.2 q10
    have Cf:=ae q10
    clear q10
    have E5:decide (0 < Dd)=true:=decide_eq_true D5
    go_upto_region 9 with fail
    refine bw (S:=fun w'=>w'.cell? ⟨wr.heap.size,0,none⟩=some (.bool Bu)∧w'.cell? ⟨wr.heap.size,1,none⟩=some (.slice Bs Bw Bt)∧w'.cell? ⟨wr.heap.size,2,none⟩=some (.slice Bo Br Bq)∧w'.cell? ⟨wr.heap.size,3,none⟩=some (.bool Ca)∧w'.cell? ⟨wr.heap.size,4,none⟩=some (.slice C8 Cc C9)∧w'.cell? ⟨wr.heap.size,5,none⟩=some (.slice C5 C7 C6)∧w'.cell? ⟨wS.heap.size + 1,0,none⟩=some (.bool De)∧w'.cell? ⟨wS.heap.size + 1,1,none⟩=some (.slice D9 Db Da)∧w'.cell? ⟨wS.heap.size + 1,2,none⟩=some (.slice D6 D8 D7)) (by kernel_rfl) 9 ?_
    refine cq.abs ?_
    intro Bh hW
    have hb:Below D3.heap.size D3 Bh:=by rw[hW];exact de _
    replace hs:=ar hs hb
    revert B6 Blk B1 h1 B0 h2 B7 B5;refine mo hb ?_;intro B6 Blk B1 h1 B0 h2 B7 B5
    replace Be:=el (C2.kept PC.kept) _ _ _ Be hb
    clear hb hW
    have B8:=B6.a0
    have B9:=B6.a1
    have Ba:=B6.a2
    have Bb:=B6.a3
    have Bc:=B6.a4
    have Bd:=B6.a5
    refine B0.k3 fun B2 B3 B4=>?_
    have hH:=(show Bh.cell? ⟨wr.heap.size,0,none⟩=some (.bool Bu)∧Bh.cell? ⟨wr.heap.size,1,none⟩=some (.slice Bs Bw Bt)∧Bh.cell? ⟨wr.heap.size,2,none⟩=some (.slice Bo Br Bq)∧Bh.cell? ⟨wr.heap.size,3,none⟩=some (.bool Ca)∧Bh.cell? ⟨wr.heap.size,4,none⟩=some (.slice C8 Cc C9)∧Bh.cell? ⟨wr.heap.size,5,none⟩=some (.slice C5 C7 C6)∧Bh.cell? ⟨wS.heap.size + 1,0,none⟩=some (.bool De)∧Bh.cell? ⟨wS.heap.size + 1,1,none⟩=some (.slice D9 Db Da)∧Bh.cell? ⟨wS.heap.size + 1,2,none⟩=some (.slice D6 D8 D7) from ⟨B8,B9,Ba,Bb,Bc,Bd,B2,B3,B4⟩)
    refine cz 1 ?_ ?_ hH ?_
    rotate_left
    ·(intro w C3;(try dsimp only at C3);go_simp;try with_reducible rfl)
    try simp only[LY]
    refine cz 2 ?_ ?_ hH ?_
    rotate_left
    ·(intro w C3;(try dsimp only at C3);go_simp;try with_reducible rfl)
    try simp only[LY]
    refine cz 3 ?_ ?_ hH ?_
    rotate_left
    ·(intro w C3;(try dsimp only at C3);go_simp;try with_reducible rfl)
    try simp only[LY]
    refine cz 6 ?_ ?_ hH ?_
    rotate_left
    ·(intro w C3;(try dsimp only at C3);go_simp;try with_reducible rfl)
    try simp only[LY]
    refine cz 7 ?_ ?_ hH ?_
    rotate_left
    ·(intro w C3;(try dsimp only at C3);go_simp;try with_reducible rfl)
    try simp only[LY]
    refine dq (i:=0) (j:=4) (by kernel_rfl) rfl rfl (fun K hK=>?_) (fun K hK=>?_)
    ·clear hH
     refine B1.k3 fun Bl Bm Bn=>?_
     go_simp
     try go_wp2_with fail
     clear Bl Bm Bn
     refine hK.out _ _ ⟨B8,B9,Ba,Bb,Bc,Bd,B2,B3,B4⟩ (fun hH=>?_)
     clear hK K
     try simp only[LY]
     clear hH
     refine U_on 4 fun K hK=>?_
     go_simp
     (with_reducible refine (pSub B5 h2 (SzQ.fit (C1.out k (by omega)).2) (SzQ.fit (D1.out k (by omega)).2)).mono ?_)
     rintro e C0 ⟨_,rfl,Bv,hb⟩
     obtain⟨E6,Dw,E3,Dx,Dt,Dv,Du,rfl⟩:=Bv.shape
     replace hs:=ar hs hb
     revert B5;revert B7;revert h2;revert B0;revert h1;revert B1;revert Blk;revert B6;refine mo hb ?_;intro B6 Blk B1 h1 B0 h2 B7 B5
     replace Be:=el (C2.kept PC.kept) _ _ _ Be hb
     replace B8:=ah B8 hb
     replace B9:=ah B9 hb
     replace Ba:=ah Ba hb
     replace Bb:=ah Bb hb
     replace Bc:=ah Bc hb
     replace Bd:=ah Bd hb
     replace B2:=ah B2 hb
     replace B3:=ah B3 hb
     replace B4:=ah B4 hb
     clear hb
     try go_wp2_with fail
     refine hK.out _ _ ⟨B8,B9,Ba,Bb,Bc,Bd,B2,B3,B4⟩ (fun hH=>?_)
     clear hK K
     try simp only[LY]
     clear hH
     refine U_on 5 fun K hK=>?_
     go_simp
     (with_reducible refine (yi h1 Bv (SzQ.fit (D1.out k (by omega)).1) (SzQ.fit (SzQ.sub (C1.out k (by omega)).2 (D1.out k (by omega)).2))).mono ?_)
     rintro e Bk ⟨_,rfl,Cb,hb⟩
     obtain⟨Cx,Ct,Cw,Cu,Co,Cs,Cp,rfl⟩:=Cb.shape
     replace hs:=ar hs hb
     revert B5;revert B7;revert h2;revert B0;revert h1;revert B1;revert Blk;revert B6;revert Bv;refine mo hb ?_;intro Bv B6 Blk B1 h1 B0 h2 B7 B5
     replace Be:=el (C2.kept PC.kept) _ _ _ Be hb
     replace B8:=ah B8 hb
     replace B9:=ah B9 hb
     replace Ba:=ah Ba hb
     replace Bb:=ah Bb hb
     replace Bc:=ah Bc hb
     replace Bd:=ah Bd hb
     replace B2:=ah B2 hb
     replace B3:=ah B3 hb
     replace B4:=ah B4 hb
     clear hb
     try go_wp2_with fail
     refine hK.out _ _ ⟨B8,B9,Ba,Bb,Bc,Bd,B2,B3,B4⟩ (fun hH=>?_)
     clear hK K
     try simp only[LY]
     clear hH
     refine B1.k3fl fun Bl Bm Bn Dm D4=>?_
     refine U_on 8 fun K hK=>?_
     go_simp
     generalize hW_:(((Bk.setCell ⟨wS.heap.size,0,none⟩ (.bool Cx)).setCell ⟨wS.heap.size,1,none⟩ (.slice Ct Cw Cu)).setCell ⟨wS.heap.size,2,none⟩ (.slice Co Cs Cp))=Bf
     have hW:=hW_.symm
     clear hW_
     have hG:Gr [wS.heap.size] Bk Bf:=by rw[hW];exact (Gr.refl _ _).set.set.set
     have C4:=hs.size
     have Cv:=B1.lt
     have Bg:Below wS.heap.size Bk Bf:=hG.d1 hs.size
     have hk:=hG.keep ⟨⟨_,B1.ty,by decide⟩,True.intro⟩
     have Bp:Bx Bf (wS.heap.size) 37 #[.bool Cx,.slice Ct Cw Cu,.slice Co Cs Cp]:=by rw[hW];exact B1.set3
     replace hs:=hs.trans Bg
     replace Be:=Be.onlyT (C2.kept PC.kept) (hG.onlyT (by intro g hg;simp only[List.mem_cons,List.mem_nil_iff,or_false] at hg;rcases hg with rfl<;>first|exact B1.ty)) (by decide) (by decide)
     replace Blk:=hG.b1 Blk
     replace B0:=hG.b1 B0
     replace B6:=hG.b1 B6
     replace B1:=Bp
     clear Bp
     revert Cb Bv h1 h2 B7 B5;refine ke hk ?_;intro Cb Bv h1 h2 B7 B5
     replace B8:=hG.c1 B8
     replace B9:=hG.c1 B9
     replace Ba:=hG.c1 Ba
     replace Bb:=hG.c1 Bb
     replace Bc:=hG.c1 Bc
     replace Bd:=hG.c1 Bd
     replace B2:=hG.c1 B2
     replace B3:=hG.c1 B3
     replace B4:=hG.c1 B4
     clear hW hG hk Bg C4 Cv
     refine hK.out _ _ ⟨B8,B9,Ba,Bb,Bc,Bd,B2,B3,B4⟩ (fun hH=>?_)
     clear hK K
     try simp only[LY]
     clear hH
     refine B0.k3fl fun B2 B3 B4 D0 Cg=>?_
     refine dr (by kernel_rfl) rfl (by kernel_rfl) (fun K hK=>?_)
     go_simp
     refine hK.out _ _ ?_
     clear hK K
     intro Bj hW
     have hG:Gr [wS.heap.size + 1] Bf Bj:=by rw[hW];exact (Gr.refl _ _).set.set.set
     have C4:=hs.size
     have Ce:=B0.lt
     have Bg:Below wS.heap.size Bf Bj:=hG.d1 hs.size
     have hk:=hG.keep ⟨⟨_,B0.ty,by decide⟩,True.intro⟩
     have Bi:Bx Bj (wS.heap.size + 1) 37 #[.bool Ca,.slice C8 Cc C9,.slice C5 C7 C6]:=by rw[hW];exact B0.set3
     replace hs:=hs.trans Bg
     replace Be:=Be.onlyT (C2.kept PC.kept) (hG.onlyT (by intro g hg;simp only[List.mem_cons,List.mem_nil_iff,or_false] at hg;rcases hg with rfl<;>first|exact B0.ty)) (by decide) (by decide)
     replace Blk:=hG.b1 Blk
     replace B1:=hG.b1 B1
     replace B6:=hG.b1 B6
     replace B0:=Bi
     clear Bi
     revert Cb Bv h1 h2 B7 B5;refine ke hk ?_;intro Cb Bv h1 h2 B7 B5
     clear hW hG hk Bg C4 Ce
     try simp only[LY]
     clear B8 B9 Ba Bb Bc Bd B2 B3 B4
     go_wp2
     go_roundw
     case rel=>exact⟨k + 1,by omega,by go_num,hs,Blk,Be,⟨_,_,_,_,_,_,_,B1,Cb.of_eq (by rw[mq (e:=(lnS S k).2) (by rw[if_neg (fun h=>h.elim Cz.out Cd.out)]) Cf.out])⟩,⟨_,_,_,_,_,_,_,B0,B5.of_eq (by rw[mq (e:=(lnS S k).2) (by rw[if_neg (fun h=>h.elim Cz.out Cd.out)]) Cf.out])⟩⟩
     all_goals first|(simp[intOf];done)|(simp[intOf];omega)
    clear hH
    go_simp
    (with_reducible refine (pSub B5 h2 (SzQ.fit (C1.out k (by omega)).2) (SzQ.fit (D1.out k (by omega)).2)).mono ?_)
    rintro e C0 ⟨_,rfl,Bv,hb⟩
    obtain⟨E6,Dw,E3,Dx,Dt,Dv,Du,rfl⟩:=Bv.shape
    replace hs:=ar hs hb
    revert B5;revert B7;revert h2;revert B0;revert h1;revert B1;revert Blk;revert B6;refine mo hb ?_;intro B6 Blk B1 h1 B0 h2 B7 B5
    replace Be:=el (C2.kept PC.kept) _ _ _ Be hb
    replace B8:=ah B8 hb
    replace B9:=ah B9 hb
    replace Ba:=ah Ba hb
    replace Bb:=ah Bb hb
    replace Bc:=ah Bc hb
    replace Bd:=ah Bd hb
    replace B2:=ah B2 hb
    replace B3:=ah B3 hb
    replace B4:=ah B4 hb
    clear hb
    try go_wp2_with fail
    refine hK.out _ _ ⟨B8,B9,Ba,Bb,Bc,Bd,B2,B3,B4⟩ (fun hH=>?_)
    clear hK K
    try simp only[LY]
    clear hH
    refine U_on 0 fun K hK=>?_
    refine B1.k3 fun Bl Bm Bn=>?_
    go_simp
    try go_wp2_with fail
    clear Bl Bm Bn
    refine hK.out _ _ ⟨B8,B9,Ba,Bb,Bc,Bd,B2,B3,B4⟩ (fun hH=>?_)
    clear hK K
    try simp only[LY]
    clear hH
    refine U_on 5 fun K hK=>?_
    go_simp
    (with_reducible refine (yi h1 Bv (SzQ.fit (D1.out k (by omega)).1) (SzQ.fit (SzQ.sub (C1.out k (by omega)).2 (D1.out k (by omega)).2))).mono ?_)
    rintro e Bk ⟨_,rfl,Cb,hb⟩
    obtain⟨Cx,Ct,Cw,Cu,Co,Cs,Cp,rfl⟩:=Cb.shape
    replace hs:=ar hs hb
    revert B5;revert B7;revert h2;revert B0;revert h1;revert B1;revert Blk;revert B6;revert Bv;refine mo hb ?_;intro Bv B6 Blk B1 h1 B0 h2 B7 B5
    replace Be:=el (C2.kept PC.kept) _ _ _ Be hb
    replace B8:=ah B8 hb
    replace B9:=ah B9 hb
    replace Ba:=ah Ba hb
    replace Bb:=ah Bb hb
    replace Bc:=ah Bc hb
    replace Bd:=ah Bd hb
    replace B2:=ah B2 hb
    replace B3:=ah B3 hb
    replace B4:=ah B4 hb
    clear hb
    try go_wp2_with fail
    refine hK.out _ _ ⟨B8,B9,Ba,Bb,Bc,Bd,B2,B3,B4⟩ (fun hH=>?_)
    clear hK K
    try simp only[LY]
    clear hH
    refine B1.k3fl fun Bl Bm Bn Dm D4=>?_
    refine U_on 8 fun K hK=>?_
    go_simp
    generalize hW_:(((Bk.setCell ⟨wS.heap.size,0,none⟩ (.bool Cx)).setCell ⟨wS.heap.size,1,none⟩ (.slice Ct Cw Cu)).setCell ⟨wS.heap.size,2,none⟩ (.slice Co Cs Cp))=Bf
    have hW:=hW_.symm
    clear hW_
    have hG:Gr [wS.heap.size] Bk Bf:=by rw[hW];exact (Gr.refl _ _).set.set.set
    have C4:=hs.size
    have Cv:=B1.lt
    have Bg:Below wS.heap.size Bk Bf:=hG.d1 hs.size
    have hk:=hG.keep ⟨⟨_,B1.ty,by decide⟩,True.intro⟩
    have Bp:Bx Bf (wS.heap.size) 37 #[.bool Cx,.slice Ct Cw Cu,.slice Co Cs Cp]:=by rw[hW];exact B1.set3
    replace hs:=hs.trans Bg
    replace Be:=Be.onlyT (C2.kept PC.kept) (hG.onlyT (by intro g hg;simp only[List.mem_cons,List.mem_nil_iff,or_false] at hg;rcases hg with rfl<;>first|exact B1.ty)) (by decide) (by decide)
    replace Blk:=hG.b1 Blk
    replace B0:=hG.b1 B0
    replace B6:=hG.b1 B6
    replace B1:=Bp
    clear Bp
    revert Cb Bv h1 h2 B7 B5;refine ke hk ?_;intro Cb Bv h1 h2 B7 B5
    replace B8:=hG.c1 B8
    replace B9:=hG.c1 B9
    replace Ba:=hG.c1 Ba
    replace Bb:=hG.c1 Bb
    replace Bc:=hG.c1 Bc
    replace Bd:=hG.c1 Bd
    replace B2:=hG.c1 B2
    replace B3:=hG.c1 B3
    replace B4:=hG.c1 B4
    clear hW hG hk Bg C4 Cv
    refine hK.out _ _ ⟨B8,B9,Ba,Bb,Bc,Bd,B2,B3,B4⟩ (fun hH=>?_)
    clear hK K
    try simp only[LY]
    clear hH
    refine B0.k3fl fun B2 B3 B4 D0 Cg=>?_
    refine dr (by kernel_rfl) rfl (by kernel_rfl) (fun K hK=>?_)
    go_simp
    refine hK.out _ _ ?_
    clear hK K
    intro Bj hW
    have hG:Gr [wS.heap.size + 1] Bf Bj:=by rw[hW];exact (Gr.refl _ _).set.set.set
    have C4:=hs.size
    have Ce:=B0.lt
    have Bg:Below wS.heap.size Bf Bj:=hG.d1 hs.size
    have hk:=hG.keep ⟨⟨_,B0.ty,by decide⟩,True.intro⟩
    have Bi:Bx Bj (wS.heap.size + 1) 37 #[.bool Ca,.slice C8 Cc C9,.slice C5 C7 C6]:=by rw[hW];exact B0.set3
    replace hs:=hs.trans Bg
    replace Be:=Be.onlyT (C2.kept PC.kept) (hG.onlyT (by intro g hg;simp only[List.mem_cons,List.mem_nil_iff,or_false] at hg;rcases hg with rfl<;>first|exact B0.ty)) (by decide) (by decide)
    replace Blk:=hG.b1 Blk
    replace B1:=hG.b1 B1
    replace B6:=hG.b1 B6
    replace B0:=Bi
    clear Bi
    revert Cb Bv h1 h2 B7 B5;refine ke hk ?_;intro Cb Bv h1 h2 B7 B5
    clear hW hG hk Bg C4 Ce
    try simp only[LY]
    clear B8 B9 Ba Bb Bc Bd B2 B3 B4
    go_wp2
    go_roundw
    case rel=>exact⟨k + 1,by omega,by go_num,hs,Blk,Be,⟨_,_,_,_,_,_,_,B1,Cb.of_eq (by rw[mq (e:=(lnS S k).2) (by rw[if_neg (fun h=>h.elim Cz.out Cd.out)]) Cf.out])⟩,⟨_,_,_,_,_,_,_,B0,B5.of_eq (by rw[mq (e:=(lnS S k).2) (by rw[if_neg (fun h=>h.elim Cz.out Cd.out)]) Cf.out])⟩⟩
    all_goals first|(simp[intOf];done)|(simp[intOf];omega)
   have D5:¬ (0 < Dd):=by have h:=rt ((cn S k).2) ((lnS S k).2);rw[←Cr.out] at h;exact fun h1=>q10 (h.1 h1)
   have Cf:=ae q10
   clear q10
   have E5:decide (0 < Dd)=false:=decide_eq_false D5
   go_wp2
   go_roundw
   case rel=>exact⟨k + 1,by omega,by go_num,hs,Blk,Be,⟨_,_,_,_,_,_,_,B1,h1.of_eq (by rw[ln_no (e:=(lnS S k).2) (by rw[if_neg (fun h=>h.elim Cz.out Cd.out)]) Cf.out])⟩,⟨_,_,_,_,_,_,_,B0,h2.of_eq (by rw[ln_no (e:=(lnS S k).2) (by rw[if_neg (fun h=>h.elim Cz.out Cd.out)]) Cf.out])⟩⟩
   all_goals first|(simp[intOf];done)|(simp[intOf];omega)
  have q3d:((k:Int) < (S.length:Int))=False:=eq_false (by omega)
  have E1:PV wr (.agg #[.bool Cn,.slice Ck Cm Cl,.slice Ch Cj Ci]) (lnQ (xi L)):=h1.of_eq (by rw[←HLN.out,show k=S.length from by omega])
  obtain⟨wk,Do,Dp,hs2⟩:=jc4 w.heap.size wr (by have:=hs.size;omega)
  have E7:=ae (And.intro hs hs2)
  clear hs
  have hs:=hs2
  clear hs2
  skip
  refine B1.k3l fun Bl Bm Bn D4=>?_
  refine Blk.k3fl fun Dy Dz E0 fk Lk=>?_
  go_wp2
  clear Bl Bm Bn Dy Dz E0 fk D4 Lk
  refine bodyPost.abs ?_
  intro By hW
  have hG:Gr [w.heap.size] wr By:=by rw[hW];exact (Gr.refl _ _).set.set.set
  have C4:=hs.size
  have lk:=Blk.lt
  have Bg:Below wk.heap.size wr By:=hG.d1 hs.size
  have hk:=hG.keep ⟨⟨_,Blk.ty,by decide⟩,True.intro⟩
  have E8:Bx By (w.heap.size) 37 #[.bool Cn,.slice Ck Cm Cl,.slice Ch Cj Ci]:=by rw[hW];exact Blk.set3
  replace hs:=hs.trans Bg
  replace B1:=hG.b1 B1
  replace Blk:=E8
  clear E8
  replace E1:=E1.keep hk
  clear hW hG hk Bg C4 lk
  refine Blk.k3 fun Dy Dz E0=>?_
  exact bodyPost_ret (v:=.agg #[.bool Cn,.slice Ck Cm Cl,.slice Ch Cj Ci]) (by simp[results,Tryz.results101,go_sem,Dy,Dz,E0]) rfl ⟨_,rfl,E1,len_fin HB0.out hbase HW0 E7.out.1 Do Dp E7.out.2 hs,len_only HG0.out HW0 E7.out.1 Do Dp E7.out.2 hs⟩
end Go.Proofs.YtidmjdmmpajooaaGreat
