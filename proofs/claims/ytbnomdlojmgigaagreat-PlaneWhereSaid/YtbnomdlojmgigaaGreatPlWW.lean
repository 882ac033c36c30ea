/-
  The reference's words for polygons: how far a point is.
-/
import Derived.Test.YtbnomdlojmgigaaGreatPkW21W
set_option linter.unusedSimpArgs false
set_option linter.unusedVariables false
set_option maxRecDepth 100000
set_option maxHeartbeats 16000000
namespace Go.Proofs.YtbnomdlojmgigaaGreat
open Go.RowKit Dg
attribute [local go_sem ↓] Go.wp_at_zero Go.wp_at_succ
theorem fr_ne {a b:Pt} {t:Int} (h:¬ t≤0) (k:¬ dtZ (mnZ b a) (mnZ b a)≤t):¬ frZ a b=0:=fun e=>by
 have:frZ a b=dtZ (mnZ b a) (mnZ b a):=rfl
 omega
theorem ds_sz {a b q:Pt} (ha:WP 1048576 a) (hb:WP 1048576 b) (hq:WP 1048576 q):SzQ 10 (dsQ a b q):=by
 have s2:∀{n:Int},Wn 17592186044416 n→SzQ 2 (n:Rat):=fun h=>qj (h.mono (by decide))
 by_cases h:dtZ (mnZ q a) (mnZ b a)≤0
 ·rw[ds_1 h];exact (s2 (fr_wn ha hq)).mono (by decide)
 by_cases k:dtZ (mnZ b a) (mnZ b a)≤dtZ (mnZ q a) (mnZ b a)
 ·rw[ds_2 h k];exact (s2 (fr_wn hb hq)).mono (by decide)
 rw[ds_3 h k]
 exact (SzQ.div (SzQ.mul (s2 (tn_wn ha hb hq)) (s2 (tn_wn ha hb hq))) (s2 (fr_wn ha hb)) (fun e=>fr_ne h k (Rat.intCast_eq_zero_iff.1 e))).mono (by decide)
theorem pt_wp {l:List Pt} (hr:∀j,j < l.length→rtB (ptZ l j)=true) (j:Nat):WP 1048576 (ptZ l j):=by
 by_cases h:j < l.length
 ·exact jm (hr j h)
 unfold ptZ
 rw[List.getD_eq_getElem?_getD,List.getElem?_eq_none (by omega)]
 exact⟨Wn.lit (by decide) (by decide),Wn.lit (by decide) (by decide)⟩
theorem bd_sz {l:List Pt} {q:Pt} (hr:∀j,j < l.length→rtB (ptZ l j)=true) (hq:WP 1048576 q):∀k,SzQ 10 (bdQ l q k)
 | 0=>jn.mono (by decide)
 | k + 1=>by
  unfold bdQ
  split
  ·exact ds_sz (pt_wp hr _) (pt_wp hr _) hq
  split
  ·exact ds_sz (pt_wp hr _) (pt_wp hr _) hq
  exact bd_sz hr hq k
theorem bd_1 (l:List Pt) (q:Pt):bdQ l q 1=dsQ (ptZ l 0) (ptZ l ((0 + 1) % l.length)) q:=if_pos rfl
theorem bd_t {l:List Pt} {q:Pt} {k:Nat} (hk:1≤k) (h:dsQ (ptZ l k) (ptZ l ((k + 1) % l.length)) q < bdQ l q k):bdQ l q (k + 1)=dsQ (ptZ l k) (ptZ l ((k + 1) % l.length)) q:=(if_neg (by omega)).trans (if_pos h)
theorem bd_f {l:List Pt} {q:Pt} {k:Nat} (hk:1≤k) (h:¬ dsQ (ptZ l k) (ptZ l ((k + 1) % l.length)) q < bdQ l q k):bdQ l q (k + 1)=bdQ l q k:=(if_neg (by omega)).trans (if_neg h)
theorem zk (v:Value) (l:List Pt) (q:Pt) (w:World) (hl:Pts w v l) (h0:0 < l.length) (h16:l.length≤16) (hr:∀j,j < l.length→rtB (ptZ l j)=true) (hq:WP 1048576 q):
  Calls Tryz.prog 22 #[v,.agg #[.int .i64 q.1,.int .i64 q.2]] w (rx w (diQ l q)):=by
 obtain⟨bb,oo,cap,rfl,hc1,hc2⟩:=ep hl h0
 have hs:=Below.refl w.heap.size w
 have HBS:=ae (fun k=>bd_sz (q:=q) hr hq k)
 have HL:=ae hl
 have D2:=ae hr
 have HQ:=ae hq
 clear hl hr hq
 go_enter Tryz.func22,Tryz.ntmps22
 go_wp2_with fail
 refine Calls.abs ?_
 intro w1 hW
 have hG:Gr [] w w1:=by rw[hW];exact (Gr.refl _ _).alloc.alloc
 have sz_w1:=hs.size
 have B1:Bx w1 (w.heap.size) 31 #[.int .i64 q.1,.int .i64 q.2]:=by rw[hW];exact ((Bx.new0 _ _ _).alloc _)
 have Blk:Bx w1 (w.heap.size + 1) 53 #[.bool false,.slice none 0 0,.slice none 0 0]:=by rw[hW];exact (Bx.new0 _ _ _)
 replace hs:=hs.trans (hG.below0 hs.size)
 clear hW hG
 have hz_w1:=Blk.lt
 with_reducible refine (je5 _ l q _ (be.mono IP.kept HL.out hs) (by omega) (by omega) D2.out HQ.out).mono ?_
 rintro e w2 ⟨rfl,hb⟩
 revert B1 Blk;refine mS hs hb ?_;clear hs hb;intro hs B1 Blk
 obtain⟨wz1,Ct⟩:∃s:Int,s=whZ l q:=⟨_,rfl⟩
 rw[←Ct]
 replace Ct:=ae Ct
 by_cases q2:0≤wz1
 ·have q2d:((0:Int)≤wz1)=True:=eq_true (by omega)
  go_wp2_with fail
  with_reducible refine (zl 0 _ (by omega) (by omega)).mono ?_
  rintro e w3 ⟨_,rfl,h3,hb⟩
  obtain⟨sh3,ah3,nh3,ch3,Ah3,Nh3,Ch3,rfl⟩:=h3.shape
  revert Blk;revert B1;refine mS hs hb ?_;clear hs hb;intro hs B1 Blk
  refine Blk.k3fl fun C4 C5 C6 fk Lk=>?_
  go_wp2
  clear C4 C5 C6 fk Lk
  refine bodyPost.abs ?_
  intro w4 hW
  have hG:Gr [w.heap.size + 1] w3 w4:=by rw[hW];exact (Gr.refl _ _).set.set.set
  have Bl:=hs.size
  have lk:=Blk.lt
  have hk:=hG.keep ⟨⟨_,Blk.ty,by decide⟩,True.intro⟩
  have Cr:Bx w4 (w.heap.size + 1) 53 #[.bool sh3,.slice ah3 nh3 ch3,.slice Ah3 Nh3 Ch3]:=by rw[hW];exact Blk.set3
  replace hs:=hs.trans (hG.d1 hs.size)
  replace B1:=hG.b1 B1
  replace Blk:=Cr
  clear Cr
  replace h3:=h3.keep hk
  clear hW hG hk Bl lk
  refine Blk.k3 fun C4 C5 C6=>?_
  exact bodyPost_ret (v:=.agg #[.bool sh3,.slice ah3 nh3 ch3,.slice Ah3 Nh3 Ch3]) (by simp[results,Tryz.results22,go_sem,C4,C5,C6]) rfl ⟨_,rfl,h3.of_eq (show _=diQ l q from ((if_pos (by rw[←Ct.out];omega)).symm)),hs⟩
 have q2d:((0:Int)≤wz1)=False:=eq_false (by omega)
 obtain⟨Cy,Cg⟩:∃z:Pt,z=ptZ l ((0 + 1) % l.length):=⟨_,rfl⟩
 have D3:WP 1048576 Cy:=by rw[Cg];exact jm (D2.out _ (Nat.mod_lt _ (by omega)))
 replace Cg:=ae Cg
 go_upto_region 3 with fail
 obtain⟨B6,B7,le4⟩:=ij (be.mono IP.kept HL.out hs) (show 0 < l.length by omega)
 simp only[Nat.zero_mul,Nat.add_zero] at B6 B7
 obtain⟨C2,Cs⟩:∃z:Pt,z=ptZ l 0:=⟨_,rfl⟩
 rw[←Cs] at B6 B7
 have D4:WP 1048576 C2:=by rw[Cs];exact (jm (D2.out 0 (by omega)))
 replace Cs:=ae Cs
 go_cut [5] (fun kv0 wz=>∃B4 Cf Cb Ce Cc C7 Ca C8,kv0=.pointer (some ⟨B4,0,none⟩)∧w.heap.size≤B4∧B4≠w.heap.size∧B4≠(w.heap.size + 1)∧Bx wz B4 53 #[.bool Cf,.slice Cb Ce Cc,.slice C7 Ca C8]∧Below w.heap.size w wz∧Bx wz (w.heap.size) 31 #[.int .i64 q.1,.int .i64 q.2]∧Bx wz (w.heap.size + 1) 53 #[.bool false,.slice none 0 0,.slice none 0 0]∧RV wz (.agg #[.bool Cf,.slice Cb Ce Cc,.slice C7 Ca C8]) (dsQ C2 Cy q))
 case first=>
  refine bw (S:=fun w'=>w'.cell? ⟨w.heap.size,0,none⟩=some (.int .i64 q.1)∧w'.cell? ⟨w.heap.size,1,none⟩=some (.int .i64 q.2)∧w'.cell? ⟨bb,oo,none⟩=some (.int .i64 C2.1)∧w'.cell? ⟨bb,oo + 1,none⟩=some (.int .i64 C2.2)) (by kernel_rfl) 8 ?_
  refine cq.abs ?_
  intro w3 hW
  have hb:Below w2.heap.size w2 w3:=by rw[hW];exact de _
  replace hs:=ar hs hb
  revert B1 Blk;refine mo hb ?_;intro B1 Blk
  replace B6:=ah B6 hb
  replace B7:=ah B7 hb
  clear hb hW
  refine B1.k2 fun B2 B3=>?_
  have hH:=(show w3.cell? ⟨w.heap.size,0,none⟩=some (.int .i64 q.1)∧w3.cell? ⟨w.heap.size,1,none⟩=some (.int .i64 q.2)∧w3.cell? ⟨bb,oo,none⟩=some (.int .i64 C2.1)∧w3.cell? ⟨bb,oo + 1,none⟩=some (.int .i64 C2.2) from ⟨B2,B3,B6,B7⟩)
  refine cz 0 ?_ ?_ hH ?_
  rotate_left
  ·(intro w Bi;(try dsimp only at Bi);go_simp;try with_reducible rfl)
  try simp only[LY]
  refine cz 1 ?_ ?_ hH ?_
  rotate_left
  ·(intro w Bi;(try dsimp only at Bi);go_simp;try with_reducible rfl)
  try simp only[LY]
  refine cz 2 ?_ ?_ hH ?_
  rotate_left
  ·(intro w Bi;(try dsimp only at Bi);go_simp;try with_reducible rfl)
  try simp only[LY]
  refine cz 3 ?_ ?_ hH ?_
  rotate_left
  ·(intro w Bi;(try dsimp only at Bi);go_simp;try with_reducible rfl)
  try simp only[LY]
  refine cz 5 ?_ ?_ hH ?_
  rotate_left
  ·(intro w Bi;(try dsimp only at Bi);go_simp;try with_reducible rfl)
  try simp only[LY]
  refine dq (i:=4) (j:=7) (by kernel_rfl) rfl rfl (fun K hK=>?_) (fun K hK=>?_)
  ·clear hH
   go_simp
   (with_reducible refine (dp _ l 0 0 _ (be.mono IP.kept HL.out hs) (by omega) (by omega) (by omega) (by omega) Cg.out).mono ?_)
   rintro e w4 ⟨rfl,hb⟩
   replace hs:=ar hs hb
   revert B1 Blk;refine mo hb ?_;intro B1 Blk
   replace B2:=ah B2 hb
   replace B3:=ah B3 hb
   replace B6:=ah B6 hb
   replace B7:=ah B7 hb
   clear hb
   try go_wp2_with fail
   refine hK.out _ _ ⟨B2,B3,B6,B7⟩ (fun hH=>?_)
   clear hK K
   try simp only[LY]
   refine dq (i:=6) (j:=7) (by kernel_rfl) rfl rfl (fun K hK=>?_) (fun K hK=>?_)
   ·clear hH
    go_simp
    (with_reducible refine (ud C2 Cy q _ D4 D3 HQ.out).mono ?_)
    rintro e w5 ⟨_,rfl,h5,hb⟩
    obtain⟨Cf,Cb,Ce,Cc,C7,Ca,C8,rfl⟩:=h5.shape
    replace hs:=ar hs hb
    revert Blk;revert B1;refine mo hb ?_;intro B1 Blk
    replace B2:=ah B2 hb
    replace B3:=ah B3 hb
    replace B6:=ah B6 hb
    replace B7:=ah B7 hb
    clear hb
    try go_wp2_with fail
    refine hK.out _ _ ⟨B2,B3,B6,B7⟩ (fun hH=>?_)
    clear hK K
    try simp only[LY]
    clear hH
    refine U_on 7 fun K hK=>?_
    go_simp
    generalize hWn:(w5.alloc (.cells #[.bool false,.slice none 0 0,.slice none 0 0] 53))=w6
    have hb:Below w5.heap.size w5 w6:=by rw[←hWn];exact (Below.refl _ _).alloc (ag _) _
    have B0:Bx w6 (w5.heap.size) 53 #[.bool false,.slice none 0 0,.slice none 0 0]:=by rw[←hWn];exact Bx.new _ _ _
    have Cw:w.heap.size≠w5.heap.size:=by have:=B1.lt;omega
    have Cu:w.heap.size + 1≠w5.heap.size:=by have:=Blk.lt;omega
    have Bv:=hs.size
    replace hs:=ar hs hb
    revert h5 B1 Blk;refine mo hb ?_;intro h5 B1 Blk
    replace B2:=ah B2 hb
    replace B3:=ah B3 hb
    replace B6:=ah B6 hb
    replace B7:=ah B7 hb
    clear hb hWn
    refine hK.out _ _ ⟨B2,B3,B6,B7⟩ (fun hH=>?_)
    clear hK K
    try simp only[LY]
    clear hH
    refine B0.k3fl fun Be Bf Bg Cd Bk=>?_
    refine dr (by kernel_rfl) rfl (by kernel_rfl) (fun K hK=>?_)
    go_simp
    refine hK.out _ _ ?_
    clear hK K
    intro w7 hW
    have hG:Gr [w5.heap.size] w6 w7:=by rw[hW];exact (Gr.refl _ _).set.set.set
    have Bl:=hs.size
    have Bu:=B0.lt
    have hk:=hG.keep ⟨⟨_,B0.ty,by decide⟩,True.intro⟩
    have Bb:Bx w7 (w5.heap.size) 53 #[.bool Cf,.slice Cb Ce Cc,.slice C7 Ca C8]:=by rw[hW];exact B0.set3
    replace hs:=hs.trans (hG.d1 hs.size)
    replace B1:=hG.b1 B1
    replace Blk:=hG.b1 Blk
    replace B0:=Bb
    clear Bb
    replace h5:=h5.keep hk
    clear hW hG hk Bl Bu
    try simp only[LY]
    clear B2 B3 B6 B7
    go_wp2_with fail
    go_meet
    exact⟨w5.heap.size,_,_,_,_,_,_,_,rfl,(by first|exact Bv|omega),(by omega),(by omega),B0,hs,B1,Blk,h5⟩
   clear hH
   go_simp
   generalize hWn:(w4.alloc (.cells #[.bool false,.slice none 0 0,.slice none 0 0] 53))=w5
   have hb:Below w4.heap.size w4 w5:=by rw[←hWn];exact (Below.refl _ _).alloc (ag _) _
   have B0:Bx w5 (w4.heap.size) 53 #[.bool false,.slice none 0 0,.slice none 0 0]:=by rw[←hWn];exact Bx.new _ _ _
   have Cw:w.heap.size≠w4.heap.size:=by have:=B1.lt;omega
   have Cu:w.heap.size + 1≠w4.heap.size:=by have:=Blk.lt;omega
   have Bv:=hs.size
   replace hs:=ar hs hb
   revert B1 Blk;refine mo hb ?_;intro B1 Blk
   replace B2:=ah B2 hb
   replace B3:=ah B3 hb
   replace B6:=ah B6 hb
   replace B7:=ah B7 hb
   clear hb hWn
   refine hK.out _ _ ⟨B2,B3,B6,B7⟩ (fun hH=>?_)
   clear hK K
   try simp only[LY]
   clear hH
   refine U_on 6 fun K hK=>?_
   go_simp
   (with_reducible refine (ud C2 Cy q _ D4 D3 HQ.out).mono ?_)
   rintro e w6 ⟨_,rfl,h5,hb⟩
   obtain⟨Cf,Cb,Ce,Cc,C7,Ca,C8,rfl⟩:=h5.shape
   replace hs:=ar hs hb
   revert Blk;revert B1;revert B0;refine mo hb ?_;intro B0 B1 Blk
   replace B2:=ah B2 hb
   replace B3:=ah B3 hb
   replace B6:=ah B6 hb
   replace B7:=ah B7 hb
   clear hb
   try go_wp2_with fail
   refine hK.out _ _ ⟨B2,B3,B6,B7⟩ (fun hH=>?_)
   clear hK K
   try simp only[LY]
   clear hH
   refine B0.k3fl fun Be Bf Bg Cd Bk=>?_
   refine dr (by kernel_rfl) rfl (by kernel_rfl) (fun K hK=>?_)
   go_simp
   refine hK.out _ _ ?_
   clear hK K
   intro w7 hW
   have hG:Gr [w4.heap.size] w6 w7:=by rw[hW];exact (Gr.refl _ _).set.set.set
   have Bl:=hs.size
   have Bu:=B0.lt
   have hk:=hG.keep ⟨⟨_,B0.ty,by decide⟩,True.intro⟩
   have Bb:Bx w7 (w4.heap.size) 53 #[.bool Cf,.slice Cb Ce Cc,.slice C7 Ca C8]:=by rw[hW];exact B0.set3
   replace hs:=hs.trans (hG.d1 hs.size)
   replace B1:=hG.b1 B1
   replace Blk:=hG.b1 Blk
   replace B0:=Bb
   clear Bb
   replace h5:=h5.keep hk
   clear hW hG hk Bl Bu
   try simp only[LY]
   clear B2 B3 B6 B7
   go_wp2_with fail
   go_meet
   exact⟨w4.heap.size,_,_,_,_,_,_,_,rfl,(by first|exact Bv|omega),(by omega),(by omega),B0,hs,B1,Blk,h5⟩
  clear hH
  go_simp
  generalize hWn:(w3.alloc (.cells #[.bool false,.slice none 0 0,.slice none 0 0] 53))=w4
  have hb:Below w3.heap.size w3 w4:=by rw[←hWn];exact (Below.refl _ _).alloc (ag _) _
  have B0:Bx w4 (w3.heap.size) 53 #[.bool false,.slice none 0 0,.slice none 0 0]:=by rw[←hWn];exact Bx.new _ _ _
  have Cw:w.heap.size≠w3.heap.size:=by have:=B1.lt;omega
  have Cu:w.heap.size + 1≠w3.heap.size:=by have:=Blk.lt;omega
  have Bv:=hs.size
  replace hs:=ar hs hb
  revert B1 Blk;refine mo hb ?_;intro B1 Blk
  replace B2:=ah B2 hb
  replace B3:=ah B3 hb
  replace B6:=ah B6 hb
  replace B7:=ah B7 hb
  clear hb hWn
  refine hK.out _ _ ⟨B2,B3,B6,B7⟩ (fun hH=>?_)
  clear hK K
  try simp only[LY]
  clear hH
  refine U_on 4 fun K hK=>?_
  go_simp
  (with_reducible refine (dp _ l 0 0 _ (be.mono IP.kept HL.out hs) (by omega) (by omega) (by omega) (by omega) Cg.out).mono ?_)
  rintro e w5 ⟨rfl,hb⟩
  replace hs:=ar hs hb
  revert B0 B1 Blk;refine mo hb ?_;intro B0 B1 Blk
  replace B2:=ah B2 hb
  replace B3:=ah B3 hb
  replace B6:=ah B6 hb
  replace B7:=ah B7 hb
  clear hb
  try go_wp2_with fail
  refine hK.out _ _ ⟨B2,B3,B6,B7⟩ (fun hH=>?_)
  clear hK K
  try simp only[LY]
  clear hH
  refine U_on 6 fun K hK=>?_
  go_simp
  (with_reducible refine (ud C2 Cy q _ D4 D3 HQ.out).mono ?_)
  rintro e w6 ⟨_,rfl,h5,hb⟩
  obtain⟨Cf,Cb,Ce,Cc,C7,Ca,C8,rfl⟩:=h5.shape
  replace hs:=ar hs hb
  revert Blk;revert B1;revert B0;refine mo hb ?_;intro B0 B1 Blk
  replace B2:=ah B2 hb
  replace B3:=ah B3 hb
  replace B6:=ah B6 hb
  replace B7:=ah B7 hb
  clear hb
  try go_wp2_with fail
  refine hK.out _ _ ⟨B2,B3,B6,B7⟩ (fun hH=>?_)
  clear hK K
  try simp only[LY]
  clear hH
  refine B0.k3fl fun Be Bf Bg Cd Bk=>?_
  refine dr (by kernel_rfl) rfl (by kernel_rfl) (fun K hK=>?_)
  go_simp
  refine hK.out _ _ ?_
  clear hK K
  intro w7 hW
  have hG:Gr [w3.heap.size] w6 w7:=by rw[hW];exact (Gr.refl _ _).set.set.set
  have Bl:=hs.size
  have Bu:=B0.lt
  have hk:=hG.keep ⟨⟨_,B0.ty,by decide⟩,True.intro⟩
  have Bb:Bx w7 (w3.heap.size) 53 #[.bool Cf,.slice Cb Ce Cc,.slice C7 Ca C8]:=by rw[hW];exact B0.set3
  replace hs:=hs.trans (hG.d1 hs.size)
  replace B1:=hG.b1 B1
  replace Blk:=hG.b1 Blk
  replace B0:=Bb
  clear Bb
  replace h5:=h5.keep hk
  clear hW hG hk Bl Bu
  try simp only[LY]
  clear B2 B3 B6 B7
  go_wp2_with fail
  go_meet
  exact⟨w3.heap.size,_,_,_,_,_,_,_,rfl,(by first|exact Bv|omega),(by omega),(by omega),B0,hs,B1,Blk,h5⟩
 case rest=>
  clear hs B6 B7 B1 Blk
  obtain⟨B4,Cf,Cb,Ce,Cc,C7,Ca,C8,rfl,Dd,Dc,Db,B0,hs,B1,Blk,h5⟩:=hcut
  go_wp2
  go_loopw [6] (fun s6 wq=>∃k:Nat,1≤k∧k≤l.length∧s6=.int .i64 k∧Below w.heap.size w wq∧Bx wq (w.heap.size) 31 #[.int .i64 q.1,.int .i64 q.2]∧Bx wq (w.heap.size + 1) 53 #[.bool false,.slice none 0 0,.slice none 0 0]∧BoxR wq (B4) (bdQ l q k)) (fun s6 _=>l.length - (intOf s6).toNat)
  case atStart=>exact⟨1,ag _,by omega,rfl,hs,B1,Blk,⟨_,_,_,_,_,_,_,B0,(h5.of_eq (show _=bdQ l q 1 from by rw[bd_1,show ptZ l 0=C2 from Cs.out.symm,show ptZ l ((0 + 1) % l.length)=Cy from Cg.out.symm]))⟩⟩
  case round=>
   clear B1 Blk B0 h5 hs
   obtain⟨k,D7,k_le,rfl,hs,B1,Blk,⟨Cq,Cn,Cp,Co,Ck,Cm,Cl,B0,h6⟩⟩:=hrel
   obtain⟨By,hwo⟩:∃x,x=wr:=⟨_,rfl⟩
   subst hwo
   by_cases q7:k < l.length
   ·have q7d:((k:Int) < (l.length:Int))=True:=eq_true (by omega)
    obtain⟨Bz,C1⟩:∃z:Pt,z=ptZ l ((k + 1) % l.length):=⟨_,rfl⟩
    have Cz:WP 1048576 Bz:=by rw[C1];exact jm (D2.out _ (Nat.mod_lt _ (by omega)))
    replace C1:=ae C1
    go_upto_region 7 with fail
    obtain⟨B8,B9,le9⟩:=ij (be.mono IP.kept HL.out hs) (show k < l.length by omega)
    obtain⟨Bt,C3⟩:∃z:Pt,z=ptZ l k:=⟨_,rfl⟩
    rw[←C3] at B8 B9
    have D0:WP 1048576 Bt:=by rw[C3];exact (jm (D2.out k (by omega)))
    replace C3:=ae C3
    go_cut [7] (fun kv0 wz=>∃gd Bs Bp Br Bq Bm Bo Bn,kv0=.pointer (some ⟨gd,0,none⟩)∧w.heap.size≤gd∧gd≠w.heap.size∧gd≠(w.heap.size + 1)∧gd≠B4∧Bx wz gd 53 #[.bool Bs,.slice Bp Br Bq,.slice Bm Bo Bn]∧Below w.heap.size w wz∧Bx wz (w.heap.size) 31 #[.int .i64 q.1,.int .i64 q.2]∧Bx wz (w.heap.size + 1) 53 #[.bool false,.slice none 0 0,.slice none 0 0]∧Bx wz (B4) 53 #[.bool Cq,.slice Cn Cp Co,.slice Ck Cm Cl]∧RV wz (.agg #[.bool Cq,.slice Cn Cp Co,.slice Ck Cm Cl]) (bdQ l q k)∧RV wz (.agg #[.bool Bs,.slice Bp Br Bq,.slice Bm Bo Bn]) (dsQ Bt Bz q))
    case first=>
     refine bw (S:=fun w'=>w'.cell? ⟨w.heap.size,0,none⟩=some (.int .i64 q.1)∧w'.cell? ⟨w.heap.size,1,none⟩=some (.int .i64 q.2)∧w'.cell? ⟨bb,oo + k * 2,none⟩=some (.int .i64 Bt.1)∧w'.cell? ⟨bb,oo + k * 2 + 1,none⟩=some (.int .i64 Bt.2)) (by kernel_rfl) 10 ?_
     refine cq.abs ?_
     intro Ba hW
     have hb:Below By.heap.size By Ba:=by rw[hW];exact de _
     replace hs:=ar hs hb
     revert h6;revert B0;revert Blk;revert B1;refine mo hb ?_;intro B1 Blk B0 h6
     replace B8:=ah B8 hb
     replace B9:=ah B9 hb
     clear hb hW
     refine B1.k2 fun B2 B3=>?_
     have hH:=(show Ba.cell? ⟨w.heap.size,0,none⟩=some (.int .i64 q.1)∧Ba.cell? ⟨w.heap.size,1,none⟩=some (.int .i64 q.2)∧Ba.cell? ⟨bb,oo + k * 2,none⟩=some (.int .i64 Bt.1)∧Ba.cell? ⟨bb,oo + k * 2 + 1,none⟩=some (.int .i64 Bt.2) from ⟨B2,B3,B8,B9⟩)
     refine cz 0 ?_ ?_ hH ?_
     rotate_left
     ·(intro w Bi;(try dsimp only at Bi);go_simp;try with_reducible rfl)
     try simp only[LY]
     refine cz 1 ?_ ?_ hH ?_
     rotate_left
     ·(intro w Bi;(try dsimp only at Bi);go_simp;try with_reducible rfl)
     try simp only[LY]
     refine cz 2 ?_ ?_ hH ?_
     rotate_left
     ·(intro w Bi;(try dsimp only at Bi);go_simp;try with_reducible rfl)
     try simp only[LY]
     refine cz 3 ?_ ?_ hH ?_
     rotate_left
     ·(intro w Bi;(try dsimp only at Bi);go_simp;try with_reducible rfl)
     try simp only[LY]
     refine cz 4 ?_ ?_ hH ?_
     rotate_left
     ·(intro w Bi;(try dsimp only at Bi);go_simp;try with_reducible rfl)
     try simp only[LY]
     refine cz 5 ?_ ?_ hH ?_
     rotate_left
     ·(intro w Bi;(try dsimp only at Bi);go_simp;try with_reducible rfl)
     try simp only[LY]
     refine cz 7 ?_ ?_ hH ?_
     rotate_left
     ·(intro w Bi;(try dsimp only at Bi);go_simp;try with_reducible rfl)
     try simp only[LY]
     refine dq (i:=6) (j:=9) (by kernel_rfl) rfl rfl (fun K hK=>?_) (fun K hK=>?_)
     ·clear hH
      go_simp
      (with_reducible refine (dp _ l k ((k:Int)) _ (be.mono IP.kept HL.out hs) (by omega) (by omega) (by omega) (by omega) C1.out).mono ?_)
      rintro e w24 ⟨rfl,hb⟩
      replace hs:=ar hs hb
      revert B1 Blk B0 h6;refine mo hb ?_;intro B1 Blk B0 h6
      replace B2:=ah B2 hb
      replace B3:=ah B3 hb
      replace B8:=ah B8 hb
      replace B9:=ah B9 hb
      clear hb
      try go_wp2_with fail
      refine hK.out _ _ ⟨B2,B3,B8,B9⟩ (fun hH=>?_)
      clear hK K
      try simp only[LY]
      refine dq (i:=8) (j:=9) (by kernel_rfl) rfl rfl (fun K hK=>?_) (fun K hK=>?_)
      ·clear hH
       go_simp
       (with_reducible refine (ud Bt Bz q _ D0 Cz HQ.out).mono ?_)
       rintro e Bj ⟨_,rfl,Bh,hb⟩
       obtain⟨Bs,Bp,Br,Bq,Bm,Bo,Bn,rfl⟩:=Bh.shape
       replace hs:=ar hs hb
       revert h6;revert B0;revert Blk;revert B1;refine mo hb ?_;intro B1 Blk B0 h6
       replace B2:=ah B2 hb
       replace B3:=ah B3 hb
       replace B8:=ah B8 hb
       replace B9:=ah B9 hb
       clear hb
       try go_wp2_with fail
       refine hK.out _ _ ⟨B2,B3,B8,B9⟩ (fun hH=>?_)
       clear hK K
       try simp only[LY]
       clear hH
       refine U_on 9 fun K hK=>?_
       go_simp
       generalize hWn:(Bj.alloc (.cells #[.bool false,.slice none 0 0,.slice none 0 0] 53))=Bd
       have hb:Below Bj.heap.size Bj Bd:=by rw[←hWn];exact (Below.refl _ _).alloc (ag _) _
       have B5:Bx Bd (Bj.heap.size) 53 #[.bool false,.slice none 0 0,.slice none 0 0]:=by rw[←hWn];exact Bx.new _ _ _
       have D9:w.heap.size≠Bj.heap.size:=by have:=B1.lt;omega
       have D8:w.heap.size + 1≠Bj.heap.size:=by have:=Blk.lt;omega
       have Cv:B4≠Bj.heap.size:=by have:=B0.lt;omega
       have Cx:=hs.size
       replace hs:=ar hs hb
       revert Bh B1 Blk B0 h6;refine mo hb ?_;intro Bh B1 Blk B0 h6
       replace B2:=ah B2 hb
       replace B3:=ah B3 hb
       replace B8:=ah B8 hb
       replace B9:=ah B9 hb
       clear hb hWn
       refine hK.out _ _ ⟨B2,B3,B8,B9⟩ (fun hH=>?_)
       clear hK K
       try simp only[LY]
       clear hH
       refine B5.k3fl fun Ch Ci Cj fd Ld=>?_
       refine dr (by kernel_rfl) rfl (by kernel_rfl) (fun K hK=>?_)
       go_simp
       refine hK.out _ _ ?_
       clear hK K
       intro Bw hW
       have hG:Gr [Bj.heap.size] Bd Bw:=by rw[hW];exact (Gr.refl _ _).set.set.set
       have Bl:=hs.size
       have ld:=B5.lt
       have hk:=hG.keep ⟨⟨_,B5.ty,by decide⟩,True.intro⟩
       have C0:Bx Bw (Bj.heap.size) 53 #[.bool Bs,.slice Bp Br Bq,.slice Bm Bo Bn]:=by rw[hW];exact B5.set3
       replace hs:=hs.trans (hG.d1 hs.size)
       replace B1:=hG.b1 B1
       replace Blk:=hG.b1 Blk
       replace B0:=hG.b1 B0
       replace B5:=C0
       clear C0
       revert Bh h6;refine ke hk ?_;intro Bh h6
       clear hW hG hk Bl ld
       try simp only[LY]
       clear B2 B3 B8 B9
       go_wp2_with fail
       go_meet
       exact⟨Bj.heap.size,_,_,_,_,_,_,_,rfl,(by first|exact Cx|omega),(by omega),(by omega),(by omega),B5,hs,B1,Blk,B0,h6,Bh⟩
      clear hH
      go_simp
      generalize hWn:(w24.alloc (.cells #[.bool false,.slice none 0 0,.slice none 0 0] 53))=Bj
      have hb:Below w24.heap.size w24 Bj:=by rw[←hWn];exact (Below.refl _ _).alloc (ag _) _
      have B5:Bx Bj (w24.heap.size) 53 #[.bool false,.slice none 0 0,.slice none 0 0]:=by rw[←hWn];exact Bx.new _ _ _
      have D9:w.heap.size≠w24.heap.size:=by have:=B1.lt;omega
      have D8:w.heap.size + 1≠w24.heap.size:=by have:=Blk.lt;omega
      have Cv:B4≠w24.heap.size:=by have:=B0.lt;omega
      have Cx:=hs.size
      replace hs:=ar hs hb
      revert B1 Blk B0 h6;refine mo hb ?_;intro B1 Blk B0 h6
      replace B2:=ah B2 hb
      replace B3:=ah B3 hb
      replace B8:=ah B8 hb
      replace B9:=ah B9 hb
      clear hb hWn
      refine hK.out _ _ ⟨B2,B3,B8,B9⟩ (fun hH=>?_)
      clear hK K
      try simp only[LY]
      clear hH
      refine U_on 8 fun K hK=>?_
      go_simp
      (with_reducible refine (ud Bt Bz q _ D0 Cz HQ.out).mono ?_)
      rintro e Bd ⟨_,rfl,Bh,hb⟩
      obtain⟨Bs,Bp,Br,Bq,Bm,Bo,Bn,rfl⟩:=Bh.shape
      replace hs:=ar hs hb
      revert h6;revert B0;revert Blk;revert B1;revert B5;refine mo hb ?_;intro B5 B1 Blk B0 h6
      replace B2:=ah B2 hb
      replace B3:=ah B3 hb
      replace B8:=ah B8 hb
      replace B9:=ah B9 hb
      clear hb
      try go_wp2_with fail
      refine hK.out _ _ ⟨B2,B3,B8,B9⟩ (fun hH=>?_)
      clear hK K
      try simp only[LY]
      clear hH
      refine B5.k3fl fun Ch Ci Cj fd Ld=>?_
      refine dr (by kernel_rfl) rfl (by kernel_rfl) (fun K hK=>?_)
      go_simp
      refine hK.out _ _ ?_
      clear hK K
      intro Bw hW
      have hG:Gr [w24.heap.size] Bd Bw:=by rw[hW];exact (Gr.refl _ _).set.set.set
      have Bl:=hs.size
      have ld:=B5.lt
      have hk:=hG.keep ⟨⟨_,B5.ty,by decide⟩,True.intro⟩
      have C0:Bx Bw (w24.heap.size) 53 #[.bool Bs,.slice Bp Br Bq,.slice Bm Bo Bn]:=by rw[hW];exact B5.set3
      replace hs:=hs.trans (hG.d1 hs.size)
      replace B1:=hG.b1 B1
      replace Blk:=hG.b1 Blk
      replace B0:=hG.b1 B0
      replace B5:=C0
      clear C0
      revert Bh h6;refine ke hk ?_;intro Bh h6
      clear hW hG hk Bl ld
      try simp only[LY]
      clear B2 B3 B8 B9
      go_wp2_with fail
      go_meet
      exact⟨w24.heap.size,_,_,_,_,_,_,_,rfl,(by first|exact Cx|omega),(by omega),(by omega),(by omega),B5,hs,B1,Blk,B0,h6,Bh⟩
     clear hH
     go_simp
     generalize hWn:(Ba.alloc (.cells #[.bool false,.slice none 0 0,.slice none 0 0] 53))=w24
     have hb:Below Ba.heap.size Ba w24:=by rw[←hWn];exact (Below.refl _ _).alloc (ag _) _
     have B5:Bx w24 (Ba.heap.size) 53 #[.bool false,.slice none 0 0,.slice none 0 0]:=by rw[←hWn];exact Bx.new _ _ _
     have D9:w.heap.size≠Ba.heap.size:=by have:=B1.lt;omega
     have D8:w.heap.size + 1≠Ba.heap.size:=by have:=Blk.lt;omega
     have Cv:B4≠Ba.heap.size:=by have:=B0.lt;omega
     have Cx:=hs.size
     replace hs:=ar hs hb
     revert B1 Blk B0 h6;refine mo hb ?_;intro B1 Blk B0 h6
     replace B2:=ah B2 hb
     replace B3:=ah B3 hb
     replace B8:=ah B8 hb
     replace B9:=ah B9 hb
     clear hb hWn
     refine hK.out _ _ ⟨B2,B3,B8,B9⟩ (fun hH=>?_)
     clear hK K
     try simp only[LY]
     clear hH
     refine U_on 6 fun K hK=>?_
     go_simp
     (with_reducible refine (dp _ l k ((k:Int)) _ (be.mono IP.kept HL.out hs) (by omega) (by omega) (by omega) (by omega) C1.out).mono ?_)
     rintro e Bj ⟨rfl,hb⟩
     replace hs:=ar hs hb
     revert B5 B1 Blk B0 h6;refine mo hb ?_;intro B5 B1 Blk B0 h6
     replace B2:=ah B2 hb
     replace B3:=ah B3 hb
     replace B8:=ah B8 hb
     replace B9:=ah B9 hb
     clear hb
     try go_wp2_with fail
     refine hK.out _ _ ⟨B2,B3,B8,B9⟩ (fun hH=>?_)
     clear hK K
     try simp only[LY]
     clear hH
     refine U_on 8 fun K hK=>?_
     go_simp
     (with_reducible refine (ud Bt Bz q _ D0 Cz HQ.out).mono ?_)
     rintro e Bd ⟨_,rfl,Bh,hb⟩
     obtain⟨Bs,Bp,Br,Bq,Bm,Bo,Bn,rfl⟩:=Bh.shape
     replace hs:=ar hs hb
     revert h6;revert B0;revert Blk;revert B1;revert B5;refine mo hb ?_;intro B5 B1 Blk B0 h6
     replace B2:=ah B2 hb
     replace B3:=ah B3 hb
     replace B8:=ah B8 hb
     replace B9:=ah B9 hb
     clear hb
     try go_wp2_with fail
     refine hK.out _ _ ⟨B2,B3,B8,B9⟩ (fun hH=>?_)
     clear hK K
     try simp only[LY]
     clear hH
     refine B5.k3fl fun Ch Ci Cj fd Ld=>?_
     refine dr (by kernel_rfl) rfl (by kernel_rfl) (fun K hK=>?_)
     go_simp
     refine hK.out _ _ ?_
     clear hK K
     intro Bw hW
     have hG:Gr [Ba.heap.size] Bd Bw:=by rw[hW];exact (Gr.refl _ _).set.set.set
     have Bl:=hs.size
     have ld:=B5.lt
     have hk:=hG.keep ⟨⟨_,B5.ty,by decide⟩,True.intro⟩
     have C0:Bx Bw (Ba.heap.size) 53 #[.bool Bs,.slice Bp Br Bq,.slice Bm Bo Bn]:=by rw[hW];exact B5.set3
     replace hs:=hs.trans (hG.d1 hs.size)
     replace B1:=hG.b1 B1
     replace Blk:=hG.b1 Blk
     replace B0:=hG.b1 B0
     replace B5:=C0
     clear C0
     revert Bh h6;refine ke hk ?_;intro Bh h6
     clear hW hG hk Bl ld
     try simp only[LY]
     clear B2 B3 B8 B9
     go_wp2_with fail
     go_meet
     exact⟨Ba.heap.size,_,_,_,_,_,_,_,rfl,(by first|exact Cx|omega),(by omega),(by omega),(by omega),B5,hs,B1,Blk,B0,h6,Bh⟩
    case rest=>
     clear hs B8 B9 B1 Blk B0 h6
     obtain⟨gd,Bs,Bp,Br,Bq,Bm,Bo,Bn,rfl,hg_d,ng_d_q,ng_d_k,Da,B5,hs,B1,Blk,B0,h6,Bh⟩:=hcut
     refine B5.k3l fun Ch Ci Cj Ld=>?_
     refine B0.k3l fun Be Bf Bg Bk=>?_
     go_wp2_with fail
     clear Ch Ci Cj Be Bf Bg Ld Bk
     with_reducible refine (rCmp Bh h6 (SzQ.fit (ds_sz D0 Cz HQ.out)) (SzQ.fit (HBS.out k))).mono ?_
     rintro e Ba ⟨rfl,hb⟩
     revert Bh;revert h6;revert B0;revert Blk;revert B1;revert B5;refine mS hs hb ?_;clear hs hb;intro hs B5 B1 Blk B0 h6 Bh
     obtain⟨D1,C9⟩:∃s:Int,s=sgQ ((dsQ Bt Bz q) - (bdQ l q k)):=⟨_,rfl⟩
     rw[←C9]
     replace C9:=ae C9
     by_cases q12:dsQ Bt Bz q < bdQ l q k
     ·have D6:D1 < 0:=by have h:=qg (dsQ Bt Bz q) (bdQ l q k);rw[←C9.out] at h;exact h.2 q12
      have D5:=ae q12
      clear q12
      have q12d:decide (D1 < 0)=true:=decide_eq_true D6
      refine B5.k3l fun Ch Ci Cj Ld=>?_
      refine B0.k3fl fun Be Bf Bg Cd Bk=>?_
      go_upto_region 6 with fail
      clear Ch Ci Cj Be Bf Bg Cd Ld Bk
      refine Code.abs ?_
      intro w24 hW
      have hG:Gr [B4] Ba w24:=by rw[hW];exact (Gr.refl _ _).set.set.set
      have Bl:=hs.size
      have Bu:=B0.lt
      have hk:=hG.keep ⟨⟨_,B0.ty,by decide⟩,True.intro⟩
      have Bb:Bx w24 (B4) 53 #[.bool Bs,.slice Bp Br Bq,.slice Bm Bo Bn]:=by rw[hW];exact B0.set3
      replace hs:=hs.trans (hG.d1 hs.size)
      replace B1:=hG.b1 B1
      replace Blk:=hG.b1 Blk
      replace B5:=hG.b1 B5
      replace B0:=Bb
      clear Bb
      revert h6 Bh;refine ke hk ?_;intro h6 Bh
      clear hW hG hk Bl Bu
      have AX13:IntKind.i64.wrap ((k:Int) + 1)=(k:Int) + 1:=IntWalk.i64_in _ (by omega)
      go_wp2
      go_roundw
      case rel=>exact⟨k + 1,by omega,by omega,by go_num,hs,B1,Blk,⟨_,_,_,_,_,_,_,B0,(Bh.of_eq (show _=bdQ l q (k + 1) from by rw[bd_t D7 (by rw[show ptZ l k=Bt from C3.out.symm,show ptZ l ((k + 1) % l.length)=Bz from C1.out.symm];exact D5.out),show ptZ l k=Bt from C3.out.symm,show ptZ l ((k + 1) % l.length)=Bz from C1.out.symm]))⟩⟩
      all_goals first|(simp[intOf];done)|(simp[intOf];omega)
     have D6:¬ (D1 < 0):=by have h:=qg (dsQ Bt Bz q) (bdQ l q k);rw[←C9.out] at h;exact fun h1=>q12 (h.1 h1)
     have D5:=ae q12
     clear q12
     have q12d:decide (D1 < 0)=false:=decide_eq_false D6
     have AX13:IntKind.i64.wrap ((k:Int) + 1)=(k:Int) + 1:=IntWalk.i64_in _ (by omega)
     go_wp2
     go_roundw
     case rel=>exact⟨k + 1,by omega,by omega,by go_num,hs,B1,Blk,⟨_,_,_,_,_,_,_,B0,(h6.of_eq (show _=bdQ l q (k + 1) from by rw[bd_f D7 (by rw[show ptZ l k=Bt from C3.out.symm,show ptZ l ((k + 1) % l.length)=Bz from C1.out.symm];exact D5.out)]))⟩⟩
     all_goals first|(simp[intOf];done)|(simp[intOf];omega)
   have q7d:((k:Int) < (l.length:Int))=False:=eq_false (by omega)
   refine B0.k3l fun Be Bf Bg Bk=>?_
   refine Blk.k3fl fun C4 C5 C6 fk Lk=>?_
   go_wp2
   clear Be Bf Bg C4 C5 C6 fk Bk Lk
   refine bodyPost.abs ?_
   intro Ba hW
   have hG:Gr [w.heap.size + 1] By Ba:=by rw[hW];exact (Gr.refl _ _).set.set.set
   have Bl:=hs.size
   have lk:=Blk.lt
   have hk:=hG.keep ⟨⟨_,Blk.ty,by decide⟩,True.intro⟩
   have Cr:Bx Ba (w.heap.size + 1) 53 #[.bool Cq,.slice Cn Cp Co,.slice Ck Cm Cl]:=by rw[hW];exact Blk.set3
   replace hs:=hs.trans (hG.d1 hs.size)
   replace B1:=hG.b1 B1
   replace B0:=hG.b1 B0
   replace Blk:=Cr
   clear Cr
   replace h6:=h6.keep hk
   clear hW hG hk Bl lk
   refine Blk.k3 fun C4 C5 C6=>?_
   exact bodyPost_ret (v:=.agg #[.bool Cq,.slice Cn Cp Co,.slice Ck Cm Cl]) (by simp[results,Tryz.results22,go_sem,C4,C5,C6]) rfl ⟨_,rfl,h6.of_eq (show _=diQ l q from by unfold diQ;rw[if_neg (by rw[←Ct.out];omega),show k=l.length from by omega]),hs⟩
end Go.Proofs.YtbnomdlojmgigaaGreat
