/-
  law 02: is; PlaneWhere.
-/
import Derived.Test.YtbnomdlojmgigaaGreatPlWW
import Derived.Test.YtbnomdlojmgigaaGreatPlZW
set_option linter.unusedSimpArgs false
set_option linter.unusedVariables false
set_option maxRecDepth 100000
set_option maxHeartbeats 16000000
namespace Go.Proofs.YtbnomdlojmgigaaGreat
open Go.RowKit Dg
attribute [local go_sem ↓] Go.wp_at_zero Go.wp_at_succ
theorem pTextW {w:World} {v:Value} {x:Rat} {s:ByteArray} (hs:ib (qh x)=.string s) (hx:PV w v x) (fx:Fit x):Calls Tryz.prog 33 #[v] w (fj w (.string s)):=hs ▸ pText hx fx
theorem rTextW {w:World} {v:Value} {x:Rat} {s:ByteArray} (hs:ib (qh x)=.string s) (hx:RV w v x) (fx:Fit x):Calls Tryz.prog 54 #[v] w (RetI w (.string s)):=hs ▸ rText hx fx
theorem l2_is (vx vy:Value) (x:Rat) (w:World) (hx:PV w vx x) (hy:RV w vy x) (fx:Fit x):Calls Tryz.prog 21 #[vx,vy] w (fj w (.bool true)):=by
 obtain⟨gx,ax,nx,cx,Ax,Nx,Cx,rfl⟩:=hx.shape
 obtain⟨gy,ay,ny,cy,Ay,Ny,Cy,rfl⟩:=hy.shape
 obtain⟨s,hss⟩:∃s,ib (qh x)=.string s:=⟨_,rfl⟩
 have hs:=Below.refl w.heap.size w
 go_enter Tryz.func21,Tryz.ntmps21
 go_wp2_with fail
 refine Code.abs ?_
 intro w1 hW
 have hsz:=hs.size
 have Ba:Below w.heap.size w w1:=by rw[hW];exact (Below.alloc (Below.alloc (Below.refl w.heap.size w) (by first|exact hs.size|(have:=hs.size;simp;done)|(have:=hs.size;simp;omega)) _) (by first|exact hs.size|(have:=hs.size;simp;done)|(have:=hs.size;simp;omega)) _)
 have hs1:Below w.heap.size w w1:=hs.trans Ba
 have hk:aw w w1:=by rw[hW];exact (((aw.refl _).alloc _).alloc _)
 have Cb:Bx w1 (w.heap.size) 35 #[.bool gx,.slice ax nx cx,.slice Ax Nx Cx]:=by rw[hW];exact ((Bx.new' _ _ _ _ (by first|rfl|(simp;done))).alloc _)
 have Cc:Bx w1 (w.heap.size + 1) 53 #[.bool gy,.slice ay ny cy,.slice Ay Ny Cy]:=by rw[hW];exact (Bx.new' _ _ _ _ (by first|rfl|(simp;done)))
 replace hs:=hs1
 clear hs1
 have By:=Cb
 clear Cb
 have Bj:=Cc
 clear Cc
 revert hy;revert hx;refine ke hk ?_;intro hx hy
 clear hW hk hsz Ba
 have C7:=Bj.lt
 have hb:=de w1
 revert By Bj hx hy;refine mS hs hb ?_;clear hs hb;intro hs By Bj hx hy
 refine By.k3 fun Bq Br Bs=>?_
 refine Bj.k3 fun Bt Bu Bv=>?_
 go_region_held3 (fun w'=>w'.cell? ⟨w.heap.size,0,none⟩=some (.bool gx)∧w'.cell? ⟨w.heap.size,1,none⟩=some (.slice ax nx cx)∧w'.cell? ⟨w.heap.size,2,none⟩=some (.slice Ax Nx Cx)∧w'.cell? ⟨w.heap.size + 1,0,none⟩=some (.bool gy)∧w'.cell? ⟨w.heap.size + 1,1,none⟩=some (.slice ay ny cy)∧w'.cell? ⟨w.heap.size + 1,2,none⟩=some (.slice Ay Ny Cy))
  (first|exact⟨Bq,Br,Bs,Bt,Bu,Bv⟩|exact⟨dh Bq _,dh Br _,dh Bs _,dh Bt _,dh Bu _,dh Bv _⟩|go_keep)
  (first
   | (go_at_call 33;(with_reducible refine (pTextW hss hx fx).mono ?_);rintro e w2 ⟨rfl,hb⟩;replace hs:=ar hs hb;replace By:=By.mono hb;replace Bj:=Bj.mono hb;replace hx:=hx.mono hb;replace hy:=hy.mono hb;replace Bq:=ah Bq hb;replace Br:=ah Br hb;replace Bs:=ah Bs hb;replace Bt:=ah Bt hb;replace Bu:=ah Bu hb;replace Bv:=ah Bv hb;clear hb)
   | (go_at_call 54;(with_reducible refine (rTextW hss hy fx).mono ?_);rintro e w3 ⟨rfl,hb⟩;replace hs:=ar hs hb;replace By:=By.mono hb;replace Bj:=Bj.mono hb;replace hx:=hx.mono hb;replace hy:=hy.mono hb;replace Bq:=ah Bq hb;replace Br:=ah Br hb;replace Bs:=ah Bs hb;replace Bt:=ah Bt hb;replace Bu:=ah Bu hb;replace Bv:=ah Bv hb;clear hb))
 clear Bq Br Bs Bt Bu Bv
 go_wp2
 go_ret
 exact⟨by simp,hs⟩
theorem r2_ValidC (v:Value) (l:List Pt) (w:World) (hl:Pts w v l):Calls Tryz.prog 15 #[v] w (fj w (.int .i64 (fl l))):=by
 rw[chk_val]
 exact r2_Valid v l w hl
theorem chk_rt {l:List Pt} (h:fl l=0):∀j,j < l.length→rtB (ptZ l j)=true:=by
 unfold fl at h
 split at h
 ·cases h
 split at h
 ·cases h
 split at h
 ·rename_i h3
  exact all_ptZ.2 h3
 cases h
theorem di_szE {l:List Pt} {x:Pt} (hr:∀j,j < l.length→rtB (ptZ l j)=true) (hx:WP 1048576 x):SzQ 10 (diQ l x):=by
 unfold diQ
 split
 ·exact jn.mono (by decide)
 exact bd_sz hr hx _
theorem ds_szE (l:List Pt) (x:Pt):SzQ 10 (dsE l x):=by
 unfold dsE
 split
 ·rename_i h
  unfold weE at h
  split at h
  ·rename_i h1
   split at h
   ·rename_i h2;exact di_szE (chk_rt h1) (jm h2)
   cases h
  rename_i h1;exact absurd h h1
 exact jn.mono (by decide)
theorem l2_PlaneWhere (haw:∀w:World,Calls Tryz.prog 7 #[] w (fj w (.bool true))) (v:Value) (l:List Pt) (x:Pt) (w:World) (hl:Pts w v l):
  Calls Tryz.prog 5 #[v,.agg #[.int .i64 x.1,.int .i64 x.2]] w (fj w (.bool true)):=by
 obtain⟨ao,cap,rfl,hc1,hc2,hc3⟩:=hl.slice
 have hs:=Below.refl w.heap.size w
 have HL:=ae hl
 have C2:=ae haw
 clear hl haw
 go_enter Tryz.func5,Tryz.ntmps5
 by_cases q1:40 < l.length
 ·have q1d:((40:Int) < (l.length:Int))=True:=eq_true (by omega)
  go_wp2_with fail
  refine Calls.abs ?_
  intro w1 hW
  have hG:Gr [] w w1:=by rw[hW];exact (Gr.refl _ _).alloc
  have Ce:=hs.size
  have B0:Bx w1 (w.heap.size) 31 #[.int .i64 x.1,.int .i64 x.2]:=by rw[hW];exact (Bx.new0 _ _ _)
  replace hs:=hs.trans (hG.below0 hs.size)
  clear hW hG
  have C7:=B0.lt
  with_reducible refine (C2.out _).mono ?_
  rintro e w2 ⟨rfl,hb⟩
  revert B0;refine mS hs hb ?_;clear hs hb;intro hs B0
  go_wp2
  go_ret
  exact⟨rfl,hs⟩
 have q1d:((40:Int) < (l.length:Int))=False:=eq_false (by omega)
 go_wp2_with fail
 refine Calls.abs ?_
 intro w1 hW
 have hG:Gr [] w w1:=by rw[hW];exact (Gr.refl _ _).alloc
 have Ce:=hs.size
 have B0:Bx w1 (w.heap.size) 31 #[.int .i64 x.1,.int .i64 x.2]:=by rw[hW];exact (Bx.new0 _ _ _)
 replace hs:=hs.trans (hG.below0 hs.size)
 clear hW hG
 have C7:=B0.lt
 with_reducible refine (r2_ValidC _ l _ (be.mono IP.kept HL.out hs)).mono ?_
 rintro e w2 ⟨rfl,hb⟩
 revert B0;refine mS hs hb ?_;clear hs hb;intro hs B0
 obtain⟨B8,Bg⟩:∃s:Int,s=fl l:=⟨_,rfl⟩
 rw[←Bg]
 replace Bg:=ae Bg
 by_cases q3:B8=0
 ·have q3b:(B8 == 0)=true:=beq_iff_eq.2 (by omega)
  have q3n:(B8 != 0)=false:=bne_eq_false_iff_eq.2 (by omega)
  have Bh:=ae q3
  clear q3
  refine B0.k2l fun B2 B3 Lq=>?_
  go_wp2_with fail
  clear B2 B3 Lq
  with_reducible refine (r2_Right x _).mono ?_
  rintro e w3 ⟨rfl,hb⟩
  revert B0;refine mS hs hb ?_;clear hs hb;intro hs B0
  obtain⟨b4,C3⟩:∃zz:Bool,zz=rtB x:=⟨_,rfl⟩
  rw[←C3]
  replace C3:=ae C3
  by_cases q5:rtB x=true
  ·obtain rfl:b4=true:=by rw[C3.out];exact q5
   have C4:=ae q5
   clear q5
   have Bd:=ae (show weE l x=0 from we_3 (Bg.out.symm.trans Bh.out) C4.out)
   have HK:=ae (kg (Bg.out.symm.trans Bh.out))
   have HX:=ae (jm C4.out)
   have HR:=ae (chk_rt (Bg.out.symm.trans Bh.out))
   have HD:=ae (show dsE l x=diQ l x from if_pos Bd.out)
   have HDQ:=ae (di_szE HR.out HX.out)
   refine B0.k2l fun B2 B3 Lq=>?_
   go_wp2_with fail
   clear B2 B3 Lq
   obtain⟨re,B9⟩:∃z:Int,z=weE l x:=⟨_,rfl⟩
   obtain⟨rn,Be⟩:∃z:Int,z=if weE l x=0 then whZ l x else 0:=⟨_,rfl⟩
   replace B9:=ae B9
   replace Be:=ae Be
   with_reducible refine (je2 _ l x _ (be.mono IP.kept HL.out hs) B9.out Be.out).mono ?_
   rintro e w4 ⟨rfl,hb⟩
   revert B0;refine mS hs hb ?_;clear hs hb;intro hs B0
   refine B0.k2l fun B2 B3 Lq=>?_
   go_wp2_with fail
   clear B2 B3 Lq
   have HDS:=ae (ds_szE l x)
   with_reducible refine (tj _ l x _ (be.mono IP.kept HL.out hs) B9.out).mono ?_
   rintro e w5 ⟨_,_,rfl,h6,rfl,hb⟩
   obtain⟨Bp,Bm,Bo,Bn,Bi,Bl,Bk,rfl⟩:=h6.shape
   revert B0;refine mS hs hb ?_;clear hs hb;intro hs B0
   have q7:re=B8:=(B9.out.trans (Bd.out.trans Bh.out.symm))
   have q7b:(re == B8)=true:=beq_iff_eq.2 (by omega)
   have q7n:(re != B8)=false:=bne_eq_false_iff_eq.2 (by omega)
   have q7H:=ae q7
   clear q7
   have q8:re=B8:=(B9.out.trans (Bd.out.trans Bh.out.symm))
   have q8b:(re == B8)=true:=beq_iff_eq.2 (by omega)
   have q8n:(re != B8)=false:=bne_eq_false_iff_eq.2 (by omega)
   have q8H:=ae q8
   clear q8
   have q9:B8=0:=Bh.out
   have q9b:(B8 == 0)=true:=beq_iff_eq.2 (by omega)
   have q9n:(B8 != 0)=false:=bne_eq_false_iff_eq.2 (by omega)
   have q9H:=ae q9
   clear q9
   have C5:=ae (show rn=whZ l x from Be.out.trans (if_pos Bd.out))
   by_cases hw:0≤whZ l x
   ·have hwH:=ae hw
    have hrn0:0≤rn:=by rw[C5.out];exact hw
    clear hw
    go_upto_region 12 with fail
    refine Code.abs ?_
    intro w6 hW
    have hG:Gr [] w5 w6:=by rw[hW];exact (Gr.refl _ _).alloc
    have Ca:=hs.size
    have C9:=B0.lt
    have B7:Bx w6 (w5.heap.size) 35 #[.bool Bp,.slice Bm Bo Bn,.slice Bi Bl Bk]:=by rw[hW];exact (Bx.new0 _ _ _)
    replace hs:=hs.trans (hG.below0 hs.size)
    revert h6 B0;refine g0 hG ?_;intro h6 B0
    clear hW hG
    have C8:=B7.lt
    obtain⟨Bw,Bc⟩:∃s:Int,s=whZ l x:=⟨_,rfl⟩
    replace Bc:=ae Bc
    have Bz:rn=Bw:=(C5.out.trans Bc.out.symm)
    have q11b:(rn == Bw)=true:=beq_iff_eq.2 (by omega)
    have q11n:(rn != Bw)=false:=bne_eq_false_iff_eq.2 (by omega)
    have Cd:=ae Bz
    clear Bz
    obtain⟨b13,Bf⟩:∃zz:Bool,zz=decide (dsE l x=0):=⟨_,rfl⟩
    replace Bf:=ae Bf
    have C0:dsE l x=0:=(HD.out.trans (if_pos hwH.out))
    obtain rfl:b13=true:=by rw[Bf.out];exact decide_eq_true C0
    have q14H:=ae C0
    clear C0
    have q15:0≤rn:=(by omega)
    have q15d:((0:Int)≤rn)=True:=eq_true (by omega)
    refine bw (S:=fun w'=>w'.cell? ⟨w.heap.size,0,none⟩=some (.int .i64 x.1)∧w'.cell? ⟨w.heap.size,1,none⟩=some (.int .i64 x.2)∧w'.cell? ⟨w5.heap.size,0,none⟩=some (.bool Bp)∧w'.cell? ⟨w5.heap.size,1,none⟩=some (.slice Bm Bo Bn)∧w'.cell? ⟨w5.heap.size,2,none⟩=some (.slice Bi Bl Bk)) (by kernel_rfl) 23 ?_
    refine cq.abs ?_
    intro w7 hW
    have hb:Below w6.heap.size w6 w7:=by rw[hW];exact de _
    replace hs:=ar hs hb
    revert B0;revert h6;revert B7;refine mo hb ?_;intro B7 h6 B0
    clear hb hW
    refine B0.k2 fun B2 B3=>?_
    refine B7.k3 fun B4 B5 B6=>?_
    have hH:=(show w7.cell? ⟨w.heap.size,0,none⟩=some (.int .i64 x.1)∧w7.cell? ⟨w.heap.size,1,none⟩=some (.int .i64 x.2)∧w7.cell? ⟨w5.heap.size,0,none⟩=some (.bool Bp)∧w7.cell? ⟨w5.heap.size,1,none⟩=some (.slice Bm Bo Bn)∧w7.cell? ⟨w5.heap.size,2,none⟩=some (.slice Bi Bl Bk) from ⟨B2,B3,B4,B5,B6⟩)
    refine U_tq 0 54 hH ?_
    refine U_tq 1 55 hH ?_
    refine U_tq 2 56 hH ?_
    clear hH
    refine U_on 3 fun K hK=>?_
    go_simp
    (with_reducible refine (je5 _ l x _ (be.mono IP.kept HL.out hs) (by have:=HK.out.2.1;omega) HK.out.1 HR.out HX.out).mono ?_)
    rintro e w8 ⟨rfl,hb⟩
    replace hs:=ar hs hb
    revert B7 h6 B0;refine mo hb ?_;intro B7 h6 B0
    replace B2:=ah B2 hb
    replace B3:=ah B3 hb
    replace B4:=ah B4 hb
    replace B5:=ah B5 hb
    replace B6:=ah B6 hb
    clear hb
    rw[←Bc.out]
    try go_wp2_with fail
    refine hK.out _ _ ⟨B2,B3,B4,B5,B6⟩ (fun hH=>?_)
    clear hK K
    try simp only[LY]
    refine U_tq 4 58 hH ?_
    refine U_tq 5 59 hH ?_
    refine U_tq 6 60 hH ?_
    refine U_tq 7 61 hH ?_
    refine U_tq 8 62 hH ?_
    clear hH
    refine U_on 9 fun K hK=>?_
    go_simp
    (with_reducible refine (zk _ l x _ (be.mono IP.kept HL.out hs) (by have:=HK.out.2.1;omega) HK.out.1 HR.out HX.out).mono ?_)
    rintro e w9 ⟨_,rfl,Bb,hb⟩
    obtain⟨sh12,ah12,nh12,ch12,Ah12,Nh12,Ch12,rfl⟩:=Bb.shape
    replace hs:=ar hs hb
    revert B0;revert h6;revert B7;refine mo hb ?_;intro B7 h6 B0
    replace B2:=ah B2 hb
    replace B3:=ah B3 hb
    replace B4:=ah B4 hb
    replace B5:=ah B5 hb
    replace B6:=ah B6 hb
    clear hb
    try go_wp2_with fail
    refine hK.out _ _ ⟨B2,B3,B4,B5,B6⟩ (fun hH=>?_)
    clear hK K
    try simp only[LY]
    clear hH
    refine U_on 10 fun K hK=>?_
    go_simp
    (with_reducible refine (l2_is _ _ (diQ l x) _ (h6.of_eq HD.out) Bb (SzQ.fit HDQ.out)).mono ?_)
    rintro e w10 ⟨rfl,hb⟩
    replace hs:=ar hs hb
    revert Bb B7 h6 B0;refine mo hb ?_;intro Bb B7 h6 B0
    replace B2:=ah B2 hb
    replace B3:=ah B3 hb
    replace B4:=ah B4 hb
    replace B5:=ah B5 hb
    replace B6:=ah B6 hb
    clear hb
    try go_wp2_with fail
    refine hK.out _ _ ⟨B2,B3,B4,B5,B6⟩ (fun hH=>?_)
    clear hK K
    try simp only[LY]
    refine U_tq 11 65 hH ?_
    refine U_tq 12 66 hH ?_
    refine U_tq 13 67 hH ?_
    refine U_tq 15 69 hH ?_
    refine U_tq 16 70 hH ?_
    clear hH
    refine U_on 14 fun K hK=>?_
    go_simp
    (with_reducible refine (iq _ _ _ h6).mono ?_)
    rintro e w11 ⟨rfl,hb⟩
    replace hs:=ar hs hb
    revert Bb B7 h6 B0;refine mo hb ?_;intro Bb B7 h6 B0
    replace B2:=ah B2 hb
    replace B3:=ah B3 hb
    replace B4:=ah B4 hb
    replace B5:=ah B5 hb
    replace B6:=ah B6 hb
    clear hb
    rw[←Bf.out]
    try go_wp2_with fail
    refine hK.out _ _ ⟨B2,B3,B4,B5,B6⟩ (fun hH=>?_)
    clear hK K
    try simp only[LY]
    refine U_tq 17 71 hH ?_
    refine U_tq 18 72 hH ?_
    refine U_tq 19 73 hH ?_
    clear hH
    refine U_on 20 fun K hK=>?_
    go_simp
    (with_reducible refine (C2.out _).mono ?_)
    rintro e w12 ⟨rfl,hb⟩
    replace hs:=ar hs hb
    revert Bb B7 h6 B0;refine mo hb ?_;intro Bb B7 h6 B0
    replace B2:=ah B2 hb
    replace B3:=ah B3 hb
    replace B4:=ah B4 hb
    replace B5:=ah B5 hb
    replace B6:=ah B6 hb
    clear hb
    try go_wp2_with fail
    refine hK.out _ _ ⟨B2,B3,B4,B5,B6⟩ (fun hH=>?_)
    clear hK K
    try simp only[LY]
    refine U_tq 21 75 hH ?_
    refine U_tq 22 4 hH ?_
    clear hH
    refine im (by kernel_rfl) ?_
    clear B2 B3 B4 B5 B6
    go_wp2
    go_ret
    exact⟨rfl,hs⟩
   have hwH:=ae hw
   have hrn0:¬ 0≤rn:=by rw[C5.out];exact hw
   clear hw
   go_upto_region 12 with fail
   refine Code.abs ?_
   intro w6 hW
   have hG:Gr [] w5 w6:=by rw[hW];exact (Gr.refl _ _).alloc
   have Ca:=hs.size
   have C9:=B0.lt
   have B7:Bx w6 (w5.heap.size) 35 #[.bool Bp,.slice Bm Bo Bn,.slice Bi Bl Bk]:=by rw[hW];exact (Bx.new0 _ _ _)
   replace hs:=hs.trans (hG.below0 hs.size)
   revert h6 B0;refine g0 hG ?_;intro h6 B0
   clear hW hG
   have C8:=B7.lt
   obtain⟨Bw,Bc⟩:∃s:Int,s=whZ l x:=⟨_,rfl⟩
   replace Bc:=ae Bc
   have Bz:rn=Bw:=(C5.out.trans Bc.out.symm)
   have q11b:(rn == Bw)=true:=beq_iff_eq.2 (by omega)
   have q11n:(rn != Bw)=false:=bne_eq_false_iff_eq.2 (by omega)
   have Cd:=ae Bz
   clear Bz
   obtain⟨b13,Bf⟩:∃zz:Bool,zz=decide (dsE l x=0):=⟨_,rfl⟩
   replace Bf:=ae Bf
   have C0:¬ (dsE l x=0):=(fun h=>absurd ((di_zero (by have:=HK.out.2.1;omega)).1 (HD.out.symm.trans h)) (by have:=hwH.out;omega))
   obtain rfl:b13=false:=by rw[Bf.out];exact decide_eq_false C0
   have q14H:=ae C0
   clear C0
   have q15:¬ (0≤rn):=(by omega)
   have q15d:((0:Int)≤rn)=False:=eq_false (by omega)
   refine bw (S:=fun w'=>w'.cell? ⟨w.heap.size,0,none⟩=some (.int .i64 x.1)∧w'.cell? ⟨w.heap.size,1,none⟩=some (.int .i64 x.2)∧w'.cell? ⟨w5.heap.size,0,none⟩=some (.bool Bp)∧w'.cell? ⟨w5.heap.size,1,none⟩=some (.slice Bm Bo Bn)∧w'.cell? ⟨w5.heap.size,2,none⟩=some (.slice Bi Bl Bk)) (by kernel_rfl) 23 ?_
   refine cq.abs ?_
   intro w7 hW
   have hb:Below w6.heap.size w6 w7:=by rw[hW];exact de _
   replace hs:=ar hs hb
   revert B0;revert h6;revert B7;refine mo hb ?_;intro B7 h6 B0
   clear hb hW
   refine B0.k2 fun B2 B3=>?_
   refine B7.k3 fun B4 B5 B6=>?_
   have hH:=(show w7.cell? ⟨w.heap.size,0,none⟩=some (.int .i64 x.1)∧w7.cell? ⟨w.heap.size,1,none⟩=some (.int .i64 x.2)∧w7.cell? ⟨w5.heap.size,0,none⟩=some (.bool Bp)∧w7.cell? ⟨w5.heap.size,1,none⟩=some (.slice Bm Bo Bn)∧w7.cell? ⟨w5.heap.size,2,none⟩=some (.slice Bi Bl Bk) from ⟨B2,B3,B4,B5,B6⟩)
   refine U_tq 0 54 hH ?_
   refine U_tq 1 55 hH ?_
   refine U_tq 2 56 hH ?_
   clear hH
   refine U_on 3 fun K hK=>?_
   go_simp
   (with_reducible refine (je5 _ l x _ (be.mono IP.kept HL.out hs) (by have:=HK.out.2.1;omega) HK.out.1 HR.out HX.out).mono ?_)
   rintro e w8 ⟨rfl,hb⟩
   replace hs:=ar hs hb
   revert B7 h6 B0;refine mo hb ?_;intro B7 h6 B0
   replace B2:=ah B2 hb
   replace B3:=ah B3 hb
   replace B4:=ah B4 hb
   replace B5:=ah B5 hb
   replace B6:=ah B6 hb
   clear hb
   rw[←Bc.out]
   try go_wp2_with fail
   refine hK.out _ _ ⟨B2,B3,B4,B5,B6⟩ (fun hH=>?_)
   clear hK K
   try simp only[LY]
   refine U_tq 4 58 hH ?_
   refine U_tq 5 59 hH ?_
   refine U_tq 6 60 hH ?_
   refine U_tq 7 61 hH ?_
   refine U_tq 8 62 hH ?_
   clear hH
   refine U_on 9 fun K hK=>?_
   go_simp
   (with_reducible refine (zk _ l x _ (be.mono IP.kept HL.out hs) (by have:=HK.out.2.1;omega) HK.out.1 HR.out HX.out).mono ?_)
   rintro e w9 ⟨_,rfl,Bb,hb⟩
   obtain⟨sh12,ah12,nh12,ch12,Ah12,Nh12,Ch12,rfl⟩:=Bb.shape
   replace hs:=ar hs hb
   revert B0;revert h6;revert B7;refine mo hb ?_;intro B7 h6 B0
   replace B2:=ah B2 hb
   replace B3:=ah B3 hb
   replace B4:=ah B4 hb
   replace B5:=ah B5 hb
   replace B6:=ah B6 hb
   clear hb
   try go_wp2_with fail
   refine hK.out _ _ ⟨B2,B3,B4,B5,B6⟩ (fun hH=>?_)
   clear hK K
   try simp only[LY]
   clear hH
   refine U_on 10 fun K hK=>?_
   go_simp
   (with_reducible refine (l2_is _ _ (diQ l x) _ (h6.of_eq HD.out) Bb (SzQ.fit HDQ.out)).mono ?_)
   rintro e w10 ⟨rfl,hb⟩
   replace hs:=ar hs hb
   revert Bb B7 h6 B0;refine mo hb ?_;intro Bb B7 h6 B0
   replace B2:=ah B2 hb
   replace B3:=ah B3 hb
   replace B4:=ah B4 hb
   replace B5:=ah B5 hb
   replace B6:=ah B6 hb
   clear hb
   try go_wp2_with fail
   refine hK.out _ _ ⟨B2,B3,B4,B5,B6⟩ (fun hH=>?_)
   clear hK K
   try simp only[LY]
   refine U_tq 11 65 hH ?_
   refine U_tq 12 66 hH ?_
   refine U_tq 13 67 hH ?_
   refine U_tq 15 69 hH ?_
   refine U_tq 16 70 hH ?_
   clear hH
   refine U_on 14 fun K hK=>?_
   go_simp
   (with_reducible refine (iq _ _ _ h6).mono ?_)
   rintro e w11 ⟨rfl,hb⟩
   replace hs:=ar hs hb
   revert Bb B7 h6 B0;refine mo hb ?_;intro Bb B7 h6 B0
   replace B2:=ah B2 hb
   replace B3:=ah B3 hb
   replace B4:=ah B4 hb
   replace B5:=ah B5 hb
   replace B6:=ah B6 hb
   clear hb
   rw[←Bf.out]
   try go_wp2_with fail
   refine hK.out _ _ ⟨B2,B3,B4,B5,B6⟩ (fun hH=>?_)
   clear hK K
   try simp only[LY]
   refine U_tq 17 71 hH ?_
   refine U_tq 18 72 hH ?_
   refine U_tq 19 73 hH ?_
   clear hH
   refine U_on 20 fun K hK=>?_
   go_simp
   (with_reducible refine (C2.out _).mono ?_)
   rintro e w12 ⟨rfl,hb⟩
   replace hs:=ar hs hb
   revert Bb B7 h6 B0;refine mo hb ?_;intro Bb B7 h6 B0
   replace B2:=ah B2 hb
   replace B3:=ah B3 hb
   replace B4:=ah B4 hb
   replace B5:=ah B5 hb
   replace B6:=ah B6 hb
   clear hb
   try go_wp2_with fail
   refine hK.out _ _ ⟨B2,B3,B4,B5,B6⟩ (fun hH=>?_)
   clear hK K
   try simp only[LY]
   refine U_tq 21 75 hH ?_
   refine U_tq 22 4 hH ?_
   clear hH
   refine im (by kernel_rfl) ?_
   clear B2 B3 B4 B5 B6
   go_wp2
   go_ret
   exact⟨rfl,hs⟩
  obtain rfl:b4=false:=by rw[C3.out];simpa using q5
  have C4:=ae q5
  clear q5
  have Bd:=ae (show weE l x=1 from we_2 (Bg.out.symm.trans Bh.out) (Bool.eq_false_iff.2 C4.out))
  refine B0.k2l fun B2 B3 Lq=>?_
  go_wp2_with fail
  clear B2 B3 Lq
  obtain⟨re,B9⟩:∃z:Int,z=weE l x:=⟨_,rfl⟩
  obtain⟨rn,Be⟩:∃z:Int,z=if weE l x=0 then whZ l x else 0:=⟨_,rfl⟩
  replace B9:=ae B9
  replace Be:=ae Be
  with_reducible refine (je2 _ l x _ (be.mono IP.kept HL.out hs) B9.out Be.out).mono ?_
  rintro e w4 ⟨rfl,hb⟩
  revert B0;refine mS hs hb ?_;clear hs hb;intro hs B0
  refine B0.k2l fun B2 B3 Lq=>?_
  go_wp2_with fail
  clear B2 B3 Lq
  have HDS:=ae (ds_szE l x)
  with_reducible refine (tj _ l x _ (be.mono IP.kept HL.out hs) B9.out).mono ?_
  rintro e w5 ⟨_,_,rfl,h6,rfl,hb⟩
  obtain⟨Bp,Bm,Bo,Bn,Bi,Bl,Bk,rfl⟩:=h6.shape
  revert B0;refine mS hs hb ?_;clear hs hb;intro hs B0
  have q7:re=1:=(B9.out.trans Bd.out)
  have q7b:(re == 1)=true:=beq_iff_eq.2 (by omega)
  have q7n:(re != 1)=false:=bne_eq_false_iff_eq.2 (by omega)
  have q7H:=ae q7
  clear q7
  have q8:re=1:=(B9.out.trans Bd.out)
  have q8b:(re == 1)=true:=beq_iff_eq.2 (by omega)
  have q8n:(re != 1)=false:=bne_eq_false_iff_eq.2 (by omega)
  have q8H:=ae q8
  clear q8
  have q9:rn=0:=(Be.out.trans (if_neg (by rw[Bd.out];decide)))
  have q9b:(rn == 0)=true:=beq_iff_eq.2 (by omega)
  have q9n:(rn != 0)=false:=bne_eq_false_iff_eq.2 (by omega)
  have q9H:=ae q9
  clear q9
  go_wp2_with fail
  refine Calls.abs ?_
  intro w6 hW
  have hG:Gr [] w5 w6:=by rw[hW];exact (Gr.refl _ _).alloc
  have Ca:=hs.size
  have C9:=B0.lt
  have B7:Bx w6 (w5.heap.size) 35 #[.bool Bp,.slice Bm Bo Bn,.slice Bi Bl Bk]:=by rw[hW];exact (Bx.new0 _ _ _)
  replace hs:=hs.trans (hG.below0 hs.size)
  revert h6 B0;refine g0 hG ?_;intro h6 B0
  clear hW hG
  have C8:=B7.lt
  with_reducible refine (iq _ _ _ h6).mono ?_
  rintro e w7 ⟨rfl,hb⟩
  revert B7 h6 B0;refine mS hs hb ?_;clear hs hb;intro hs B7 h6 B0
  obtain⟨b10,C1⟩:∃zz:Bool,zz=decide (dsE l x=0):=⟨_,rfl⟩
  rw[←C1]
  replace C1:=ae C1
  have Bz:dsE l x=0:=(if_neg (by rw[Bd.out];decide))
  obtain rfl:b10=true:=by rw[C1.out];exact decide_eq_true Bz
  have Cd:=ae Bz
  clear Bz
  go_wp2_with fail
  with_reducible refine (C2.out _).mono ?_
  rintro e w8 ⟨rfl,hb⟩
  revert B0;revert h6;revert B7;refine mS hs hb ?_;clear hs hb;intro hs B7 h6 B0
  go_wp2
  go_ret
  exact⟨rfl,hs⟩
 have q3b:(B8 == 0)=false:=beq_eq_false_iff_ne.2 (by omega)
 have q3n:(B8 != 0)=true:=bne_iff_ne.2 (by omega)
 have Bh:=ae q3
 clear q3
 have Bd:=ae (show weE l x=B8 from (we_1 (fun h=>absurd (Bg.out.trans h) Bh.out)).trans Bg.out.symm)
 refine B0.k2l fun B2 B3 Lq=>?_
 go_wp2_with fail
 clear B2 B3 Lq
 obtain⟨re,B9⟩:∃z:Int,z=weE l x:=⟨_,rfl⟩
 obtain⟨rn,Be⟩:∃z:Int,z=if weE l x=0 then whZ l x else 0:=⟨_,rfl⟩
 replace B9:=ae B9
 replace Be:=ae Be
 with_reducible refine (je2 _ l x _ (be.mono IP.kept HL.out hs) B9.out Be.out).mono ?_
 rintro e w3 ⟨rfl,hb⟩
 revert B0;refine mS hs hb ?_;clear hs hb;intro hs B0
 refine B0.k2l fun B2 B3 Lq=>?_
 go_wp2_with fail
 clear B2 B3 Lq
 have HDS:=ae (ds_szE l x)
 with_reducible refine (tj _ l x _ (be.mono IP.kept HL.out hs) B9.out).mono ?_
 rintro e w4 ⟨_,_,rfl,h4,rfl,hb⟩
 obtain⟨sh4,ah4,nh4,ch4,Ah4,Nh4,Ch4,rfl⟩:=h4.shape
 revert B0;refine mS hs hb ?_;clear hs hb;intro hs B0
 have q5:re=B8:=(B9.out.trans Bd.out)
 have q5b:(re == B8)=true:=beq_iff_eq.2 (by omega)
 have q5n:(re != B8)=false:=bne_eq_false_iff_eq.2 (by omega)
 have C4:=ae q5
 clear q5
 have q6:re=B8:=(B9.out.trans Bd.out)
 have q6b:(re == B8)=true:=beq_iff_eq.2 (by omega)
 have q6n:(re != B8)=false:=bne_eq_false_iff_eq.2 (by omega)
 have q6H:=ae q6
 clear q6
 have q7:¬ (B8=0):=Bh.out
 have q7b:(B8 == 0)=false:=beq_eq_false_iff_ne.2 (by omega)
 have q7n:(B8 != 0)=true:=bne_iff_ne.2 (by omega)
 have q7H:=ae q7
 clear q7
 have q8:rn=0:=(Be.out.trans (if_neg (by rw[Bd.out];exact Bh.out)))
 have q8b:(rn == 0)=true:=beq_iff_eq.2 (by omega)
 have q8n:(rn != 0)=false:=bne_eq_false_iff_eq.2 (by omega)
 have q8H:=ae q8
 clear q8
 go_wp2_with fail
 refine Calls.abs ?_
 intro w5 hW
 have hG:Gr [] w4 w5:=by rw[hW];exact (Gr.refl _ _).alloc
 have sz_w5:=hs.size
 have nq_w5:=B0.lt
 have B7:Bx w5 (w4.heap.size) 35 #[.bool sh4,.slice ah4 nh4 ch4,.slice Ah4 Nh4 Ch4]:=by rw[hW];exact (Bx.new0 _ _ _)
 replace hs:=hs.trans (hG.below0 hs.size)
 revert h4 B0;refine g0 hG ?_;intro h4 B0
 clear hW hG
 have hz_w5:=B7.lt
 with_reducible refine (iq _ _ _ h4).mono ?_
 rintro e w6 ⟨rfl,hb⟩
 revert B7 h4 B0;refine mS hs hb ?_;clear hs hb;intro hs B7 h4 B0
 obtain⟨b9,C6⟩:∃zz:Bool,zz=decide (dsE l x=0):=⟨_,rfl⟩
 rw[←C6]
 replace C6:=ae C6
 have q10:dsE l x=0:=(if_neg (by rw[Bd.out];exact Bh.out))
 obtain rfl:b9=true:=by rw[C6.out];exact decide_eq_true q10
 have q10H:=ae q10
 clear q10
 go_wp2_with fail
 with_reducible refine (C2.out _).mono ?_
 rintro e w7 ⟨rfl,hb⟩
 revert B0;revert h4;revert B7;refine mS hs hb ?_;clear hs hb;intro hs B7 h4 B0
 go_wp2
 go_ret
 exact⟨rfl,hs⟩
end Go.Proofs.YtbnomdlojmgigaaGreat
