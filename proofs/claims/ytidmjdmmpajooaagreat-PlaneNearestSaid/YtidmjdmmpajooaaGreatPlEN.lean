/-
  plane: an edge's height at a place; where two edges cross.
-/
import Derived.Test.YtidmjdmmpajooaaGreatPkV17N
import Derived.Test.YtidmjdmmpajooaaGreatPkV2N
set_option linter.unusedSimpArgs false
set_option linter.unusedVariables false
set_option maxRecDepth 100000
set_option maxHeartbeats 16000000
namespace Go.Proofs.YtidmjdmmpajooaaGreat
open Go.RowKit Dg
attribute [local go_sem ↓] Go.wp_at_zero Go.wp_at_succ
def inE (e:Edg) (x:Rat):Bool:=!decide (x < (loE e:Rat)) && !decide ((hiE e:Rat) < x)
theorem cr_in (e f:Edg):crB e f=(!decide (crZ (mnZ e.2 e.1) (mnZ f.2 f.1)=0) && (inE e (crX e f) && inE f (crX e f))):=by
 unfold crB inE
 simp only[Bool.and_assoc]
theorem ed_at (a b:Pt) (vx:Value) (x:Rat) (w:World) (hx:PV w vx x) (sx:SzQ 1000 x) (ha:WP 268435456 a) (hb:WP 268435456 b) (hne:¬ a.1=b.1):
  Calls Tryz.prog 127 #[.agg #[.int .i64 a.1,.int .i64 a.2,.int .i64 b.1,.int .i64 b.2],vx] w (mp w (atE (a,b) x)):=by
 have hs:=Below.refl w.heap.size w
 obtain⟨E4,E1,E3,E2,Dx,E0,Dy,rfl⟩:=hx.shape
 go_enter Tryz.func127,Tryz.ntmps127
 go_wp2_with fail
 refine Calls.abs ?_
 intro w1 hW
 have hG:Gr [] w w1:=by rw[hW];exact (Gr.refl _ _).alloc.alloc.alloc
 have hk:=hG.keep True.intro
 have Ei:=hs.size
 have B1:Bx w1 (w.heap.size) 69 #[.int .i64 a.1,.int .i64 a.2,.int .i64 b.1,.int .i64 b.2]:=by rw[hW];exact (((Bx.new0 _ _ _).alloc _).alloc _)
 have B4:Bx w1 (w.heap.size + 1) 37 #[.bool E4,.slice E1 E3 E2,.slice Dx E0 Dy]:=by rw[hW];exact ((Bx.new0 _ _ _).alloc _)
 have Blk:Bx w1 (w.heap.size + 1 + 1) 37 #[.bool false,.slice none 0 0,.slice none 0 0]:=by rw[hW];exact (Bx.new0 _ _ _)
 replace hs:=hs.trans (hG.below0 hs.size)
 replace hx:=hx.keep hk
 clear hW hG hk
 have Eh:=Blk.lt
 with_reducible refine (di b.1 b.2 a.1 a.2 _ (Wn.wsub hb.1 ha.1 (by decide)) (Wn.wsub hb.2 ha.2 (by decide))).mono ?_
 rintro e w2 ⟨rfl,hb⟩
 revert B1 B4 Blk hx;refine mS hs hb ?_;clear hs hb;intro hs B1 B4 Blk hx
 go_upto_region 2 with fail
 refine Code.abs ?_
 intro w3 hW
 have hG:Gr [] w2 w3:=by rw[hW];exact (Gr.refl _ _).alloc
 have sz_w3:=hs.size
 have ne_w3:=B1.lt
 have nx_w3:=B4.lt
 have nk_w3:=Blk.lt
 have Cc:Bx w3 (w2.heap.size) 24 #[.int .i64 (b.1 - a.1),.int .i64 (b.2 - a.2)]:=by rw[hW];exact (Bx.new0 _ _ _)
 replace hs:=hs.trans (hG.below0 hs.size)
 revert B1 B4 Blk hx;refine g0 hG ?_;intro B1 B4 Blk hx
 clear hW hG
 have hz_w3:=Cc.lt
 refine bw (S:=fun w'=>w'.cell? ⟨w.heap.size,0,none⟩=some (.int .i64 a.1)∧w'.cell? ⟨w.heap.size,1,none⟩=some (.int .i64 a.2)∧w'.cell? ⟨w.heap.size,2,none⟩=some (.int .i64 b.1)∧w'.cell? ⟨w.heap.size,3,none⟩=some (.int .i64 b.2)∧w'.cell? ⟨w.heap.size + 1,0,none⟩=some (.bool E4)∧w'.cell? ⟨w.heap.size + 1,1,none⟩=some (.slice E1 E3 E2)∧w'.cell? ⟨w.heap.size + 1,2,none⟩=some (.slice Dx E0 Dy)∧w'.cell? ⟨w2.heap.size,0,none⟩=some (.int .i64 (b.1 - a.1))∧w'.cell? ⟨w2.heap.size,1,none⟩=some (.int .i64 (b.2 - a.2))) (by kernel_rfl) 17 ?_
 refine cq.abs ?_
 intro w4 hW
 have hb:Below w3.heap.size w3 w4:=by rw[hW];exact de _
 replace hs:=ar hs hb
 revert Cc B1 B4 Blk hx;refine mo hb ?_;intro Cc B1 B4 Blk hx
 clear hb hW
 refine B1.k4 fun Bt Bu Bv Bw=>?_
 refine B4.k3 fun B7 B8 B9=>?_
 refine Cc.k2 fun C0 C1=>?_
 have hH:=(show w4.cell? ⟨w.heap.size,0,none⟩=some (.int .i64 a.1)∧w4.cell? ⟨w.heap.size,1,none⟩=some (.int .i64 a.2)∧w4.cell? ⟨w.heap.size,2,none⟩=some (.int .i64 b.1)∧w4.cell? ⟨w.heap.size,3,none⟩=some (.int .i64 b.2)∧w4.cell? ⟨w.heap.size + 1,0,none⟩=some (.bool E4)∧w4.cell? ⟨w.heap.size + 1,1,none⟩=some (.slice E1 E3 E2)∧w4.cell? ⟨w.heap.size + 1,2,none⟩=some (.slice Dx E0 Dy)∧w4.cell? ⟨w2.heap.size,0,none⟩=some (.int .i64 (b.1 - a.1))∧w4.cell? ⟨w2.heap.size,1,none⟩=some (.int .i64 (b.2 - a.2)) from ⟨Bt,Bu,Bv,Bw,B7,B8,B9,C0,C1⟩)
 refine cz 0 ?_ ?_ hH ?_
 rotate_left
 ·(intro w B6;(try dsimp only at B6);go_simp;try with_reducible rfl)
 try simp only[LY]
 refine cz 1 ?_ ?_ hH ?_
 rotate_left
 ·(intro w B6;(try dsimp only at B6);go_simp;try with_reducible rfl)
 try simp only[LY]
 refine cz 2 ?_ ?_ hH ?_
 rotate_left
 ·(intro w B6;(try dsimp only at B6);go_simp;try with_reducible rfl)
 try simp only[LY]
 refine cz 4 ?_ ?_ hH ?_
 rotate_left
 ·(intro w B6;(try dsimp only at B6);go_simp;try with_reducible rfl)
 try simp only[LY]
 refine cz 5 ?_ ?_ hH ?_
 rotate_left
 ·(intro w B6;(try dsimp only at B6);go_simp;try with_reducible rfl)
 try simp only[LY]
 refine cz 6 ?_ ?_ hH ?_
 rotate_left
 ·(intro w B6;(try dsimp only at B6);go_simp;try with_reducible rfl)
 try simp only[LY]
 refine cz 7 ?_ ?_ hH ?_
 rotate_left
 ·(intro w B6;(try dsimp only at B6);go_simp;try with_reducible rfl)
 try simp only[LY]
 refine cz 10 ?_ ?_ hH ?_
 rotate_left
 ·(intro w B6;(try dsimp only at B6);go_simp;try with_reducible rfl)
 try simp only[LY]
 refine cz 11 ?_ ?_ hH ?_
 rotate_left
 ·(intro w B6;(try dsimp only at B6);go_simp;try with_reducible rfl)
 try simp only[LY]
 refine cz 12 ?_ ?_ hH ?_
 rotate_left
 ·(intro w B6;(try dsimp only at B6);go_simp;try with_reducible rfl)
 try simp only[LY]
 refine cz 13 ?_ ?_ hH ?_
 rotate_left
 ·(intro w B6;(try dsimp only at B6);go_simp;try with_reducible rfl)
 try simp only[LY]
 clear hH
 refine U_on 3 fun K hK=>?_
 go_simp
 (with_reducible refine (fh a.2 _ (ha.2.mono (by decide))).mono ?_)
 rintro e w5 ⟨_,rfl,h1,hb⟩
 obtain⟨sh1,ah1,nh1,ch1,Ah1,Nh1,Ch1,rfl⟩:=h1.shape
 replace hs:=ar hs hb
 revert hx;revert Blk;revert B4;revert B1;revert Cc;refine mo hb ?_;intro Cc B1 B4 Blk hx
 replace Bt:=ah Bt hb
 replace Bu:=ah Bu hb
 replace Bv:=ah Bv hb
 replace Bw:=ah Bw hb
 replace B7:=ah B7 hb
 replace B8:=ah B8 hb
 replace B9:=ah B9 hb
 replace C0:=ah C0 hb
 replace C1:=ah C1 hb
 clear hb
 try go_wp2_with fail
 refine hK.out _ _ ⟨Bt,Bu,Bv,Bw,B7,B8,B9,C0,C1⟩ (fun hH=>?_)
 clear hK K
 try simp only[LY]
 clear hH
 refine U_on 8 fun K hK=>?_
 go_simp
 (with_reducible refine (fh a.1 _ (ha.1.mono (by decide))).mono ?_)
 rintro e w6 ⟨_,rfl,h2,hb⟩
 obtain⟨sh2,ah2,nh2,ch2,Ah2,Nh2,Ch2,rfl⟩:=h2.shape
 replace hs:=ar hs hb
 revert hx;revert Blk;revert B4;revert B1;revert Cc;revert h1;refine mo hb ?_;intro h1 Cc B1 B4 Blk hx
 replace Bt:=ah Bt hb
 replace Bu:=ah Bu hb
 replace Bv:=ah Bv hb
 replace Bw:=ah Bw hb
 replace B7:=ah B7 hb
 replace B8:=ah B8 hb
 replace B9:=ah B9 hb
 replace C0:=ah C0 hb
 replace C1:=ah C1 hb
 clear hb
 try go_wp2_with fail
 refine hK.out _ _ ⟨Bt,Bu,Bv,Bw,B7,B8,B9,C0,C1⟩ (fun hH=>?_)
 clear hK K
 try simp only[LY]
 clear hH
 refine U_on 9 fun K hK=>?_
 go_simp
 (with_reducible refine (pSub hx h2 (SzQ.fit sx) (SzQ.fit (szN (ha.1.mono (by decide))))).mono ?_)
 rintro e w7 ⟨_,rfl,h3,hb⟩
 obtain⟨sh3,ah3,nh3,ch3,Ah3,Nh3,Ch3,rfl⟩:=h3.shape
 replace hs:=ar hs hb
 revert hx;revert Blk;revert B4;revert B1;revert Cc;revert h1;revert h2;refine mo hb ?_;intro h2 h1 Cc B1 B4 Blk hx
 replace Bt:=ah Bt hb
 replace Bu:=ah Bu hb
 replace Bv:=ah Bv hb
 replace Bw:=ah Bw hb
 replace B7:=ah B7 hb
 replace B8:=ah B8 hb
 replace B9:=ah B9 hb
 replace C0:=ah C0 hb
 replace C1:=ah C1 hb
 clear hb
 try go_wp2_with fail
 refine hK.out _ _ ⟨Bt,Bu,Bv,Bw,B7,B8,B9,C0,C1⟩ (fun hH=>?_)
 clear hK K
 try simp only[LY]
 clear hH
 refine U_on 14 fun K hK=>?_
 go_simp
 (with_reducible refine (ja9 (b.2 - a.2) (b.1 - a.1) _ ((Wn.sub hb.2 ha.2).mono (by decide)) ((Wn.sub hb.1 ha.1).mono (by decide)) (by omega)).mono ?_)
 rintro e w8 ⟨_,rfl,h4,hb⟩
 obtain⟨sh4,ah4,nh4,ch4,Ah4,Nh4,Ch4,rfl⟩:=h4.shape
 replace hs:=ar hs hb
 revert hx;revert Blk;revert B4;revert B1;revert Cc;revert h1;revert h2;revert h3;refine mo hb ?_;intro h3 h2 h1 Cc B1 B4 Blk hx
 replace Bt:=ah Bt hb
 replace Bu:=ah Bu hb
 replace Bv:=ah Bv hb
 replace Bw:=ah Bw hb
 replace B7:=ah B7 hb
 replace B8:=ah B8 hb
 replace B9:=ah B9 hb
 replace C0:=ah C0 hb
 replace C1:=ah C1 hb
 clear hb
 try go_wp2_with fail
 refine hK.out _ _ ⟨Bt,Bu,Bv,Bw,B7,B8,B9,C0,C1⟩ (fun hH=>?_)
 clear hK K
 try simp only[LY]
 clear hH
 refine U_on 15 fun K hK=>?_
 go_simp
 (with_reducible refine (pMul h3 h4 (SzQ.fit (SzQ.sub sx (szN (ha.1.mono (by decide))))) (SzQ.fit (szD ((Wn.sub hb.2 ha.2).mono (by decide)) ((Wn.sub hb.1 ha.1).mono (by decide)) (by omega)))).mono ?_)
 rintro e w9 ⟨_,rfl,h5,hb⟩
 obtain⟨sh5,ah5,nh5,ch5,Ah5,Nh5,Ch5,rfl⟩:=h5.shape
 replace hs:=ar hs hb
 revert hx;revert Blk;revert B4;revert B1;revert Cc;revert h1;revert h2;revert h3;revert h4;refine mo hb ?_;intro h4 h3 h2 h1 Cc B1 B4 Blk hx
 replace Bt:=ah Bt hb
 replace Bu:=ah Bu hb
 replace Bv:=ah Bv hb
 replace Bw:=ah Bw hb
 replace B7:=ah B7 hb
 replace B8:=ah B8 hb
 replace B9:=ah B9 hb
 replace C0:=ah C0 hb
 replace C1:=ah C1 hb
 clear hb
 try go_wp2_with fail
 refine hK.out _ _ ⟨Bt,Bu,Bv,Bw,B7,B8,B9,C0,C1⟩ (fun hH=>?_)
 clear hK K
 try simp only[LY]
 clear hH
 refine U_on 16 fun K hK=>?_
 go_simp
 (with_reducible refine (yi h1 h5 (SzQ.fit (szN (ha.2.mono (by decide)))) (SzQ.fit (SzQ.mul (SzQ.sub sx (szN (ha.1.mono (by decide)))) (szD ((Wn.sub hb.2 ha.2).mono (by decide)) ((Wn.sub hb.1 ha.1).mono (by decide)) (by omega))))).mono ?_)
 rintro e Dj ⟨_,rfl,h6,hb⟩
 obtain⟨sh6,ah6,nh6,ch6,Ah6,Nh6,Ch6,rfl⟩:=h6.shape
 replace hs:=ar hs hb
 revert hx;revert Blk;revert B4;revert B1;revert Cc;revert h1;revert h2;revert h3;revert h4;revert h5;refine mo hb ?_;intro h5 h4 h3 h2 h1 Cc B1 B4 Blk hx
 replace Bt:=ah Bt hb
 replace Bu:=ah Bu hb
 replace Bv:=ah Bv hb
 replace Bw:=ah Bw hb
 replace B7:=ah B7 hb
 replace B8:=ah B8 hb
 replace B9:=ah B9 hb
 replace C0:=ah C0 hb
 replace C1:=ah C1 hb
 clear hb
 try go_wp2_with fail
 refine hK.out _ _ ⟨Bt,Bu,Bv,Bw,B7,B8,B9,C0,C1⟩ (fun hH=>?_)
 clear hK K
 try simp only[LY]
 clear hH
 refine Blk.k3fl fun Bi Bj Bk fk Lk=>?_
 refine dr (by kernel_rfl) rfl (by kernel_rfl) (fun K hK=>?_)
 go_simp
 refine hK.out _ _ ?_
 clear hK K
 intro Dk hW
 have hG:Gr [w.heap.size + 1 + 1] Dj Dk:=by rw[hW];exact (Gr.refl _ _).set.set.set
 have Cq:=hs.size
 have lk:=Blk.lt
 have hk:=hG.keep ⟨⟨_,Blk.ty,by decide⟩,True.intro⟩
 have Bz:Bx Dk (w.heap.size + 1 + 1) 37 #[.bool sh6,.slice ah6 nh6 ch6,.slice Ah6 Nh6 Ch6]:=by rw[hW];exact Blk.set3
 replace hs:=hs.trans (hG.d1 hs.size)
 replace B1:=hG.b1 B1
 replace B4:=hG.b1 B4
 replace Cc:=hG.b1 Cc
 replace Blk:=Bz
 clear Bz
 revert h6 h5 h4 h3 h2 h1 hx;refine ke hk ?_;intro h6 h5 h4 h3 h2 h1 hx
 clear hW hG hk Cq lk
 try simp only[LY]
 clear Bt Bu Bv Bw B7 B8 B9 C0 C1
 go_wp2
 refine Blk.k3 fun Bi Bj Bk=>?_
 exact bodyPost_ret (v:=.agg #[.bool sh6,.slice ah6 nh6 ch6,.slice Ah6 Nh6 Ch6]) (by simp[results,Tryz.results127,go_sem,Bi,Bj,Bk]) rfl ⟨_,rfl,h6.of_eq rfl,hs⟩
theorem crX_sz {a b c d:Pt} (ha:WP 268435456 a) (hb:WP 268435456 b) (hc:WP 268435456 c) (hd:WP 268435456 d) (h:¬ crZ (mnZ b a) (mnZ d c)=0):SzQ 7 (crX (a,b) (c,d)):=by
 unfold crX
 exact (SzQ.add (szN (ha.1.mono (by decide))) (SzQ.mul (szD ((WP.cr (hc.mn ha) (hd.mn hc)).mono (by decide)) ((WP.cr (hb.mn ha) (hd.mn hc)).mono (by decide)) h) (szN ((hb.mn ha).1.mono (by decide))))).mono (by omega)
theorem in_tt {e:Edg} {x:Rat} {lo hi:Int} (h1:¬ x < ((lo:Int):Rat)) (h2:¬ ((hi:Int):Rat) < x) (e1:lo=loE e) (e2:hi=hiE e):inE e x=true:=by
 subst e1 e2
 unfold inE;rw[decide_eq_false h1,decide_eq_false h2];rfl
theorem in_f1 {e:Edg} {x:Rat} {lo:Int} (h1:x < ((lo:Int):Rat)) (e1:lo=loE e):inE e x=false:=by
 subst e1
 unfold inE;rw[decide_eq_true h1];rfl
theorem in_f2 {e:Edg} {x:Rat} {hi:Int} (h2:((hi:Int):Rat) < x) (e2:hi=hiE e):inE e x=false:=by
 subst e2
 unfold inE;rw[decide_eq_true h2];simp
theorem cr_f0 {e f:Edg} (h:crZ (mnZ e.2 e.1) (mnZ f.2 f.1)=0):crB e f=false:=by rw[cr_in,decide_eq_true h];rfl
theorem cr_f1 {e f:Edg} (h:inE e (crX e f)=false):crB e f=false:=by rw[cr_in,h];simp
theorem cr_f2 {e f:Edg} (h:inE f (crX e f)=false):crB e f=false:=by rw[cr_in,h];simp
theorem cr_tt {e f:Edg} (h:¬ crZ (mnZ e.2 e.1) (mnZ f.2 f.1)=0) (h1:inE e (crX e f)=true) (h2:inE f (crX e f)=true):crB e f=true:=by rw[cr_in,decide_eq_false h,h1,h2];rfl
theorem pl_crossing (a b c d:Pt) (w:World) (ha:WP 268435456 a) (hb:WP 268435456 b) (hc:WP 268435456 c) (hd:WP 268435456 d) {rb:Bool} {rq:Rat} (hrb:rb=crB (a,b) (c,d)) (hrq:rq=if crB (a,b) (c,d)=true then crX (a,b) (c,d) else 0):
  Calls Tryz.prog 122 #[.agg #[.int .i64 a.1,.int .i64 a.2,.int .i64 b.1,.int .i64 b.2],.agg #[.int .i64 c.1,.int .i64 c.2,.int .i64 d.1,.int .i64 d.2]] w (Ret2 (fun w v=>PV w v rq) (fun _ v=>v=.bool rb) w):=by
 have hs:=Below.refl w.heap.size w
 have Dl:=ae hrb
 have Dm:=ae hrq
 clear hrb hrq
 go_enter Tryz.func122,Tryz.ntmps122
 go_upto_region 1 with fail
 refine Code.abs ?_
 intro w1 hW
 have hG:Gr [] w w1:=by rw[hW];exact (Gr.refl _ _).alloc.alloc.alloc
 have Ei:=hs.size
 have B1:Bx w1 (w.heap.size) 69 #[.int .i64 a.1,.int .i64 a.2,.int .i64 b.1,.int .i64 b.2]:=by rw[hW];exact (((Bx.new0 _ _ _).alloc _).alloc _)
 have B5:Bx w1 (w.heap.size + 1) 69 #[.int .i64 c.1,.int .i64 c.2,.int .i64 d.1,.int .i64 d.2]:=by rw[hW];exact ((Bx.new0 _ _ _).alloc _)
 have Blk:Bx w1 (w.heap.size + 1 + 1) 37 #[.bool false,.slice none 0 0,.slice none 0 0]:=by rw[hW];exact (Bx.new0 _ _ _)
 replace hs:=hs.trans (hG.below0 hs.size)
 clear hW hG
 have Eh:=Blk.lt
 go_cut [6,7] (fun kv0 kv1 wz=>∃ga gb,kv0=.pointer (some ⟨ga,0,none⟩)∧kv1=.pointer (some ⟨gb,0,none⟩)∧w.heap.size≤ga∧ga≠w.heap.size∧ga≠(w.heap.size + 1)∧ga≠(w.heap.size + 1 + 1)∧w.heap.size≤gb∧gb≠w.heap.size∧gb≠(w.heap.size + 1)∧gb≠(w.heap.size + 1 + 1)∧ga≠gb∧Bx wz ga 24 #[.int .i64 (b.1 - a.1),.int .i64 (b.2 - a.2)]∧Bx wz gb 24 #[.int .i64 (d.1 - c.1),.int .i64 (d.2 - c.2)]∧Below w.heap.size w wz∧Bx wz (w.heap.size) 69 #[.int .i64 a.1,.int .i64 a.2,.int .i64 b.1,.int .i64 b.2]∧Bx wz (w.heap.size + 1) 69 #[.int .i64 c.1,.int .i64 c.2,.int .i64 d.1,.int .i64 d.2]∧Bx wz (w.heap.size + 1 + 1) 37 #[.bool false,.slice none 0 0,.slice none 0 0])
 case first=>
  refine bw (S:=fun w'=>w'.cell? ⟨w.heap.size,0,none⟩=some (.int .i64 a.1)∧w'.cell? ⟨w.heap.size,1,none⟩=some (.int .i64 a.2)∧w'.cell? ⟨w.heap.size,2,none⟩=some (.int .i64 b.1)∧w'.cell? ⟨w.heap.size,3,none⟩=some (.int .i64 b.2)∧w'.cell? ⟨w.heap.size + 1,0,none⟩=some (.int .i64 c.1)∧w'.cell? ⟨w.heap.size + 1,1,none⟩=some (.int .i64 c.2)∧w'.cell? ⟨w.heap.size + 1,2,none⟩=some (.int .i64 d.1)∧w'.cell? ⟨w.heap.size + 1,3,none⟩=some (.int .i64 d.2)) (by kernel_rfl) 13 ?_
  refine cq.abs ?_
  intro w2 hW
  have hb:Below w1.heap.size w1 w2:=by rw[hW];exact de _
  replace hs:=ar hs hb
  revert B1 B5 Blk;refine mo hb ?_;intro B1 B5 Blk
  clear hb hW
  obtain⟨FP,HP⟩:∃FP:World→Prop,∀W,FP W↔(Below w.heap.size w W∧Bx W (w.heap.size) 69 #[.int .i64 a.1,.int .i64 a.2,.int .i64 b.1,.int .i64 b.2]∧Bx W (w.heap.size + 1) 69 #[.int .i64 c.1,.int .i64 c.2,.int .i64 d.1,.int .i64 d.2]∧Bx W (w.heap.size + 1 + 1) 37 #[.bool false,.slice none 0 0,.slice none 0 0]):=⟨_,fun _=>Iff.rfl⟩
  have HM:∀W W',FP W→Below W.heap.size W W'→FP W':=by intro W W' h hb;obtain⟨hs,B1,B5,Blk⟩:=(HP _).1 h;exact (HP _).2 ⟨ar hs hb,B1.mono hb,B5.mono hb,Blk.mono hb⟩
  have HC:∀W,FP W→W.cell? ⟨w.heap.size,0,none⟩=some (.int .i64 a.1)∧W.cell? ⟨w.heap.size,1,none⟩=some (.int .i64 a.2)∧W.cell? ⟨w.heap.size,2,none⟩=some (.int .i64 b.1)∧W.cell? ⟨w.heap.size,3,none⟩=some (.int .i64 b.2)∧W.cell? ⟨w.heap.size + 1,0,none⟩=some (.int .i64 c.1)∧W.cell? ⟨w.heap.size + 1,1,none⟩=some (.int .i64 c.2)∧W.cell? ⟨w.heap.size + 1,2,none⟩=some (.int .i64 d.1)∧W.cell? ⟨w.heap.size + 1,3,none⟩=some (.int .i64 d.2):=by intro W h;obtain⟨hs,B1,B5,Blk⟩:=(HP _).1 h;exact⟨B1.at 0 rfl,B1.at 1 rfl,B1.at 2 rfl,B1.at 3 rfl,B5.at 0 rfl,B5.at 1 rfl,B5.at 2 rfl,B5.at 3 rfl⟩
  obtain⟨NE,HN⟩:∃NE:Nat→Prop,∀g,NE g↔(w.heap.size≠g∧(w.heap.size + 1)≠g∧(w.heap.size + 1 + 1)≠g):=⟨_,fun _=>Iff.rfl⟩
  have HE:∀W,FP W→NE W.heap.size:=by intro W h;obtain⟨hs,B1,B5,Blk⟩:=(HP _).1 h;exact (HN _).2 (⟨Nat.ne_of_lt B1.lt,Nat.ne_of_lt B5.lt,Nat.ne_of_lt Blk.lt⟩)
  have HG:∀W W' g,FP W→Gr [g] W W'→aw W W'→w.heap.size≤g→NE g→FP W':=by intro W W' g h hG hk hg hn;obtain⟨hs,B1,B5,Blk⟩:=(HP _).1 h;obtain⟨e_e,e_f,e_k⟩:=(HN g).1 hn;exact (HP _).2 ⟨hs.trans (hG.below1 hs.size hg),hG.bx B1 (az e_e),hG.bx B5 (az e_f),hG.bx Blk (az e_k)⟩
  have F:FP w2:=(HP _).2 ⟨hs,B1,B5,Blk⟩
  clear hs B1 B5 Blk
  have hH:=HC _ F
  refine U_td 0 14 hH ?_
  refine U_td 1 15 hH ?_
  refine U_td 2 16 hH ?_
  refine U_td 3 17 hH ?_
  refine U_td 5 19 hH ?_
  refine U_td 6 20 hH ?_
  refine U_td 7 21 hH ?_
  refine U_td 8 22 hH ?_
  clear hH
  refine ks ?_
  intro X a0 HX HA
  have Cl:∀(W:World) (Bc:Nat) (Bd:Nat),FP W→(w.heap.size≤Bc)→(NE Bc)→(Bx W Bc 24 #[.int .i64 0,.int .i64 0])→(w.heap.size≤Bd)→(NE Bd)→(Bx W Bd 24 #[.int .i64 0,.int .i64 0])→(Bc≠Bd)→X 2 (LB 14 4095) ((((a0.put (some 18) (.agg #[.int .i64 (b.1 - a.1),.int .i64 (b.2 - a.2)])).put (some 23) (.agg #[.int .i64 (d.1 - c.1),.int .i64 (d.2 - c.2)])).put (some 6) (.pointer (some ⟨Bc,0,none⟩))).put (some 7) (.pointer (some ⟨Bd,0,none⟩))) W:=by
   intro W Bc Bd F Bp Bn B2 Bq Bo B3 By
   rw[←HX.out,←HA.out]
   try simp only[LY]
   refine B2.k2fl fun E5 E6 fa La=>?_
   refine U_on 12 fun K hK=>?_
   go_simp
   generalize hW_:((W.setCell ⟨Bc,0,none⟩ (.int .i64 (b.1 - a.1))).setCell ⟨Bc,1,none⟩ (.int .i64 (b.2 - a.2)))=w3
   have hW:=hW_.symm
   clear hW_
   have hG:Gr [Bc] W w3:=by rw[hW];exact (Gr.refl _ _).set.set
   have hk:=hG.keep ⟨⟨_,B2.ty,by decide⟩,True.intro⟩
   replace B2:Bx w3 (Bc) 24 #[.int .i64 (b.1 - a.1),.int .i64 (b.2 - a.2)]:=by rw[hW];exact B2.set2
   replace F:=HG _ _ _ F hG hk Bp Bn
   replace B3:=hG.b1 B3
   clear hW hG hk
   refine hK.out _ _ (HC _ F) (fun hH=>?_)
   clear hK K
   try simp only[LY]
   clear hH
   refine B3.k2fl fun E7 E8 fb Lb=>?_
   refine dr (by kernel_rfl) rfl (by kernel_rfl) (fun K hK=>?_)
   go_simp
   refine hK.out _ _ ?_
   clear hK K
   intro w4 hW
   have hG:Gr [Bd] w3 w4:=by rw[hW];exact (Gr.refl _ _).set.set
   have hk:=hG.keep ⟨⟨_,B3.ty,by decide⟩,True.intro⟩
   replace B3:Bx w4 (Bd) 24 #[.int .i64 (d.1 - c.1),.int .i64 (d.2 - c.2)]:=by rw[hW];exact B3.set2
   replace F:=HG _ _ _ F hG hk Bq Bo
   replace B2:=hG.b1 B2
   clear hW hG hk
   obtain⟨hs,B1,B5,Blk⟩:=(HP _).1 F
   try simp only[LY]
   obtain⟨e_e_a,e_f_a,e_k_a⟩:=(HN _).1 Bn
   obtain⟨e_e_b,e_f_b,e_k_b⟩:=(HN _).1 Bo
   clear HX HA HM HP HC HG HN HE
   go_wp2_with fail
   go_meet
   exact⟨Bc,Bd,rfl,rfl,(by first|exact Bp|omega),(by omega),(by omega),(by omega),(by first|exact Bq|omega),(by omega),(by omega),(by omega),(by omega),B2,B3,hs,B1,B5,Blk⟩
  replace Cl:=ae Cl
  have Ch:∀(W:World) (Bc:Nat) (Bd:Nat),FP W→(w.heap.size≤Bc)→(NE Bc)→(Bx W Bc 24 #[.int .i64 0,.int .i64 0])→(w.heap.size≤Bd)→(NE Bd)→(Bx W Bd 24 #[.int .i64 0,.int .i64 0])→(Bc≠Bd)→X 3 (LB 14 3583) (((a0.put (some 18) (.agg #[.int .i64 (b.1 - a.1),.int .i64 (b.2 - a.2)])).put (some 6) (.pointer (some ⟨Bc,0,none⟩))).put (some 7) (.pointer (some ⟨Bd,0,none⟩))) W:=by
   intro W Bc Bd F Bp Bn B2 Bq Bo B3 By
   rw[←HX.out,←HA.out]
   try simp only[LY]
   refine U_on 9 fun K hK=>?_
   obtain⟨hs,B1,B5,Blk⟩:=(HP _).1 F
   go_simp
   (with_reducible refine (di d.1 d.2 c.1 c.2 _ (Wn.wsub hd.1 hc.1 (by decide)) (Wn.wsub hd.2 hc.2 (by decide))).mono ?_)
   rintro e W1 ⟨rfl,hb⟩
   replace F:=HM _ _ F hb
   revert B2 B3;refine mo hb ?_;intro B2 B3
   clear hb hs B1 B5 Blk
   try go_wp2_with fail
   exact hK.out _ _ (HC _ F) fun _=>bf HX HA (Cl.out W1 Bc Bd F Bp Bn B2 Bq Bo B3 By)
  replace Ch:=ae Ch
  have D1:∀(W:World) (Bd:Nat),FP W→(w.heap.size≤Bd)→(NE Bd)→(Bx W Bd 24 #[.int .i64 0,.int .i64 0])→X 3 (LB 14 3071) (((a0.put (some 18) (.agg #[.int .i64 (b.1 - a.1),.int .i64 (b.2 - a.2)])).put (some 23) (.agg #[.int .i64 (d.1 - c.1),.int .i64 (d.2 - c.2)])).put (some 7) (.pointer (some ⟨Bd,0,none⟩))) W:=by
   intro W Bd F Bq Bo B3
   rw[←HX.out,←HA.out]
   try simp only[LY]
   refine U_on 10 fun K hK=>?_
   go_simp
   refine aq ((HP _).1 F).1 (fun W1 hb B2 Bp=>?_)
   have Bn:=HE _ F
   have By:=Nat.ne_of_gt B3.lt
   replace F:=HM _ _ F hb
   replace B3:=B3.mono hb
   clear hb
   exact hK.out _ _ (HC _ F) fun _=>bf HX HA (Cl.out W1 W.heap.size Bd F Bp Bn B2 Bq Bo B3 By)
  replace D1:=ae D1
  have Ct:∀(W:World) (Bc:Nat),FP W→(w.heap.size≤Bc)→(NE Bc)→(Bx W Bc 24 #[.int .i64 0,.int .i64 0])→X 3 (LB 14 2047) (((a0.put (some 18) (.agg #[.int .i64 (b.1 - a.1),.int .i64 (b.2 - a.2)])).put (some 23) (.agg #[.int .i64 (d.1 - c.1),.int .i64 (d.2 - c.2)])).put (some 6) (.pointer (some ⟨Bc,0,none⟩))) W:=by
   intro W Bc F Bp Bn B2
   rw[←HX.out,←HA.out]
   try simp only[LY]
   refine U_on 11 fun K hK=>?_
   go_simp
   refine aq ((HP _).1 F).1 (fun W1 hb B3 Bq=>?_)
   have Bo:=HE _ F
   have By:=Nat.ne_of_lt B2.lt
   replace F:=HM _ _ F hb
   replace B2:=B2.mono hb
   clear hb
   exact hK.out _ _ (HC _ F) fun _=>bf HX HA (Cl.out W1 Bc W.heap.size F Bp Bn B2 Bq Bo B3 By)
  replace Ct:=ae Ct
  have D0:∀(W:World) (Bc:Nat) (Bd:Nat),FP W→(w.heap.size≤Bc)→(NE Bc)→(Bx W Bc 24 #[.int .i64 0,.int .i64 0])→(w.heap.size≤Bd)→(NE Bd)→(Bx W Bd 24 #[.int .i64 0,.int .i64 0])→(Bc≠Bd)→X 4 (LB 14 3567) ((a0.put (some 6) (.pointer (some ⟨Bc,0,none⟩))).put (some 7) (.pointer (some ⟨Bd,0,none⟩))) W:=by
   intro W Bc Bd F Bp Bn B2 Bq Bo B3 By
   rw[←HX.out,←HA.out]
   try simp only[LY]
   refine U_on 4 fun K hK=>?_
   obtain⟨hs,B1,B5,Blk⟩:=(HP _).1 F
   go_simp
   (with_reducible refine (di b.1 b.2 a.1 a.2 _ (Wn.wsub hb.1 ha.1 (by decide)) (Wn.wsub hb.2 ha.2 (by decide))).mono ?_)
   rintro e W1 ⟨rfl,hb⟩
   replace F:=HM _ _ F hb
   revert B2 B3;refine mo hb ?_;intro B2 B3
   clear hb hs B1 B5 Blk
   try go_wp2_with fail
   exact hK.out _ _ (HC _ F) fun _=>bf HX HA (Ch.out W1 Bc Bd F Bp Bn B2 Bq Bo B3 By)
  replace D0:=ae D0
  have Cs:∀(W:World) (Bd:Nat),FP W→(w.heap.size≤Bd)→(NE Bd)→(Bx W Bd 24 #[.int .i64 0,.int .i64 0])→X 4 (LB 14 2559) ((a0.put (some 18) (.agg #[.int .i64 (b.1 - a.1),.int .i64 (b.2 - a.2)])).put (some 7) (.pointer (some ⟨Bd,0,none⟩))) W:=by
   intro W Bd F Bq Bo B3
   rw[←HX.out,←HA.out]
   try simp only[LY]
   refine dq (i:=9) (j:=10) (by kernel_rfl) rfl rfl  (fun K hK=>?_) (fun K hK=>?_)
   ·obtain⟨hs,B1,B5,Blk⟩:=(HP _).1 F
    go_simp
    (with_reducible refine (di d.1 d.2 c.1 c.2 _ (Wn.wsub hd.1 hc.1 (by decide)) (Wn.wsub hd.2 hc.2 (by decide))).mono ?_)
    rintro e W1 ⟨rfl,hb⟩
    replace F:=HM _ _ F hb
    replace B3:=B3.mono hb
    clear hb hs B1 B5 Blk
    try go_wp2_with fail
    exact hK.out _ _ (HC _ F) fun _=>bf HX HA (D1.out W1 Bd F Bq Bo B3)
   go_simp
   refine aq ((HP _).1 F).1 (fun W1 hb B2 Bp=>?_)
   have Bn:=HE _ F
   have By:=Nat.ne_of_gt B3.lt
   replace F:=HM _ _ F hb
   replace B3:=B3.mono hb
   clear hb
   exact hK.out _ _ (HC _ F) fun _=>bf HX HA (Ch.out W1 W.heap.size Bd F Bp Bn B2 Bq Bo B3 By)
  replace Cs:=ae Cs
  have Cz:∀(W:World) (Bc:Nat),FP W→(w.heap.size≤Bc)→(NE Bc)→(Bx W Bc 24 #[.int .i64 0,.int .i64 0])→X 4 (LB 14 1535) ((a0.put (some 18) (.agg #[.int .i64 (b.1 - a.1),.int .i64 (b.2 - a.2)])).put (some 6) (.pointer (some ⟨Bc,0,none⟩))) W:=by
   intro W Bc F Bp Bn B2
   rw[←HX.out,←HA.out]
   try simp only[LY]
   refine dq (i:=9) (j:=11) (by kernel_rfl) rfl rfl  (fun K hK=>?_) (fun K hK=>?_)
   ·obtain⟨hs,B1,B5,Blk⟩:=(HP _).1 F
    go_simp
    (with_reducible refine (di d.1 d.2 c.1 c.2 _ (Wn.wsub hd.1 hc.1 (by decide)) (Wn.wsub hd.2 hc.2 (by decide))).mono ?_)
    rintro e W1 ⟨rfl,hb⟩
    replace F:=HM _ _ F hb
    replace B2:=B2.mono hb
    clear hb hs B1 B5 Blk
    try go_wp2_with fail
    exact hK.out _ _ (HC _ F) fun _=>bf HX HA (Ct.out W1 Bc F Bp Bn B2)
   go_simp
   refine aq ((HP _).1 F).1 (fun W1 hb B3 Bq=>?_)
   have Bo:=HE _ F
   have By:=Nat.ne_of_lt B2.lt
   replace F:=HM _ _ F hb
   replace B2:=B2.mono hb
   clear hb
   exact hK.out _ _ (HC _ F) fun _=>bf HX HA (Ch.out W1 Bc W.heap.size F Bp Bn B2 Bq Bo B3 By)
  replace Cz:=ae Cz
  have Cy:∀(W:World),FP W→X 4 (LB 14 1023) ((a0.put (some 18) (.agg #[.int .i64 (b.1 - a.1),.int .i64 (b.2 - a.2)])).put (some 23) (.agg #[.int .i64 (d.1 - c.1),.int .i64 (d.2 - c.2)])) W:=by
   intro W F
   rw[←HX.out,←HA.out]
   try simp only[LY]
   refine dq (i:=10) (j:=11) (by kernel_rfl) rfl rfl  (fun K hK=>?_) (fun K hK=>?_)
   ·go_simp
    refine aq ((HP _).1 F).1 (fun W1 hb B2 Bp=>?_)
    have Bn:=HE _ F
    replace F:=HM _ _ F hb
    clear hb
    exact hK.out _ _ (HC _ F) fun _=>bf HX HA (Ct.out W1 W.heap.size F Bp Bn B2)
   go_simp
   refine aq ((HP _).1 F).1 (fun W1 hb B3 Bq=>?_)
   have Bo:=HE _ F
   replace F:=HM _ _ F hb
   clear hb
   exact hK.out _ _ (HC _ F) fun _=>bf HX HA (D1.out W1 W.heap.size F Bq Bo B3)
  replace Cy:=ae Cy
  have D6:∀(W:World) (Bd:Nat),FP W→(w.heap.size≤Bd)→(NE Bd)→(Bx W Bd 24 #[.int .i64 0,.int .i64 0])→X 5 (LB 14 2543) (a0.put (some 7) (.pointer (some ⟨Bd,0,none⟩))) W:=by
   intro W Bd F Bq Bo B3
   rw[←HX.out,←HA.out]
   try simp only[LY]
   refine dq (i:=4) (j:=10) (by kernel_rfl) rfl rfl  (fun K hK=>?_) (fun K hK=>?_)
   ·obtain⟨hs,B1,B5,Blk⟩:=(HP _).1 F
    go_simp
    (with_reducible refine (di b.1 b.2 a.1 a.2 _ (Wn.wsub hb.1 ha.1 (by decide)) (Wn.wsub hb.2 ha.2 (by decide))).mono ?_)
    rintro e W1 ⟨rfl,hb⟩
    replace F:=HM _ _ F hb
    replace B3:=B3.mono hb
    clear hb hs B1 B5 Blk
    try go_wp2_with fail
    exact hK.out _ _ (HC _ F) fun _=>bf HX HA (Cs.out W1 Bd F Bq Bo B3)
   go_simp
   refine aq ((HP _).1 F).1 (fun W1 hb B2 Bp=>?_)
   have Bn:=HE _ F
   have By:=Nat.ne_of_gt B3.lt
   replace F:=HM _ _ F hb
   replace B3:=B3.mono hb
   clear hb
   exact hK.out _ _ (HC _ F) fun _=>bf HX HA (D0.out W1 W.heap.size Bd F Bp Bn B2 Bq Bo B3 By)
  replace D6:=ae D6
  have D5:∀(W:World) (Bc:Nat),FP W→(w.heap.size≤Bc)→(NE Bc)→(Bx W Bc 24 #[.int .i64 0,.int .i64 0])→X 5 (LB 14 1519) (a0.put (some 6) (.pointer (some ⟨Bc,0,none⟩))) W:=by
   intro W Bc F Bp Bn B2
   rw[←HX.out,←HA.out]
   try simp only[LY]
   refine dq (i:=4) (j:=11) (by kernel_rfl) rfl rfl  (fun K hK=>?_) (fun K hK=>?_)
   ·obtain⟨hs,B1,B5,Blk⟩:=(HP _).1 F
    go_simp
    (with_reducible refine (di b.1 b.2 a.1 a.2 _ (Wn.wsub hb.1 ha.1 (by decide)) (Wn.wsub hb.2 ha.2 (by decide))).mono ?_)
    rintro e W1 ⟨rfl,hb⟩
    replace F:=HM _ _ F hb
    replace B2:=B2.mono hb
    clear hb hs B1 B5 Blk
    try go_wp2_with fail
    exact hK.out _ _ (HC _ F) fun _=>bf HX HA (Cz.out W1 Bc F Bp Bn B2)
   go_simp
   refine aq ((HP _).1 F).1 (fun W1 hb B3 Bq=>?_)
   have Bo:=HE _ F
   have By:=Nat.ne_of_lt B2.lt
   replace F:=HM _ _ F hb
   replace B2:=B2.mono hb
   clear hb
   exact hK.out _ _ (HC _ F) fun _=>bf HX HA (D0.out W1 Bc W.heap.size F Bp Bn B2 Bq Bo B3 By)
  replace D5:=ae D5
  have D4:∀(W:World),FP W→X 5 (LB 14 511) (a0.put (some 18) (.agg #[.int .i64 (b.1 - a.1),.int .i64 (b.2 - a.2)])) W:=by
   intro W F
   rw[←HX.out,←HA.out]
   try simp only[LY]
   refine jv (i:=9) (j:=10) (k:=11) (by kernel_rfl) rfl rfl rfl  (fun K hK=>?_) (fun K hK=>?_) (fun K hK=>?_)
   ·obtain⟨hs,B1,B5,Blk⟩:=(HP _).1 F
    go_simp
    (with_reducible refine (di d.1 d.2 c.1 c.2 _ (Wn.wsub hd.1 hc.1 (by decide)) (Wn.wsub hd.2 hc.2 (by decide))).mono ?_)
    rintro e W1 ⟨rfl,hb⟩
    replace F:=HM _ _ F hb
    clear hb hs B1 B5 Blk
    try go_wp2_with fail
    exact hK.out _ _ (HC _ F) fun _=>bf HX HA (Cy.out W1 F)
   ·go_simp
    refine aq ((HP _).1 F).1 (fun W1 hb B2 Bp=>?_)
    have Bn:=HE _ F
    replace F:=HM _ _ F hb
    clear hb
    exact hK.out _ _ (HC _ F) fun _=>bf HX HA (Cz.out W1 W.heap.size F Bp Bn B2)
   go_simp
   refine aq ((HP _).1 F).1 (fun W1 hb B3 Bq=>?_)
   have Bo:=HE _ F
   replace F:=HM _ _ F hb
   clear hb
   exact hK.out _ _ (HC _ F) fun _=>bf HX HA (Cs.out W1 W.heap.size F Bq Bo B3)
  replace D4:=ae D4
  have D3:∀(W:World),FP W→X 6 (LB 14 495) a0 W:=by
   intro W F
   rw[←HX.out,←HA.out]
   try simp only[LY]
   refine jv (i:=4) (j:=10) (k:=11) (by kernel_rfl) rfl rfl rfl  (fun K hK=>?_) (fun K hK=>?_) (fun K hK=>?_)
   ·obtain⟨hs,B1,B5,Blk⟩:=(HP _).1 F
    go_simp
    (with_reducible refine (di b.1 b.2 a.1 a.2 _ (Wn.wsub hb.1 ha.1 (by decide)) (Wn.wsub hb.2 ha.2 (by decide))).mono ?_)
    rintro e W1 ⟨rfl,hb⟩
    replace F:=HM _ _ F hb
    clear hb hs B1 B5 Blk
    try go_wp2_with fail
    exact hK.out _ _ (HC _ F) fun _=>bf HX HA (D4.out W1 F)
   ·go_simp
    refine aq ((HP _).1 F).1 (fun W1 hb B2 Bp=>?_)
    have Bn:=HE _ F
    replace F:=HM _ _ F hb
    clear hb
    exact hK.out _ _ (HC _ F) fun _=>bf HX HA (D5.out W1 W.heap.size F Bp Bn B2)
   go_simp
   refine aq ((HP _).1 F).1 (fun W1 hb B3 Bq=>?_)
   have Bo:=HE _ F
   replace F:=HM _ _ F hb
   clear hb
   exact hK.out _ _ (HC _ F) fun _=>bf HX HA (D6.out W1 W.heap.size F Bq Bo B3)
  replace D3:=ae D3
  rw[←HX.out]
  have B0:=D3.out w2 F
  rw[←HX.out] at B0
  exact U_at (by kernel_rfl) (by kernel_rfl) B0
 case rest=>
  clear hs B1 B5 Blk
  obtain⟨ga,gb,rfl,rfl,hg_a,ng_a_e,ng_a_f,ng_a_k,hg_b,ng_b_e,ng_b_f,ng_b_k,ng_a_b,B2,B3,hs,B1,B5,Blk⟩:=hcut
  refine B2.k2l fun E5 E6 La=>?_
  refine B3.k2l fun E7 E8 Lb=>?_
  go_wp2_with fail
  clear E5 E6 E7 E8 La Lb
  with_reducible refine (pg (b.1 - a.1) (b.2 - a.2) (d.1 - c.1) (d.2 - c.2) _ (Wn.wmul (Wn.sub hb.1 ha.1) (Wn.sub hd.2 hc.2) (by decide)) (Wn.wmul (Wn.sub hb.2 ha.2) (Wn.sub hd.1 hc.1) (by decide)) (Wn.wsub (Wn.mul (Wn.sub hb.1 ha.1) (Wn.sub hd.2 hc.2)) (Wn.mul (Wn.sub hb.2 ha.2) (Wn.sub hd.1 hc.1)) (by decide))).mono ?_
  rintro e w2 ⟨rfl,hb⟩
  revert Blk;revert B5;revert B1;revert B3;revert B2;refine mS hs hb ?_;clear hs hb;intro hs B2 B3 B1 B5 Blk
  obtain⟨Ci,Cx⟩:∃s:Int,s=(b.1 - a.1) * (d.2 - c.2) - (b.2 - a.2) * (d.1 - c.1):=⟨_,rfl⟩
  rw[←Cx]
  have Dc:Wn 576460752303423488 Ci:=by rw[Cx];exact ((Wn.sub (Wn.mul (Wn.sub hb.1 ha.1) (Wn.sub hd.2 hc.2)) (Wn.mul (Wn.sub hb.2 ha.2) (Wn.sub hd.1 hc.1)))).mono (by decide)
  replace Cx:=ae Cx
  by_cases q2:Ci=0
  ·have q2b:(Ci == 0)=true:=beq_iff_eq.2 (by omega)
   have q2n:(Ci != 0)=false:=bne_eq_false_iff_eq.2 (by omega)
   have D2:=ae q2
   clear q2
   have HB3:=ae (show crB (a,b) (c,d)=false from cr_f0 (Cx.out.symm.trans D2.out))
   refine Blk.k3fl fun Bi Bj Bk fk Lk=>?_
   go_wp2
   clear Bi Bj Bk fk Lk
   refine bodyPost.abs ?_
   intro w3 hW
   have hG:Gr [w.heap.size + 1 + 1] w2 w3:=by rw[hW];exact (Gr.refl _ _).set.set.set
   have Cq:=hs.size
   have lk:=Blk.lt
   have Bz:Bx w3 (w.heap.size + 1 + 1) 37 #[.bool false,.slice none 0 0,.slice none 0 0]:=by rw[hW];exact Blk.set3
   replace hs:=hs.trans (hG.d1 hs.size)
   replace B1:=hG.b1 B1
   replace B5:=hG.b1 B5
   replace B2:=hG.b1 B2
   replace B3:=hG.b1 B3
   replace Blk:=Bz
   clear Bz
   clear hW hG Cq lk
   refine Blk.k3 fun Bi Bj Bk=>?_
   exact bodyPost_ret (v:=.tuple #[.agg #[.bool false,.slice none 0 0,.slice none 0 0],.bool false]) (by simp[results,Tryz.results122,go_sem,Bi,Bj,Bk]) rfl ⟨_,_,rfl,((PV.zero _).of_eq (show _=rq from by rw[Dm.out,if_neg (by rw[HB3.out];exact Bool.false_ne_true)])),by rw[Dl.out,HB3.out],hs⟩
  have q2b:(Ci == 0)=false:=beq_eq_false_iff_ne.2 (by omega)
  have q2n:(Ci != 0)=true:=bne_iff_ne.2 (by omega)
  have D2:=ae q2
  clear q2
  go_upto_region 5 with fail
  go_cut [9] (fun kv0 wz=>∃gx C8 C5 C7 C6 C2 C4 C3,kv0=.pointer (some ⟨gx,0,none⟩)∧w.heap.size≤gx∧gx≠w.heap.size∧gx≠(w.heap.size + 1)∧gx≠(w.heap.size + 1 + 1)∧gx≠ga∧gx≠gb∧Bx wz gx 37 #[.bool C8,.slice C5 C7 C6,.slice C2 C4 C3]∧Below w.heap.size w wz∧Bx wz (w.heap.size) 69 #[.int .i64 a.1,.int .i64 a.2,.int .i64 b.1,.int .i64 b.2]∧Bx wz (w.heap.size + 1) 69 #[.int .i64 c.1,.int .i64 c.2,.int .i64 d.1,.int .i64 d.2]∧Bx wz (w.heap.size + 1 + 1) 37 #[.bool false,.slice none 0 0,.slice none 0 0]∧Bx wz (ga) 24 #[.int .i64 (b.1 - a.1),.int .i64 (b.2 - a.2)]∧Bx wz (gb) 24 #[.int .i64 (d.1 - c.1),.int .i64 (d.2 - c.2)]∧PV wz (.agg #[.bool C8,.slice C5 C7 C6,.slice C2 C4 C3]) ((((a.1:Int):Rat)) + (((((c.1 - a.1) * (d.2 - c.2) - (c.2 - a.2) * (d.1 - c.1):Int):Rat) / ((Ci:Int):Rat)) * (((b.1 - a.1:Int):Rat)))))
  case first=>
   refine bw (S:=fun w'=>w'.cell? ⟨w.heap.size,0,none⟩=some (.int .i64 a.1)∧w'.cell? ⟨w.heap.size,1,none⟩=some (.int .i64 a.2)∧w'.cell? ⟨w.heap.size,2,none⟩=some (.int .i64 b.1)∧w'.cell? ⟨w.heap.size,3,none⟩=some (.int .i64 b.2)∧w'.cell? ⟨w.heap.size + 1,0,none⟩=some (.int .i64 c.1)∧w'.cell? ⟨w.heap.size + 1,1,none⟩=some (.int .i64 c.2)∧w'.cell? ⟨w.heap.size + 1,2,none⟩=some (.int .i64 d.1)∧w'.cell? ⟨w.heap.size + 1,3,none⟩=some (.int .i64 d.2)∧w'.cell? ⟨gb,0,none⟩=some (.int .i64 (d.1 - c.1))∧w'.cell? ⟨gb,1,none⟩=some (.int .i64 (d.2 - c.2))∧w'.cell? ⟨ga,0,none⟩=some (.int .i64 (b.1 - a.1))∧w'.cell? ⟨ga,1,none⟩=some (.int .i64 (b.2 - a.2))) (by kernel_rfl) 19 ?_
   refine cq.abs ?_
   intro w3 hW
   have hb:Below w2.heap.size w2 w3:=by rw[hW];exact de _
   replace hs:=ar hs hb
   revert B2 B3 B1 B5 Blk;refine mo hb ?_;intro B2 B3 B1 B5 Blk
   clear hb hW
   obtain⟨FP,HP⟩:∃FP:World→Prop,∀W,FP W↔(Below w.heap.size w W∧Bx W (w.heap.size) 69 #[.int .i64 a.1,.int .i64 a.2,.int .i64 b.1,.int .i64 b.2]∧Bx W (w.heap.size + 1) 69 #[.int .i64 c.1,.int .i64 c.2,.int .i64 d.1,.int .i64 d.2]∧Bx W (w.heap.size + 1 + 1) 37 #[.bool false,.slice none 0 0,.slice none 0 0]∧Bx W (ga) 24 #[.int .i64 (b.1 - a.1),.int .i64 (b.2 - a.2)]∧Bx W (gb) 24 #[.int .i64 (d.1 - c.1),.int .i64 (d.2 - c.2)]):=⟨_,fun _=>Iff.rfl⟩
   have HM:∀W W',FP W→Below W.heap.size W W'→FP W':=by intro W W' h hb;obtain⟨hs,B1,B5,Blk,B2,B3⟩:=(HP _).1 h;exact (HP _).2 ⟨ar hs hb,B1.mono hb,B5.mono hb,Blk.mono hb,B2.mono hb,B3.mono hb⟩
   have HC:∀W,FP W→W.cell? ⟨w.heap.size,0,none⟩=some (.int .i64 a.1)∧W.cell? ⟨w.heap.size,1,none⟩=some (.int .i64 a.2)∧W.cell? ⟨w.heap.size,2,none⟩=some (.int .i64 b.1)∧W.cell? ⟨w.heap.size,3,none⟩=some (.int .i64 b.2)∧W.cell? ⟨w.heap.size + 1,0,none⟩=some (.int .i64 c.1)∧W.cell? ⟨w.heap.size + 1,1,none⟩=some (.int .i64 c.2)∧W.cell? ⟨w.heap.size + 1,2,none⟩=some (.int .i64 d.1)∧W.cell? ⟨w.heap.size + 1,3,none⟩=some (.int .i64 d.2)∧W.cell? ⟨gb,0,none⟩=some (.int .i64 (d.1 - c.1))∧W.cell? ⟨gb,1,none⟩=some (.int .i64 (d.2 - c.2))∧W.cell? ⟨ga,0,none⟩=some (.int .i64 (b.1 - a.1))∧W.cell? ⟨ga,1,none⟩=some (.int .i64 (b.2 - a.2)):=by intro W h;obtain⟨hs,B1,B5,Blk,B2,B3⟩:=(HP _).1 h;exact⟨B1.at 0 rfl,B1.at 1 rfl,B1.at 2 rfl,B1.at 3 rfl,B5.at 0 rfl,B5.at 1 rfl,B5.at 2 rfl,B5.at 3 rfl,B3.at 0 rfl,B3.at 1 rfl,B2.at 0 rfl,B2.at 1 rfl⟩
   obtain⟨NE,HN⟩:∃NE:Nat→Prop,∀g,NE g↔(w.heap.size≠g∧(w.heap.size + 1)≠g∧(w.heap.size + 1 + 1)≠g∧ga≠g∧gb≠g):=⟨_,fun _=>Iff.rfl⟩
   have HE:∀W,FP W→NE W.heap.size:=by intro W h;obtain⟨hs,B1,B5,Blk,B2,B3⟩:=(HP _).1 h;exact (HN _).2 (⟨Nat.ne_of_lt B1.lt,Nat.ne_of_lt B5.lt,Nat.ne_of_lt Blk.lt,Nat.ne_of_lt B2.lt,Nat.ne_of_lt B3.lt⟩)
   have HG:∀W W' g,FP W→Gr [g] W W'→aw W W'→w.heap.size≤g→NE g→FP W':=by intro W W' g h hG hk hg hn;obtain⟨hs,B1,B5,Blk,B2,B3⟩:=(HP _).1 h;obtain⟨e_e,e_f,e_k,e_a,e_b⟩:=(HN g).1 hn;exact (HP _).2 ⟨hs.trans (hG.below1 hs.size hg),hG.bx B1 (az e_e),hG.bx B5 (az e_f),hG.bx Blk (az e_k),hG.bx B2 (az e_a),hG.bx B3 (az e_b)⟩
   have F:FP w3:=(HP _).2 ⟨hs,B1,B5,Blk,B2,B3⟩
   clear hs B1 B5 Blk B2 B3
   have hH:=HC _ F
   refine U_td 0 30 hH ?_
   refine U_td 1 31 hH ?_
   refine U_td 2 32 hH ?_
   refine U_td 4 34 hH ?_
   refine U_td 5 35 hH ?_
   refine U_td 6 36 hH ?_
   refine U_td 7 37 hH ?_
   refine U_td 9 39 hH ?_
   refine U_td 11 41 hH ?_
   refine U_td 13 43 hH ?_
   refine U_td 14 44 hH ?_
   clear hH
   refine ks ?_
   intro X a0 HX HA
   have Df:∀(W:World) (Bb:Nat) (Ba:Value) (Bh:Value) (Bs:Value) (Cb:Value) (Cw:Value),FP W→(w.heap.size≤Bb)→(NE Bb)→(Bx W Bb 37 #[.bool false,.slice none 0 0,.slice none 0 0])→(PV W Cw ((((a.1:Int):Rat)) + (((((c.1 - a.1) * (d.2 - c.2) - (c.2 - a.2) * (d.1 - c.1):Int):Rat) / ((Ci:Int):Rat)) * (((b.1 - a.1:Int):Rat)))))→X 1 (LB 20 524287) ((((((((a0.put (some 33) (Ba)).put (some 38) (.agg #[.int .i64 (c.1 - a.1),.int .i64 (c.2 - a.2)])).put (some 40) (.int .i64 ((c.1 - a.1) * (d.2 - c.2) - (c.2 - a.2) * (d.1 - c.1)))).put (some 42) (Bh)).put (some 45) (Bs)).put (some 46) (Cb)).put (some 47) (Cw)).put (some 9) (.pointer (some ⟨Bb,0,none⟩))) W:=by
    intro W Bb Ba Bh Bs Cb Cw F Bg Bf B4 h7
    rw[←HX.out,←HA.out]
    try simp only[LY]
    obtain⟨C8,C5,C7,C6,C2,C4,C3,rfl⟩:=h7.shape
    refine B4.k3fl fun B7 B8 B9 fx Lx=>?_
    refine dr (by kernel_rfl) rfl (by kernel_rfl) (fun K hK=>?_)
    go_simp
    refine hK.out _ _ ?_
    clear hK K
    intro w4 hW
    have hG:Gr [Bb] W w4:=by rw[hW];exact (Gr.refl _ _).set.set.set
    have hk:=hG.keep ⟨⟨_,B4.ty,by decide⟩,True.intro⟩
    replace B4:Bx w4 (Bb) 37 #[.bool C8,.slice C5 C7 C6,.slice C2 C4 C3]:=by rw[hW];exact B4.set3
    replace F:=HG _ _ _ F hG hk Bg Bf
    replace h7:=h7.keep hk
    clear hW hG hk
    obtain⟨hs,B1,B5,Blk,B2,B3⟩:=(HP _).1 F
    try simp only[LY]
    obtain⟨e_e_x,e_f_x,e_k_x,e_a_x,e_b_x⟩:=(HN _).1 Bf
    clear HX HA HM HP HC HG HN HE
    go_wp2_with fail
    go_meet
    exact⟨Bb,_,_,_,_,_,_,_,rfl,(by first|exact Bg|omega),(by omega),(by omega),(by omega),(by omega),(by omega),B4,hs,B1,B5,Blk,B2,B3,h7⟩
   replace Df:=ae Df
   have De:∀(W:World) (Bb:Nat) (Ba:Value) (Bh:Value) (Bs:Value) (Cb:Value),FP W→(w.heap.size≤Bb)→(NE Bb)→(Bx W Bb 37 #[.bool false,.slice none 0 0,.slice none 0 0])→(PV W Ba (((a.1:Int):Rat)))→(PV W Cb (((((c.1 - a.1) * (d.2 - c.2) - (c.2 - a.2) * (d.1 - c.1):Int):Rat) / ((Ci:Int):Rat)) * (((b.1 - a.1:Int):Rat))))→X 2 (LB 20 393215) (((((((a0.put (some 33) (Ba)).put (some 38) (.agg #[.int .i64 (c.1 - a.1),.int .i64 (c.2 - a.2)])).put (some 40) (.int .i64 ((c.1 - a.1) * (d.2 - c.2) - (c.2 - a.2) * (d.1 - c.1)))).put (some 42) (Bh)).put (some 45) (Bs)).put (some 46) (Cb)).put (some 9) (.pointer (some ⟨Bb,0,none⟩))) W:=by
    intro W Bb Ba Bh Bs Cb F Bg Bf B4 h3 h6
    rw[←HX.out,←HA.out]
    try simp only[LY]
    refine U_on 17 fun K hK=>?_
    obtain⟨hs,B1,B5,Blk,B2,B3⟩:=(HP _).1 F
    go_simp
    (with_reducible refine (yi h3 h6 (SzQ.fit (szN (ha.1.mono (by decide)))) (SzQ.fit (SzQ.mul (szD ((Wn.sub (Wn.mul (Wn.sub hc.1 ha.1) (Wn.sub hd.2 hc.2)) (Wn.mul (Wn.sub hc.2 ha.2) (Wn.sub hd.1 hc.1))).mono (by decide)) (Dc.mono (by decide)) (by have:=D2.out;omega)) (szN ((Wn.sub hb.1 ha.1).mono (by decide)))))).mono ?_)
    rintro e W1 ⟨Cw,rfl,h7,hb⟩
    replace F:=HM _ _ F hb
    revert B4 h3 h6;refine mo hb ?_;intro B4 h3 h6
    clear hb hs B1 B5 Blk B2 B3
    try go_wp2_with fail
    exact hK.out _ _ (HC _ F) fun _=>bf HX HA (Df.out W1 Bb Ba Bh Bs Cb Cw F Bg Bf B4 h7)
   replace De:=ae De
   have Dn:∀(W:World) (Ba:Value) (Bh:Value) (Bs:Value) (Cb:Value) (Cw:Value),FP W→(PV W Cw ((((a.1:Int):Rat)) + (((((c.1 - a.1) * (d.2 - c.2) - (c.2 - a.2) * (d.1 - c.1):Int):Rat) / ((Ci:Int):Rat)) * (((b.1 - a.1:Int):Rat)))))→X 2 (LB 20 262143) (((((((a0.put (some 33) (Ba)).put (some 38) (.agg #[.int .i64 (c.1 - a.1),.int .i64 (c.2 - a.2)])).put (some 40) (.int .i64 ((c.1 - a.1) * (d.2 - c.2) - (c.2 - a.2) * (d.1 - c.1)))).put (some 42) (Bh)).put (some 45) (Bs)).put (some 46) (Cb)).put (some 47) (Cw)) W:=by
    intro W Ba Bh Bs Cb Cw F h7
    rw[←HX.out,←HA.out]
    try simp only[LY]
    refine U_on 18 fun K hK=>?_
    go_simp
    refine aq ((HP _).1 F).1 (fun W1 hb B4 Bg=>?_)
    have Bf:=HE _ F
    replace F:=HM _ _ F hb
    replace h7:=h7.mono hb
    clear hb
    exact hK.out _ _ (HC _ F) fun _=>bf HX HA (Df.out W1 W.heap.size Ba Bh Bs Cb Cw F Bg Bf B4 h7)
   replace Dn:=ae Dn
   have Dd:∀(W:World) (Bb:Nat) (Ba:Value) (Bh:Value) (Bs:Value),FP W→(w.heap.size≤Bb)→(NE Bb)→(Bx W Bb 37 #[.bool false,.slice none 0 0,.slice none 0 0])→(PV W Ba (((a.1:Int):Rat)))→(PV W Bh ((((c.1 - a.1) * (d.2 - c.2) - (c.2 - a.2) * (d.1 - c.1):Int):Rat) / ((Ci:Int):Rat)))→(PV W Bs (((b.1 - a.1:Int):Rat)))→X 3 (LB 20 327679) ((((((a0.put (some 33) (Ba)).put (some 38) (.agg #[.int .i64 (c.1 - a.1),.int .i64 (c.2 - a.2)])).put (some 40) (.int .i64 ((c.1 - a.1) * (d.2 - c.2) - (c.2 - a.2) * (d.1 - c.1)))).put (some 42) (Bh)).put (some 45) (Bs)).put (some 9) (.pointer (some ⟨Bb,0,none⟩))) W:=by
    intro W Bb Ba Bh Bs F Bg Bf B4 h3 h4 h5
    rw[←HX.out,←HA.out]
    try simp only[LY]
    refine U_on 16 fun K hK=>?_
    obtain⟨hs,B1,B5,Blk,B2,B3⟩:=(HP _).1 F
    go_simp
    (with_reducible refine (pMul h4 h5 (SzQ.fit (szD ((Wn.sub (Wn.mul (Wn.sub hc.1 ha.1) (Wn.sub hd.2 hc.2)) (Wn.mul (Wn.sub hc.2 ha.2) (Wn.sub hd.1 hc.1))).mono (by decide)) (Dc.mono (by decide)) (by have:=D2.out;omega))) (SzQ.fit (szN ((Wn.sub hb.1 ha.1).mono (by decide))))).mono ?_)
    rintro e W1 ⟨Cb,rfl,h6,hb⟩
    replace F:=HM _ _ F hb
    revert B4 h3 h4 h5;refine mo hb ?_;intro B4 h3 h4 h5
    clear hb hs B1 B5 Blk B2 B3
    try go_wp2_with fail
    exact hK.out _ _ (HC _ F) fun _=>bf HX HA (De.out W1 Bb Ba Bh Bs Cb F Bg Bf B4 h3 h6)
   replace Dd:=ae Dd
   have Cl:∀(W:World) (Ba:Value) (Bh:Value) (Bs:Value) (Cb:Value),FP W→(PV W Ba (((a.1:Int):Rat)))→(PV W Cb (((((c.1 - a.1) * (d.2 - c.2) - (c.2 - a.2) * (d.1 - c.1):Int):Rat) / ((Ci:Int):Rat)) * (((b.1 - a.1:Int):Rat))))→X 3 (LB 20 131071) ((((((a0.put (some 33) (Ba)).put (some 38) (.agg #[.int .i64 (c.1 - a.1),.int .i64 (c.2 - a.2)])).put (some 40) (.int .i64 ((c.1 - a.1) * (d.2 - c.2) - (c.2 - a.2) * (d.1 - c.1)))).put (some 42) (Bh)).put (some 45) (Bs)).put (some 46) (Cb)) W:=by
    intro W Ba Bh Bs Cb F h3 h6
    rw[←HX.out,←HA.out]
    try simp only[LY]
    refine dq (i:=17) (j:=18) (by kernel_rfl) rfl rfl  (fun K hK=>?_) (fun K hK=>?_)
    ·obtain⟨hs,B1,B5,Blk,B2,B3⟩:=(HP _).1 F
     go_simp
     (with_reducible refine (yi h3 h6 (SzQ.fit (szN (ha.1.mono (by decide)))) (SzQ.fit (SzQ.mul (szD ((Wn.sub (Wn.mul (Wn.sub hc.1 ha.1) (Wn.sub hd.2 hc.2)) (Wn.mul (Wn.sub hc.2 ha.2) (Wn.sub hd.1 hc.1))).mono (by decide)) (Dc.mono (by decide)) (by have:=D2.out;omega)) (szN ((Wn.sub hb.1 ha.1).mono (by decide)))))).mono ?_)
     rintro e W1 ⟨Cw,rfl,h7,hb⟩
     replace F:=HM _ _ F hb
     revert h3 h6;refine mo hb ?_;intro h3 h6
     clear hb hs B1 B5 Blk B2 B3
     try go_wp2_with fail
     exact hK.out _ _ (HC _ F) fun _=>bf HX HA (Dn.out W1 Ba Bh Bs Cb Cw F h7)
    go_simp
    refine aq ((HP _).1 F).1 (fun W1 hb B4 Bg=>?_)
    have Bf:=HE _ F
    replace F:=HM _ _ F hb
    revert h3 h6;refine mo hb ?_;intro h3 h6
    clear hb
    exact hK.out _ _ (HC _ F) fun _=>bf HX HA (De.out W1 W.heap.size Ba Bh Bs Cb F Bg Bf B4 h3 h6)
   replace Cl:=ae Cl
   have Ch:∀(W:World) (Bb:Nat) (Ba:Value) (Bh:Value),FP W→(w.heap.size≤Bb)→(NE Bb)→(Bx W Bb 37 #[.bool false,.slice none 0 0,.slice none 0 0])→(PV W Ba (((a.1:Int):Rat)))→(PV W Bh ((((c.1 - a.1) * (d.2 - c.2) - (c.2 - a.2) * (d.1 - c.1):Int):Rat) / ((Ci:Int):Rat)))→X 4 (LB 20 294911) (((((a0.put (some 33) (Ba)).put (some 38) (.agg #[.int .i64 (c.1 - a.1),.int .i64 (c.2 - a.2)])).put (some 40) (.int .i64 ((c.1 - a.1) * (d.2 - c.2) - (c.2 - a.2) * (d.1 - c.1)))).put (some 42) (Bh)).put (some 9) (.pointer (some ⟨Bb,0,none⟩))) W:=by
    intro W Bb Ba Bh F Bg Bf B4 h3 h4
    rw[←HX.out,←HA.out]
    try simp only[LY]
    refine U_on 15 fun K hK=>?_
    obtain⟨hs,B1,B5,Blk,B2,B3⟩:=(HP _).1 F
    go_simp
    (with_reducible refine (fh (b.1 - a.1) _ ((Wn.sub hb.1 ha.1).mono (by decide))).mono ?_)
    rintro e W1 ⟨Bs,rfl,h5,hb⟩
    replace F:=HM _ _ F hb
    revert B4 h3 h4;refine mo hb ?_;intro B4 h3 h4
    clear hb hs B1 B5 Blk B2 B3
    try go_wp2_with fail
    exact hK.out _ _ (HC _ F) fun _=>bf HX HA (Dd.out W1 Bb Ba Bh Bs F Bg Bf B4 h3 h4 h5)
   replace Ch:=ae Ch
   have D1:∀(W:World) (Ba:Value) (Bh:Value) (Bs:Value),FP W→(PV W Ba (((a.1:Int):Rat)))→(PV W Bh ((((c.1 - a.1) * (d.2 - c.2) - (c.2 - a.2) * (d.1 - c.1):Int):Rat) / ((Ci:Int):Rat)))→(PV W Bs (((b.1 - a.1:Int):Rat)))→X 4 (LB 20 65535) (((((a0.put (some 33) (Ba)).put (some 38) (.agg #[.int .i64 (c.1 - a.1),.int .i64 (c.2 - a.2)])).put (some 40) (.int .i64 ((c.1 - a.1) * (d.2 - c.2) - (c.2 - a.2) * (d.1 - c.1)))).put (some 42) (Bh)).put (some 45) (Bs)) W:=by
    intro W Ba Bh Bs F h3 h4 h5
    rw[←HX.out,←HA.out]
    try simp only[LY]
    refine dq (i:=16) (j:=18) (by kernel_rfl) rfl rfl  (fun K hK=>?_) (fun K hK=>?_)
    ·obtain⟨hs,B1,B5,Blk,B2,B3⟩:=(HP _).1 F
     go_simp
     (with_reducible refine (pMul h4 h5 (SzQ.fit (szD ((Wn.sub (Wn.mul (Wn.sub hc.1 ha.1) (Wn.sub hd.2 hc.2)) (Wn.mul (Wn.sub hc.2 ha.2) (Wn.sub hd.1 hc.1))).mono (by decide)) (Dc.mono (by decide)) (by have:=D2.out;omega))) (SzQ.fit (szN ((Wn.sub hb.1 ha.1).mono (by decide))))).mono ?_)
     rintro e W1 ⟨Cb,rfl,h6,hb⟩
     replace F:=HM _ _ F hb
     revert h3 h4 h5;refine mo hb ?_;intro h3 h4 h5
     clear hb hs B1 B5 Blk B2 B3
     try go_wp2_with fail
     exact hK.out _ _ (HC _ F) fun _=>bf HX HA (Cl.out W1 Ba Bh Bs Cb F h3 h6)
    go_simp
    refine aq ((HP _).1 F).1 (fun W1 hb B4 Bg=>?_)
    have Bf:=HE _ F
    replace F:=HM _ _ F hb
    revert h3 h4 h5;refine mo hb ?_;intro h3 h4 h5
    clear hb
    exact hK.out _ _ (HC _ F) fun _=>bf HX HA (Dd.out W1 W.heap.size Ba Bh Bs F Bg Bf B4 h3 h4 h5)
   replace D1:=ae D1
   have Ct:∀(W:World) (Bb:Nat) (Ba:Value),FP W→(w.heap.size≤Bb)→(NE Bb)→(Bx W Bb 37 #[.bool false,.slice none 0 0,.slice none 0 0])→(PV W Ba (((a.1:Int):Rat)))→X 5 (LB 20 290815) ((((a0.put (some 33) (Ba)).put (some 38) (.agg #[.int .i64 (c.1 - a.1),.int .i64 (c.2 - a.2)])).put (some 40) (.int .i64 ((c.1 - a.1) * (d.2 - c.2) - (c.2 - a.2) * (d.1 - c.1)))).put (some 9) (.pointer (some ⟨Bb,0,none⟩))) W:=by
    intro W Bb Ba F Bg Bf B4 h3
    rw[←HX.out,←HA.out]
    try simp only[LY]
    refine U_on 12 fun K hK=>?_
    obtain⟨hs,B1,B5,Blk,B2,B3⟩:=(HP _).1 F
    go_simp
    (with_reducible refine (ja9 ((c.1 - a.1) * (d.2 - c.2) - (c.2 - a.2) * (d.1 - c.1)) Ci _ ((Wn.sub (Wn.mul (Wn.sub hc.1 ha.1) (Wn.sub hd.2 hc.2)) (Wn.mul (Wn.sub hc.2 ha.2) (Wn.sub hd.1 hc.1))).mono (by decide)) (Dc.mono (by decide)) (by have:=D2.out;omega)).mono ?_)
    rintro e W1 ⟨Bh,rfl,h4,hb⟩
    replace F:=HM _ _ F hb
    revert B4 h3;refine mo hb ?_;intro B4 h3
    clear hb hs B1 B5 Blk B2 B3
    try go_wp2_with fail
    exact hK.out _ _ (HC _ F) fun _=>bf HX HA (Ch.out W1 Bb Ba Bh F Bg Bf B4 h3 h4)
   replace Ct:=ae Ct
   have D0:∀(W:World) (Ba:Value) (Bh:Value),FP W→(PV W Ba (((a.1:Int):Rat)))→(PV W Bh ((((c.1 - a.1) * (d.2 - c.2) - (c.2 - a.2) * (d.1 - c.1):Int):Rat) / ((Ci:Int):Rat)))→X 5 (LB 20 32767) ((((a0.put (some 33) (Ba)).put (some 38) (.agg #[.int .i64 (c.1 - a.1),.int .i64 (c.2 - a.2)])).put (some 40) (.int .i64 ((c.1 - a.1) * (d.2 - c.2) - (c.2 - a.2) * (d.1 - c.1)))).put (some 42) (Bh)) W:=by
    intro W Ba Bh F h3 h4
    rw[←HX.out,←HA.out]
    try simp only[LY]
    refine dq (i:=15) (j:=18) (by kernel_rfl) rfl rfl  (fun K hK=>?_) (fun K hK=>?_)
    ·obtain⟨hs,B1,B5,Blk,B2,B3⟩:=(HP _).1 F
     go_simp
     (with_reducible refine (fh (b.1 - a.1) _ ((Wn.sub hb.1 ha.1).mono (by decide))).mono ?_)
     rintro e W1 ⟨Bs,rfl,h5,hb⟩
     replace F:=HM _ _ F hb
     revert h3 h4;refine mo hb ?_;intro h3 h4
     clear hb hs B1 B5 Blk B2 B3
     try go_wp2_with fail
     exact hK.out _ _ (HC _ F) fun _=>bf HX HA (D1.out W1 Ba Bh Bs F h3 h4 h5)
    go_simp
    refine aq ((HP _).1 F).1 (fun W1 hb B4 Bg=>?_)
    have Bf:=HE _ F
    replace F:=HM _ _ F hb
    revert h3 h4;refine mo hb ?_;intro h3 h4
    clear hb
    exact hK.out _ _ (HC _ F) fun _=>bf HX HA (Ch.out W1 W.heap.size Ba Bh F Bg Bf B4 h3 h4)
   replace D0:=ae D0
   have Cs:∀(W:World) (Bb:Nat) (Ba:Value),FP W→(w.heap.size≤Bb)→(NE Bb)→(Bx W Bb 37 #[.bool false,.slice none 0 0,.slice none 0 0])→(PV W Ba (((a.1:Int):Rat)))→X 6 (LB 20 289791) (((a0.put (some 33) (Ba)).put (some 38) (.agg #[.int .i64 (c.1 - a.1),.int .i64 (c.2 - a.2)])).put (some 9) (.pointer (some ⟨Bb,0,none⟩))) W:=by
    intro W Bb Ba F Bg Bf B4 h3
    rw[←HX.out,←HA.out]
    try simp only[LY]
    refine U_on 10 fun K hK=>?_
    obtain⟨hs,B1,B5,Blk,B2,B3⟩:=(HP _).1 F
    go_simp
    (with_reducible refine (pg (c.1 - a.1) (c.2 - a.2) (d.1 - c.1) (d.2 - c.2) _ (Wn.wmul (Wn.sub hc.1 ha.1) (Wn.sub hd.2 hc.2) (by decide)) (Wn.wmul (Wn.sub hc.2 ha.2) (Wn.sub hd.1 hc.1) (by decide)) (Wn.wsub (Wn.mul (Wn.sub hc.1 ha.1) (Wn.sub hd.2 hc.2)) (Wn.mul (Wn.sub hc.2 ha.2) (Wn.sub hd.1 hc.1)) (by decide))).mono ?_)
    rintro e W1 ⟨rfl,hb⟩
    replace F:=HM _ _ F hb
    revert B4 h3;refine mo hb ?_;intro B4 h3
    clear hb hs B1 B5 Blk B2 B3
    try go_wp2_with fail
    exact hK.out _ _ (HC _ F) fun _=>bf HX HA (Ct.out W1 Bb Ba F Bg Bf B4 h3)
   replace Cs:=ae Cs
   have Cz:∀(W:World) (Ba:Value),FP W→(PV W Ba (((a.1:Int):Rat)))→X 6 (LB 20 28671) (((a0.put (some 33) (Ba)).put (some 38) (.agg #[.int .i64 (c.1 - a.1),.int .i64 (c.2 - a.2)])).put (some 40) (.int .i64 ((c.1 - a.1) * (d.2 - c.2) - (c.2 - a.2) * (d.1 - c.1)))) W:=by
    intro W Ba F h3
    rw[←HX.out,←HA.out]
    try simp only[LY]
    refine dq (i:=12) (j:=18) (by kernel_rfl) rfl rfl  (fun K hK=>?_) (fun K hK=>?_)
    ·obtain⟨hs,B1,B5,Blk,B2,B3⟩:=(HP _).1 F
     go_simp
     (with_reducible refine (ja9 ((c.1 - a.1) * (d.2 - c.2) - (c.2 - a.2) * (d.1 - c.1)) Ci _ ((Wn.sub (Wn.mul (Wn.sub hc.1 ha.1) (Wn.sub hd.2 hc.2)) (Wn.mul (Wn.sub hc.2 ha.2) (Wn.sub hd.1 hc.1))).mono (by decide)) (Dc.mono (by decide)) (by have:=D2.out;omega)).mono ?_)
     rintro e W1 ⟨Bh,rfl,h4,hb⟩
     replace F:=HM _ _ F hb
     replace h3:=h3.mono hb
     clear hb hs B1 B5 Blk B2 B3
     try go_wp2_with fail
     exact hK.out _ _ (HC _ F) fun _=>bf HX HA (D0.out W1 Ba Bh F h3 h4)
    go_simp
    refine aq ((HP _).1 F).1 (fun W1 hb B4 Bg=>?_)
    have Bf:=HE _ F
    replace F:=HM _ _ F hb
    replace h3:=h3.mono hb
    clear hb
    exact hK.out _ _ (HC _ F) fun _=>bf HX HA (Ct.out W1 W.heap.size Ba F Bg Bf B4 h3)
   replace Cz:=ae Cz
   have Cy:∀(W:World) (Bb:Nat) (Ba:Value),FP W→(w.heap.size≤Bb)→(NE Bb)→(Bx W Bb 37 #[.bool false,.slice none 0 0,.slice none 0 0])→(PV W Ba (((a.1:Int):Rat)))→X 7 (LB 20 289535) ((a0.put (some 33) (Ba)).put (some 9) (.pointer (some ⟨Bb,0,none⟩))) W:=by
    intro W Bb Ba F Bg Bf B4 h3
    rw[←HX.out,←HA.out]
    try simp only[LY]
    refine U_on 8 fun K hK=>?_
    obtain⟨hs,B1,B5,Blk,B2,B3⟩:=(HP _).1 F
    go_simp
    (with_reducible refine (di c.1 c.2 a.1 a.2 _ (Wn.wsub hc.1 ha.1 (by decide)) (Wn.wsub hc.2 ha.2 (by decide))).mono ?_)
    rintro e W1 ⟨rfl,hb⟩
    replace F:=HM _ _ F hb
    revert B4 h3;refine mo hb ?_;intro B4 h3
    clear hb hs B1 B5 Blk B2 B3
    try go_wp2_with fail
    exact hK.out _ _ (HC _ F) fun _=>bf HX HA (Cs.out W1 Bb Ba F Bg Bf B4 h3)
   replace Cy:=ae Cy
   have D6:∀(W:World) (Ba:Value),FP W→(PV W Ba (((a.1:Int):Rat)))→X 7 (LB 20 27647) ((a0.put (some 33) (Ba)).put (some 38) (.agg #[.int .i64 (c.1 - a.1),.int .i64 (c.2 - a.2)])) W:=by
    intro W Ba F h3
    rw[←HX.out,←HA.out]
    try simp only[LY]
    refine dq (i:=10) (j:=18) (by kernel_rfl) rfl rfl  (fun K hK=>?_) (fun K hK=>?_)
    ·obtain⟨hs,B1,B5,Blk,B2,B3⟩:=(HP _).1 F
     go_simp
     (with_reducible refine (pg (c.1 - a.1) (c.2 - a.2) (d.1 - c.1) (d.2 - c.2) _ (Wn.wmul (Wn.sub hc.1 ha.1) (Wn.sub hd.2 hc.2) (by decide)) (Wn.wmul (Wn.sub hc.2 ha.2) (Wn.sub hd.1 hc.1) (by decide)) (Wn.wsub (Wn.mul (Wn.sub hc.1 ha.1) (Wn.sub hd.2 hc.2)) (Wn.mul (Wn.sub hc.2 ha.2) (Wn.sub hd.1 hc.1)) (by decide))).mono ?_)
     rintro e W1 ⟨rfl,hb⟩
     replace F:=HM _ _ F hb
     replace h3:=h3.mono hb
     clear hb hs B1 B5 Blk B2 B3
     try go_wp2_with fail
     exact hK.out _ _ (HC _ F) fun _=>bf HX HA (Cz.out W1 Ba F h3)
    go_simp
    refine aq ((HP _).1 F).1 (fun W1 hb B4 Bg=>?_)
    have Bf:=HE _ F
    replace F:=HM _ _ F hb
    replace h3:=h3.mono hb
    clear hb
    exact hK.out _ _ (HC _ F) fun _=>bf HX HA (Cs.out W1 W.heap.size Ba F Bg Bf B4 h3)
   replace D6:=ae D6
   have D5:∀(W:World) (Bb:Nat),FP W→(w.heap.size≤Bb)→(NE Bb)→(Bx W Bb 37 #[.bool false,.slice none 0 0,.slice none 0 0])→X 8 (LB 20 289527) (a0.put (some 9) (.pointer (some ⟨Bb,0,none⟩))) W:=by
    intro W Bb F Bg Bf B4
    rw[←HX.out,←HA.out]
    try simp only[LY]
    refine U_on 3 fun K hK=>?_
    obtain⟨hs,B1,B5,Blk,B2,B3⟩:=(HP _).1 F
    go_simp
    (with_reducible refine (fh a.1 _ (ha.1.mono (by decide))).mono ?_)
    rintro e W1 ⟨Ba,rfl,h3,hb⟩
    replace F:=HM _ _ F hb
    replace B4:=B4.mono hb
    clear hb hs B1 B5 Blk B2 B3
    try go_wp2_with fail
    exact hK.out _ _ (HC _ F) fun _=>bf HX HA (Cy.out W1 Bb Ba F Bg Bf B4 h3)
   replace D5:=ae D5
   have D4:∀(W:World) (Ba:Value),FP W→(PV W Ba (((a.1:Int):Rat)))→X 8 (LB 20 27391) (a0.put (some 33) (Ba)) W:=by
    intro W Ba F h3
    rw[←HX.out,←HA.out]
    try simp only[LY]
    refine dq (i:=8) (j:=18) (by kernel_rfl) rfl rfl  (fun K hK=>?_) (fun K hK=>?_)
    ·obtain⟨hs,B1,B5,Blk,B2,B3⟩:=(HP _).1 F
     go_simp
     (with_reducible refine (di c.1 c.2 a.1 a.2 _ (Wn.wsub hc.1 ha.1 (by decide)) (Wn.wsub hc.2 ha.2 (by decide))).mono ?_)
     rintro e W1 ⟨rfl,hb⟩
     replace F:=HM _ _ F hb
     replace h3:=h3.mono hb
     clear hb hs B1 B5 Blk B2 B3
     try go_wp2_with fail
     exact hK.out _ _ (HC _ F) fun _=>bf HX HA (D6.out W1 Ba F h3)
    go_simp
    refine aq ((HP _).1 F).1 (fun W1 hb B4 Bg=>?_)
    have Bf:=HE _ F
    replace F:=HM _ _ F hb
    replace h3:=h3.mono hb
    clear hb
    exact hK.out _ _ (HC _ F) fun _=>bf HX HA (Cy.out W1 W.heap.size Ba F Bg Bf B4 h3)
   replace D4:=ae D4
   have D3:∀(W:World),FP W→X 9 (LB 20 27383) a0 W:=by
    intro W F
    rw[←HX.out,←HA.out]
    try simp only[LY]
    refine dq (i:=3) (j:=18) (by kernel_rfl) rfl rfl  (fun K hK=>?_) (fun K hK=>?_)
    ·obtain⟨hs,B1,B5,Blk,B2,B3⟩:=(HP _).1 F
     go_simp
     (with_reducible refine (fh a.1 _ (ha.1.mono (by decide))).mono ?_)
     rintro e W1 ⟨Ba,rfl,h3,hb⟩
     replace F:=HM _ _ F hb
     clear hb hs B1 B5 Blk B2 B3
     try go_wp2_with fail
     exact hK.out _ _ (HC _ F) fun _=>bf HX HA (D4.out W1 Ba F h3)
    go_simp
    refine aq ((HP _).1 F).1 (fun W1 hb B4 Bg=>?_)
    have Bf:=HE _ F
    replace F:=HM _ _ F hb
    clear hb
    exact hK.out _ _ (HC _ F) fun _=>bf HX HA (D5.out W1 W.heap.size F Bg Bf B4)
   replace D3:=ae D3
   rw[←HX.out]
   have B0:=D3.out w3 F
   rw[←HX.out] at B0
   exact U_at (by kernel_rfl) (by kernel_rfl) B0
  case rest=>
   clear hs B1 B5 Blk B2 B3
   obtain⟨gx,C8,C5,C7,C6,C2,C4,C3,rfl,hg_x,ng_x_e,ng_x_f,ng_x_k,ng_x_a,ng_x_b,B4,hs,B1,B5,Blk,B2,B3,h7⟩:=hcut
   replace h7:=h7.of_eq (show _=crX (a,b) (c,d) from by rw[Cx.out];rfl)
   have SX:SzQ 7 (crX (a,b) (c,d)):=crX_sz ha hb hc hd (fun h=>D2.out (Cx.out.trans h))
   refine B1.k4l fun Bt Bu Bv Bw Le=>?_
   refine B5.k4l fun Ej Ek El Em Lf=>?_
   go_wp2
   clear Bt Bu Bv Bw Ej Ek El Em Le Lf
   go_loopw [51] (fun s51 wq=>∃k:Nat,k≤2∧s51=.int .i64 k∧Below w.heap.size w wq∧Bx wq (w.heap.size) 69 #[.int .i64 a.1,.int .i64 a.2,.int .i64 b.1,.int .i64 b.2]∧Bx wq (w.heap.size + 1) 69 #[.int .i64 c.1,.int .i64 c.2,.int .i64 d.1,.int .i64 d.2]∧Bx wq (w.heap.size + 1 + 1) 37 #[.bool false,.slice none 0 0,.slice none 0 0]∧Bx wq (ga) 24 #[.int .i64 (b.1 - a.1),.int .i64 (b.2 - a.2)]∧Bx wq (gb) 24 #[.int .i64 (d.1 - c.1),.int .i64 (d.2 - c.2)]∧Bx wq (gx) 37 #[.bool C8,.slice C5 C7 C6,.slice C2 C4 C3]∧PV wq (.agg #[.bool C8,.slice C5 C7 C6,.slice C2 C4 C3]) (crX (a,b) (c,d))∧((1≤k→inE (a,b) (crX (a,b) (c,d))=true))∧((2≤k→inE (c,d) (crX (a,b) (c,d))=true))) (fun s51 _=>2 - (intOf s51).toNat)
   case atStart=>exact⟨0,Nat.zero_le _,rfl,hs,B1,B5,Blk,B2,B3,B4,h7,(fun h=>absurd h (by omega)),(fun h=>absurd h (by omega))⟩
   case round=>
    clear B1 B5 Blk B2 B3 B4 h7 hs
    obtain⟨k,k_le,rfl,hs,B1,B5,Blk,B2,B3,B4,h7,Dz,HQ1⟩:=hrel
    replace Dz:=ae Dz
    replace HQ1:=ae HQ1
    by_cases q8:k < 2
    ·have q8d:((k:Int) < 2)=True:=eq_true (by omega)
     rcases (show k=0∨k=1 by omega) with rfl|rfl
     ·have IX_:∀w:World,(Instr.index 177 (.agg #[.int .i64 a.1,.int .i64 a.2,.int .i64 b.1,.int .i64 b.2,.int .i64 c.1,.int .i64 c.2,.int .i64 d.1,.int .i64 d.2]) (.int .i64 0)).run Tryz.prog w=.ok (.agg #[.int .i64 a.1,.int .i64 a.2,.int .i64 b.1,.int .i64 b.2]) w:=fun _=>by rfl
      go_wp2_with fail
      refine Calls.abs ?_
      intro Ce hW
      have hG:Gr [] wr Ce:=by rw[hW];exact (Gr.refl _ _).alloc
      have Eg:=hs.size
      have Ec:=B1.lt
      have Ed:=B5.lt
      have Ee:=Blk.lt
      have Ea:=B2.lt
      have Eb:=B3.lt
      have Ef:=B4.lt
      have Be:Bx Ce (wr.heap.size) 69 #[.int .i64 a.1,.int .i64 a.2,.int .i64 b.1,.int .i64 b.2]:=by rw[hW];exact (Bx.new0 _ _ _)
      replace hs:=hs.trans (hG.below0 hs.size)
      revert h7;revert B4;revert B3;revert B2;revert Blk;revert B5;revert B1;refine g0 hG ?_;intro B1 B5 Blk B2 B3 B4 h7
      clear hW hG
      have E9:=Be.lt
      with_reducible refine (ed_ends a b _).mono ?_
      rintro e w24 ⟨rfl,hb⟩
      revert Be B1 B5 Blk B2 B3 B4 h7;refine mS hs hb ?_;clear hs hb;intro hs Be B1 B5 Blk B2 B3 B4 h7
      obtain⟨Cm,Cf⟩:∃z:Int,z=min a.1 b.1:=⟨_,rfl⟩
      rw[←Cf]
      have Cr:Wn 268435456 Cm:=by rw[Cf];exact Wn.min (ha.1.mono (by decide)) (hb.1.mono (by decide))
      replace Cf:=ae Cf
      obtain⟨Cg,C9⟩:∃z:Int,z=max a.1 b.1:=⟨_,rfl⟩
      rw[←C9]
      have Db:Wn 268435456 Cg:=by rw[C9];exact Wn.max (ha.1.mono (by decide)) (hb.1.mono (by decide))
      replace C9:=ae C9
      go_upto_region 10 with fail
      obtain⟨Cu,Ca⟩:∃s:Int,s=sgQ ((crX (a,b) (c,d)) - (((Cm:Int):Rat))):=⟨_,rfl⟩
      replace Ca:=ae Ca
      by_cases q13:crX (a,b) (c,d) < ((Cm:Int):Rat)
      ·have D8:Cu < 0:=by have h:=qg (crX (a,b) (c,d)) (((Cm:Int):Rat));rw[←Ca.out] at h;exact h.2 q13
       have D7:=ae q13
       clear q13
       have Du:decide (Cu < 0)=true:=decide_eq_true D8
       refine bw (S:=fun w'=>w'.cell? ⟨gx,0,none⟩=some (.bool C8)∧w'.cell? ⟨gx,1,none⟩=some (.slice C5 C7 C6)∧w'.cell? ⟨gx,2,none⟩=some (.slice C2 C4 C3)) (by kernel_rfl) 12 ?_
       refine cq.abs ?_
       intro Br hW
       have hb:Below w24.heap.size w24 Br:=by rw[hW];exact de _
       replace hs:=ar hs hb
       revert Be B1 B5 Blk B2 B3 B4 h7;refine mo hb ?_;intro Be B1 B5 Blk B2 B3 B4 h7
       clear hb hW
       refine B4.k3 fun B7 B8 B9=>?_
       have hH:=(show Br.cell? ⟨gx,0,none⟩=some (.bool C8)∧Br.cell? ⟨gx,1,none⟩=some (.slice C5 C7 C6)∧Br.cell? ⟨gx,2,none⟩=some (.slice C2 C4 C3) from ⟨B7,B8,B9⟩)
       refine U_tq 0 59 hH ?_
       refine U_tq 1 60 hH ?_
       clear hH
       refine U_on 2 fun K hK=>?_
       go_simp
       (with_reducible refine (fh Cm _ (Cr.mono (by decide))).mono ?_)
       rintro e w26 ⟨_,rfl,Bl,hb⟩
       obtain⟨Dw,Dr,Dt,Ds,Do,Dq,Dp,rfl⟩:=Bl.shape
       replace hs:=ar hs hb
       revert h7;revert B4;revert B3;revert B2;revert Blk;revert B5;revert B1;revert Be;refine mo hb ?_;intro Be B1 B5 Blk B2 B3 B4 h7
       replace B7:=ah B7 hb
       replace B8:=ah B8 hb
       replace B9:=ah B9 hb
       clear hb
       try go_wp2_with fail
       refine hK.out _ _ ⟨B7,B8,B9⟩ (fun hH=>?_)
       clear hK K
       try simp only[LY]
       clear hH
       refine U_on 3 fun K hK=>?_
       go_simp
       (with_reducible refine (uk h7 Bl (SzQ.fit SX) (SzQ.fit (szN (Cr.mono (by decide))))).mono ?_)
       rintro e Cj ⟨rfl,hb⟩
       replace hs:=ar hs hb
       revert Bl Be B1 B5 Blk B2 B3 B4 h7;refine mo hb ?_;intro Bl Be B1 B5 Blk B2 B3 B4 h7
       replace B7:=ah B7 hb
       replace B8:=ah B8 hb
       replace B9:=ah B9 hb
       clear hb
       rw[←Ca.out]
       try go_wp2_with fail
       refine hK.out _ _ ⟨B7,B8,B9⟩ (fun hH=>?_)
       clear hK K
       try simp only[LY]
       refine U_tq 4 63 hH ?_
       refine U_tq 5 64 hH ?_
       refine ff 6 65 hH ?_
       simp only[LY]
       refine ff 7 66 hH ?_
       simp only[LY]
       clear hH
       refine U_on 8 fun K hK=>?_
       go_simp
       refine hK.out _ _ ⟨B7,B8,B9⟩ (fun hH=>?_)
       clear hK K
       try simp only[LY]
       clear hH
       refine U_on 9 fun K hK=>?_
       go_simp
       refine hK.out _ _ ⟨B7,B8,B9⟩ (fun hH=>?_)
       clear hK K
       try simp only[LY]
       refine ff 10 69 hH ?_
       simp only[LY]
       refine U_tq 11 70 hH ?_
       clear hH
       refine im (by kernel_rfl) ?_
       clear B7 B8 B9
       have Dh:=ae (show crB (a,b) (c,d)=false from cr_f1 (in_f1 D7.out Cf.out))
       refine Blk.k3fl fun Bi Bj Bk fk Lk=>?_
       go_wp2
       clear Bi Bj Bk fk Lk
       refine bodyPost.abs ?_
       intro Ck hW
       have hG:Gr [w.heap.size + 1 + 1] Cj Ck:=by rw[hW];exact (Gr.refl _ _).set.set.set
       have Cq:=hs.size
       have lk:=Blk.lt
       have hk:=hG.keep ⟨⟨_,Blk.ty,by decide⟩,True.intro⟩
       have Bz:Bx Ck (w.heap.size + 1 + 1) 37 #[.bool false,.slice none 0 0,.slice none 0 0]:=by rw[hW];exact Blk.set3
       replace hs:=hs.trans (hG.d1 hs.size)
       replace B1:=hG.b1 B1
       replace B5:=hG.b1 B5
       replace B2:=hG.b1 B2
       replace B3:=hG.b1 B3
       replace B4:=hG.b1 B4
       replace Be:=hG.b1 Be
       replace Blk:=Bz
       clear Bz
       revert Bl h7;refine ke hk ?_;intro Bl h7
       clear hW hG hk Cq lk
       refine Blk.k3 fun Bi Bj Bk=>?_
       exact bodyPost_ret (v:=.tuple #[.agg #[.bool false,.slice none 0 0,.slice none 0 0],.bool false]) (by simp[results,Tryz.results122,go_sem,Bi,Bj,Bk]) rfl ⟨_,_,rfl,((PV.zero _).of_eq (show _=rq from by rw[Dm.out,if_neg (by rw[Dh.out];exact Bool.false_ne_true)])),by rw[Dl.out,Dh.out],hs⟩
      have D8:¬ (Cu < 0):=by have h:=qg (crX (a,b) (c,d)) (((Cm:Int):Rat));rw[←Ca.out] at h;exact fun h1=>q13 (h.1 h1)
      have D7:=ae q13
      clear q13
      have Du:decide (Cu < 0)=false:=decide_eq_false D8
      obtain⟨Cv,Cd⟩:∃s:Int,s=sgQ ((crX (a,b) (c,d)) - (((Cg:Int):Rat))):=⟨_,rfl⟩
      replace Cd:=ae Cd
      refine bw (S:=fun w'=>w'.cell? ⟨gx,0,none⟩=some (.bool C8)∧w'.cell? ⟨gx,1,none⟩=some (.slice C5 C7 C6)∧w'.cell? ⟨gx,2,none⟩=some (.slice C2 C4 C3)) (by kernel_rfl) 12 ?_
      refine cq.abs ?_
      intro Br hW
      have hb:Below w24.heap.size w24 Br:=by rw[hW];exact de _
      replace hs:=ar hs hb
      revert Be B1 B5 Blk B2 B3 B4 h7;refine mo hb ?_;intro Be B1 B5 Blk B2 B3 B4 h7
      clear hb hW
      refine B4.k3 fun B7 B8 B9=>?_
      have hH:=(show Br.cell? ⟨gx,0,none⟩=some (.bool C8)∧Br.cell? ⟨gx,1,none⟩=some (.slice C5 C7 C6)∧Br.cell? ⟨gx,2,none⟩=some (.slice C2 C4 C3) from ⟨B7,B8,B9⟩)
      refine U_tq 0 59 hH ?_
      refine U_tq 1 60 hH ?_
      clear hH
      refine U_on 2 fun K hK=>?_
      go_simp
      (with_reducible refine (fh Cm _ (Cr.mono (by decide))).mono ?_)
      rintro e w26 ⟨_,rfl,Bl,hb⟩
      obtain⟨Dw,Dr,Dt,Ds,Do,Dq,Dp,rfl⟩:=Bl.shape
      replace hs:=ar hs hb
      revert h7;revert B4;revert B3;revert B2;revert Blk;revert B5;revert B1;revert Be;refine mo hb ?_;intro Be B1 B5 Blk B2 B3 B4 h7
      replace B7:=ah B7 hb
      replace B8:=ah B8 hb
      replace B9:=ah B9 hb
      clear hb
      try go_wp2_with fail
      refine hK.out _ _ ⟨B7,B8,B9⟩ (fun hH=>?_)
      clear hK K
      try simp only[LY]
      clear hH
      refine U_on 3 fun K hK=>?_
      go_simp
      (with_reducible refine (uk h7 Bl (SzQ.fit SX) (SzQ.fit (szN (Cr.mono (by decide))))).mono ?_)
      rintro e Cj ⟨rfl,hb⟩
      replace hs:=ar hs hb
      revert Bl Be B1 B5 Blk B2 B3 B4 h7;refine mo hb ?_;intro Bl Be B1 B5 Blk B2 B3 B4 h7
      replace B7:=ah B7 hb
      replace B8:=ah B8 hb
      replace B9:=ah B9 hb
      clear hb
      rw[←Ca.out]
      try go_wp2_with fail
      refine hK.out _ _ ⟨B7,B8,B9⟩ (fun hH=>?_)
      clear hK K
      try simp only[LY]
      refine U_tq 4 63 hH ?_
      refine U_tq 5 64 hH ?_
      refine U_tq 6 65 hH ?_
      refine U_tq 7 66 hH ?_
      clear hH
      refine U_on 8 fun K hK=>?_
      go_simp
      (with_reducible refine (fh Cg _ (Db.mono (by decide))).mono ?_)
      rintro e Ck ⟨_,rfl,Cp,hb⟩
      obtain⟨sh14,ah14,nh14,ch14,Ah14,Nh14,Ch14,rfl⟩:=Cp.shape
      replace hs:=ar hs hb
      revert h7;revert B4;revert B3;revert B2;revert Blk;revert B5;revert B1;revert Be;revert Bl;refine mo hb ?_;intro Bl Be B1 B5 Blk B2 B3 B4 h7
      replace B7:=ah B7 hb
      replace B8:=ah B8 hb
      replace B9:=ah B9 hb
      clear hb
      try go_wp2_with fail
      refine hK.out _ _ ⟨B7,B8,B9⟩ (fun hH=>?_)
      clear hK K
      try simp only[LY]
      clear hH
      refine U_on 9 fun K hK=>?_
      go_simp
      (with_reducible refine (uk h7 Cp (SzQ.fit SX) (SzQ.fit (szN (Db.mono (by decide))))).mono ?_)
      rintro e Cn ⟨rfl,hb⟩
      replace hs:=ar hs hb
      revert Cp Bl Be B1 B5 Blk B2 B3 B4 h7;refine mo hb ?_;intro Cp Bl Be B1 B5 Blk B2 B3 B4 h7
      replace B7:=ah B7 hb
      replace B8:=ah B8 hb
      replace B9:=ah B9 hb
      clear hb
      rw[←Cd.out]
      try go_wp2_with fail
      refine hK.out _ _ ⟨B7,B8,B9⟩ (fun hH=>?_)
      clear hK K
      try simp only[LY]
      refine U_tq 10 69 hH ?_
      refine U_tq 11 70 hH ?_
      clear hH
      refine im (by kernel_rfl) ?_
      clear B7 B8 B9
      by_cases q16:((Cg:Int):Rat) < crX (a,b) (c,d)
      ·have Da:0 < Cv:=by have h:=rt (crX (a,b) (c,d)) (((Cg:Int):Rat));rw[←Cd.out] at h;exact h.2 q16
       have D9:=ae q16
       clear q16
       have Dv:decide (0 < Cv)=true:=decide_eq_true Da
       have Di:=ae (show crB (a,b) (c,d)=false from cr_f1 (in_f2 D9.out C9.out))
       refine Blk.k3fl fun Bi Bj Bk fk Lk=>?_
       go_wp2
       clear Bi Bj Bk fk Lk
       refine bodyPost.abs ?_
       intro Co hW
       have hG:Gr [w.heap.size + 1 + 1] Cn Co:=by rw[hW];exact (Gr.refl _ _).set.set.set
       have Cq:=hs.size
       have lk:=Blk.lt
       have hk:=hG.keep ⟨⟨_,Blk.ty,by decide⟩,True.intro⟩
       have Bz:Bx Co (w.heap.size + 1 + 1) 37 #[.bool false,.slice none 0 0,.slice none 0 0]:=by rw[hW];exact Blk.set3
       replace hs:=hs.trans (hG.d1 hs.size)
       replace B1:=hG.b1 B1
       replace B5:=hG.b1 B5
       replace B2:=hG.b1 B2
       replace B3:=hG.b1 B3
       replace B4:=hG.b1 B4
       replace Be:=hG.b1 Be
       replace Blk:=Bz
       clear Bz
       revert Cp Bl h7;refine ke hk ?_;intro Cp Bl h7
       clear hW hG hk Cq lk
       refine Blk.k3 fun Bi Bj Bk=>?_
       exact bodyPost_ret (v:=.tuple #[.agg #[.bool false,.slice none 0 0,.slice none 0 0],.bool false]) (by simp[results,Tryz.results122,go_sem,Bi,Bj,Bk]) rfl ⟨_,_,rfl,((PV.zero _).of_eq (show _=rq from by rw[Dm.out,if_neg (by rw[Di.out];exact Bool.false_ne_true)])),by rw[Dl.out,Di.out],hs⟩
      have Da:¬ (0 < Cv):=by have h:=rt (crX (a,b) (c,d)) (((Cg:Int):Rat));rw[←Cd.out] at h;exact fun h1=>q16 (h.1 h1)
      have D9:=ae q16
      clear q16
      have Dv:decide (0 < Cv)=false:=decide_eq_false Da
      go_wp2
      go_roundw
      case rel=>exact⟨0 + 1,by omega,by go_num,hs,B1,B5,Blk,B2,B3,B4,h7,(fun _=>in_tt D7.out D9.out Cf.out C9.out),(fun h=>absurd h (by omega))⟩
      all_goals first|(simp[intOf];done)|(simp[intOf];omega)
     have IX_:∀w:World,(Instr.index 177 (.agg #[.int .i64 a.1,.int .i64 a.2,.int .i64 b.1,.int .i64 b.2,.int .i64 c.1,.int .i64 c.2,.int .i64 d.1,.int .i64 d.2]) (.int .i64 1)).run Tryz.prog w=.ok (.agg #[.int .i64 c.1,.int .i64 c.2,.int .i64 d.1,.int .i64 d.2]) w:=fun _=>by rfl
     go_wp2_with fail
     refine Calls.abs ?_
     intro Ce hW
     have hG:Gr [] wr Ce:=by rw[hW];exact (Gr.refl _ _).alloc
     have Eg:=hs.size
     have Ec:=B1.lt
     have Ed:=B5.lt
     have Ee:=Blk.lt
     have Ea:=B2.lt
     have Eb:=B3.lt
     have Ef:=B4.lt
     have Be:Bx Ce (wr.heap.size) 69 #[.int .i64 c.1,.int .i64 c.2,.int .i64 d.1,.int .i64 d.2]:=by rw[hW];exact (Bx.new0 _ _ _)
     replace hs:=hs.trans (hG.below0 hs.size)
     revert h7;revert B4;revert B3;revert B2;revert Blk;revert B5;revert B1;refine g0 hG ?_;intro B1 B5 Blk B2 B3 B4 h7
     clear hW hG
     have E9:=Be.lt
     with_reducible refine (ed_ends c d _).mono ?_
     rintro e w24 ⟨rfl,hb⟩
     revert Be B1 B5 Blk B2 B3 B4 h7;refine mS hs hb ?_;clear hs hb;intro hs Be B1 B5 Blk B2 B3 B4 h7
     obtain⟨Cm,Cf⟩:∃z:Int,z=min c.1 d.1:=⟨_,rfl⟩
     rw[←Cf]
     have Cr:Wn 268435456 Cm:=by rw[Cf];exact Wn.min (hc.1.mono (by decide)) (hd.1.mono (by decide))
     replace Cf:=ae Cf
     obtain⟨Cg,C9⟩:∃z:Int,z=max c.1 d.1:=⟨_,rfl⟩
     rw[←C9]
     have Db:Wn 268435456 Cg:=by rw[C9];exact Wn.max (hc.1.mono (by decide)) (hd.1.mono (by decide))
     replace C9:=ae C9
     go_upto_region 10 with fail
     obtain⟨Cu,Ca⟩:∃s:Int,s=sgQ ((crX (a,b) (c,d)) - (((Cm:Int):Rat))):=⟨_,rfl⟩
     replace Ca:=ae Ca
     by_cases q13:crX (a,b) (c,d) < ((Cm:Int):Rat)
     ·have D8:Cu < 0:=by have h:=qg (crX (a,b) (c,d)) (((Cm:Int):Rat));rw[←Ca.out] at h;exact h.2 q13
      have D7:=ae q13
      clear q13
      have Du:decide (Cu < 0)=true:=decide_eq_true D8
      refine bw (S:=fun w'=>w'.cell? ⟨gx,0,none⟩=some (.bool C8)∧w'.cell? ⟨gx,1,none⟩=some (.slice C5 C7 C6)∧w'.cell? ⟨gx,2,none⟩=some (.slice C2 C4 C3)) (by kernel_rfl) 12 ?_
      refine cq.abs ?_
      intro Br hW
      have hb:Below w24.heap.size w24 Br:=by rw[hW];exact de _
      replace hs:=ar hs hb
      revert Be B1 B5 Blk B2 B3 B4 h7;refine mo hb ?_;intro Be B1 B5 Blk B2 B3 B4 h7
      clear hb hW
      refine B4.k3 fun B7 B8 B9=>?_
      have hH:=(show Br.cell? ⟨gx,0,none⟩=some (.bool C8)∧Br.cell? ⟨gx,1,none⟩=some (.slice C5 C7 C6)∧Br.cell? ⟨gx,2,none⟩=some (.slice C2 C4 C3) from ⟨B7,B8,B9⟩)
      refine U_tq 0 59 hH ?_
      refine U_tq 1 60 hH ?_
      clear hH
      refine U_on 2 fun K hK=>?_
      go_simp
      (with_reducible refine (fh Cm _ (Cr.mono (by decide))).mono ?_)
      rintro e w26 ⟨_,rfl,Bl,hb⟩
      obtain⟨Dw,Dr,Dt,Ds,Do,Dq,Dp,rfl⟩:=Bl.shape
      replace hs:=ar hs hb
      revert h7;revert B4;revert B3;revert B2;revert Blk;revert B5;revert B1;revert Be;refine mo hb ?_;intro Be B1 B5 Blk B2 B3 B4 h7
      replace B7:=ah B7 hb
      replace B8:=ah B8 hb
      replace B9:=ah B9 hb
      clear hb
      try go_wp2_with fail
      refine hK.out _ _ ⟨B7,B8,B9⟩ (fun hH=>?_)
      clear hK K
      try simp only[LY]
      clear hH
      refine U_on 3 fun K hK=>?_
      go_simp
      (with_reducible refine (uk h7 Bl (SzQ.fit SX) (SzQ.fit (szN (Cr.mono (by decide))))).mono ?_)
      rintro e Cj ⟨rfl,hb⟩
      replace hs:=ar hs hb
      revert Bl Be B1 B5 Blk B2 B3 B4 h7;refine mo hb ?_;intro Bl Be B1 B5 Blk B2 B3 B4 h7
      replace B7:=ah B7 hb
      replace B8:=ah B8 hb
      replace B9:=ah B9 hb
      clear hb
      rw[←Ca.out]
      try go_wp2_with fail
      refine hK.out _ _ ⟨B7,B8,B9⟩ (fun hH=>?_)
      clear hK K
      try simp only[LY]
      refine U_tq 4 63 hH ?_
      refine U_tq 5 64 hH ?_
      refine ff 6 65 hH ?_
      simp only[LY]
      refine ff 7 66 hH ?_
      simp only[LY]
      clear hH
      refine U_on 8 fun K hK=>?_
      go_simp
      refine hK.out _ _ ⟨B7,B8,B9⟩ (fun hH=>?_)
      clear hK K
      try simp only[LY]
      clear hH
      refine U_on 9 fun K hK=>?_
      go_simp
      refine hK.out _ _ ⟨B7,B8,B9⟩ (fun hH=>?_)
      clear hK K
      try simp only[LY]
      refine ff 10 69 hH ?_
      simp only[LY]
      refine U_tq 11 70 hH ?_
      clear hH
      refine im (by kernel_rfl) ?_
      clear B7 B8 B9
      have Dh:=ae (show crB (a,b) (c,d)=false from cr_f2 (in_f1 D7.out Cf.out))
      refine Blk.k3fl fun Bi Bj Bk fk Lk=>?_
      go_wp2
      clear Bi Bj Bk fk Lk
      refine bodyPost.abs ?_
      intro Ck hW
      have hG:Gr [w.heap.size + 1 + 1] Cj Ck:=by rw[hW];exact (Gr.refl _ _).set.set.set
      have Cq:=hs.size
      have lk:=Blk.lt
      have hk:=hG.keep ⟨⟨_,Blk.ty,by decide⟩,True.intro⟩
      have Bz:Bx Ck (w.heap.size + 1 + 1) 37 #[.bool false,.slice none 0 0,.slice none 0 0]:=by rw[hW];exact Blk.set3
      replace hs:=hs.trans (hG.d1 hs.size)
      replace B1:=hG.b1 B1
      replace B5:=hG.b1 B5
      replace B2:=hG.b1 B2
      replace B3:=hG.b1 B3
      replace B4:=hG.b1 B4
      replace Be:=hG.b1 Be
      replace Blk:=Bz
      clear Bz
      revert Bl h7;refine ke hk ?_;intro Bl h7
      clear hW hG hk Cq lk
      refine Blk.k3 fun Bi Bj Bk=>?_
      exact bodyPost_ret (v:=.tuple #[.agg #[.bool false,.slice none 0 0,.slice none 0 0],.bool false]) (by simp[results,Tryz.results122,go_sem,Bi,Bj,Bk]) rfl ⟨_,_,rfl,((PV.zero _).of_eq (show _=rq from by rw[Dm.out,if_neg (by rw[Dh.out];exact Bool.false_ne_true)])),by rw[Dl.out,Dh.out],hs⟩
     have D8:¬ (Cu < 0):=by have h:=qg (crX (a,b) (c,d)) (((Cm:Int):Rat));rw[←Ca.out] at h;exact fun h1=>q13 (h.1 h1)
     have D7:=ae q13
     clear q13
     have Du:decide (Cu < 0)=false:=decide_eq_false D8
     obtain⟨Cv,Cd⟩:∃s:Int,s=sgQ ((crX (a,b) (c,d)) - (((Cg:Int):Rat))):=⟨_,rfl⟩
     replace Cd:=ae Cd
     refine bw (S:=fun w'=>w'.cell? ⟨gx,0,none⟩=some (.bool C8)∧w'.cell? ⟨gx,1,none⟩=some (.slice C5 C7 C6)∧w'.cell? ⟨gx,2,none⟩=some (.slice C2 C4 C3)) (by kernel_rfl) 12 ?_
     refine cq.abs ?_
     intro Br hW
     have hb:Below w24.heap.size w24 Br:=by rw[hW];exact de _
     replace hs:=ar hs hb
     revert Be B1 B5 Blk B2 B3 B4 h7;refine mo hb ?_;intro Be B1 B5 Blk B2 B3 B4 h7
     clear hb hW
     refine B4.k3 fun B7 B8 B9=>?_
     have hH:=(show Br.cell? ⟨gx,0,none⟩=some (.bool C8)∧Br.cell? ⟨gx,1,none⟩=some (.slice C5 C7 C6)∧Br.cell? ⟨gx,2,none⟩=some (.slice C2 C4 C3) from ⟨B7,B8,B9⟩)
     refine U_tq 0 59 hH ?_
     refine U_tq 1 60 hH ?_
     clear hH
     refine U_on 2 fun K hK=>?_
     go_simp
     (with_reducible refine (fh Cm _ (Cr.mono (by decide))).mono ?_)
     rintro e w26 ⟨_,rfl,Bl,hb⟩
     obtain⟨Dw,Dr,Dt,Ds,Do,Dq,Dp,rfl⟩:=Bl.shape
     replace hs:=ar hs hb
     revert h7;revert B4;revert B3;revert B2;revert Blk;revert B5;revert B1;revert Be;refine mo hb ?_;intro Be B1 B5 Blk B2 B3 B4 h7
     replace B7:=ah B7 hb
     replace B8:=ah B8 hb
     replace B9:=ah B9 hb
     clear hb
     try go_wp2_with fail
     refine hK.out _ _ ⟨B7,B8,B9⟩ (fun hH=>?_)
     clear hK K
     try simp only[LY]
     clear hH
     refine U_on 3 fun K hK=>?_
     go_simp
     (with_reducible refine (uk h7 Bl (SzQ.fit SX) (SzQ.fit (szN (Cr.mono (by decide))))).mono ?_)
     rintro e Cj ⟨rfl,hb⟩
     replace hs:=ar hs hb
     revert Bl Be B1 B5 Blk B2 B3 B4 h7;refine mo hb ?_;intro Bl Be B1 B5 Blk B2 B3 B4 h7
     replace B7:=ah B7 hb
     replace B8:=ah B8 hb
     replace B9:=ah B9 hb
     clear hb
     rw[←Ca.out]
     try go_wp2_with fail
     refine hK.out _ _ ⟨B7,B8,B9⟩ (fun hH=>?_)
     clear hK K
     try simp only[LY]
     refine U_tq 4 63 hH ?_
     refine U_tq 5 64 hH ?_
     refine U_tq 6 65 hH ?_
     refine U_tq 7 66 hH ?_
     clear hH
     refine U_on 8 fun K hK=>?_
     go_simp
     (with_reducible refine (fh Cg _ (Db.mono (by decide))).mono ?_)
     rintro e Ck ⟨_,rfl,Cp,hb⟩
     obtain⟨sh14,ah14,nh14,ch14,Ah14,Nh14,Ch14,rfl⟩:=Cp.shape
     replace hs:=ar hs hb
     revert h7;revert B4;revert B3;revert B2;revert Blk;revert B5;revert B1;revert Be;revert Bl;refine mo hb ?_;intro Bl Be B1 B5 Blk B2 B3 B4 h7
     replace B7:=ah B7 hb
     replace B8:=ah B8 hb
     replace B9:=ah B9 hb
     clear hb
     try go_wp2_with fail
     refine hK.out _ _ ⟨B7,B8,B9⟩ (fun hH=>?_)
     clear hK K
     try simp only[LY]
     clear hH
     refine U_on 9 fun K hK=>?_
     go_simp
     (with_reducible refine (uk h7 Cp (SzQ.fit SX) (SzQ.fit (szN (Db.mono (by decide))))).mono ?_)
     rintro e Cn ⟨rfl,hb⟩
     replace hs:=ar hs hb
     revert Cp Bl Be B1 B5 Blk B2 B3 B4 h7;refine mo hb ?_;intro Cp Bl Be B1 B5 Blk B2 B3 B4 h7
     replace B7:=ah B7 hb
     replace B8:=ah B8 hb
     replace B9:=ah B9 hb
     clear hb
     rw[←Cd.out]
     try go_wp2_with fail
     refine hK.out _ _ ⟨B7,B8,B9⟩ (fun hH=>?_)
     clear hK K
     try simp only[LY]
     refine U_tq 10 69 hH ?_
     refine U_tq 11 70 hH ?_
     clear hH
     refine im (by kernel_rfl) ?_
     clear B7 B8 B9
     by_cases q16:((Cg:Int):Rat) < crX (a,b) (c,d)
     ·have Da:0 < Cv:=by have h:=rt (crX (a,b) (c,d)) (((Cg:Int):Rat));rw[←Cd.out] at h;exact h.2 q16
      have D9:=ae q16
      clear q16
      have Dv:decide (0 < Cv)=true:=decide_eq_true Da
      have Di:=ae (show crB (a,b) (c,d)=false from cr_f2 (in_f2 D9.out C9.out))
      refine Blk.k3fl fun Bi Bj Bk fk Lk=>?_
      go_wp2
      clear Bi Bj Bk fk Lk
      refine bodyPost.abs ?_
      intro Co hW
      have hG:Gr [w.heap.size + 1 + 1] Cn Co:=by rw[hW];exact (Gr.refl _ _).set.set.set
      have Cq:=hs.size
      have lk:=Blk.lt
      have hk:=hG.keep ⟨⟨_,Blk.ty,by decide⟩,True.intro⟩
      have Bz:Bx Co (w.heap.size + 1 + 1) 37 #[.bool false,.slice none 0 0,.slice none 0 0]:=by rw[hW];exact Blk.set3
      replace hs:=hs.trans (hG.d1 hs.size)
      replace B1:=hG.b1 B1
      replace B5:=hG.b1 B5
      replace B2:=hG.b1 B2
      replace B3:=hG.b1 B3
      replace B4:=hG.b1 B4
      replace Be:=hG.b1 Be
      replace Blk:=Bz
      clear Bz
      revert Cp Bl h7;refine ke hk ?_;intro Cp Bl h7
      clear hW hG hk Cq lk
      refine Blk.k3 fun Bi Bj Bk=>?_
      exact bodyPost_ret (v:=.tuple #[.agg #[.bool false,.slice none 0 0,.slice none 0 0],.bool false]) (by simp[results,Tryz.results122,go_sem,Bi,Bj,Bk]) rfl ⟨_,_,rfl,((PV.zero _).of_eq (show _=rq from by rw[Dm.out,if_neg (by rw[Di.out];exact Bool.false_ne_true)])),by rw[Dl.out,Di.out],hs⟩
     have Da:¬ (0 < Cv):=by have h:=rt (crX (a,b) (c,d)) (((Cg:Int):Rat));rw[←Cd.out] at h;exact fun h1=>q16 (h.1 h1)
     have D9:=ae q16
     clear q16
     have Dv:decide (0 < Cv)=false:=decide_eq_false Da
     go_wp2
     go_roundw
     case rel=>exact⟨1 + 1,by omega,by go_num,hs,B1,B5,Blk,B2,B3,B4,h7,(fun _=>Dz.out (by omega)),(fun _=>in_tt D7.out D9.out Cf.out C9.out)⟩
     all_goals first|(simp[intOf];done)|(simp[intOf];omega)
    have q8d:((k:Int) < 2)=False:=eq_false (by omega)
    have HB9:=ae (show crB (a,b) (c,d)=true from cr_tt (fun h=>D2.out (Cx.out.trans h)) (Dz.out (by omega)) (HQ1.out (by omega)))
    refine B4.k3l fun B7 B8 B9 Lx=>?_
    refine Blk.k3fl fun Bi Bj Bk fk Lk=>?_
    go_wp2
    clear B7 B8 B9 Bi Bj Bk fk Lx Lk
    refine bodyPost.abs ?_
    intro Ce hW
    have hG:Gr [w.heap.size + 1 + 1] wr Ce:=by rw[hW];exact (Gr.refl _ _).set.set.set
    have Cq:=hs.size
    have lk:=Blk.lt
    have hk:=hG.keep ⟨⟨_,Blk.ty,by decide⟩,True.intro⟩
    have Bz:Bx Ce (w.heap.size + 1 + 1) 37 #[.bool C8,.slice C5 C7 C6,.slice C2 C4 C3]:=by rw[hW];exact Blk.set3
    replace hs:=hs.trans (hG.d1 hs.size)
    replace B1:=hG.b1 B1
    replace B5:=hG.b1 B5
    replace B2:=hG.b1 B2
    replace B3:=hG.b1 B3
    replace B4:=hG.b1 B4
    replace Blk:=Bz
    clear Bz
    replace h7:=h7.keep hk
    clear hW hG hk Cq lk
    refine Blk.k3 fun Bi Bj Bk=>?_
    exact bodyPost_ret (v:=.tuple #[.agg #[.bool C8,.slice C5 C7 C6,.slice C2 C4 C3],.bool true]) (by simp[results,Tryz.results122,go_sem,Bi,Bj,Bk]) rfl ⟨_,_,rfl,(h7.of_eq (show _=rq from by rw[Dm.out,if_pos HB9.out])),by rw[Dl.out,HB9.out],hs⟩
end Go.Proofs.YtidmjdmmpajooaaGreat
