/-
  plane: fractions of coordinates; an edge's ends, its height at a place.
-/
import Derived.Test.YtidmjdmmpajooaaGreatPlAN
import Derived.Test.YtidmjdmmpajooaaGreatPkV14N
import Derived.Test.YtidmjdmmpajooaaGreatPlCN
set_option linter.unusedSimpArgs false
set_option linter.unusedVariables false
set_option maxRecDepth 100000
set_option maxHeartbeats 4000000
namespace Go.Proofs.YtidmjdmmpajooaaGreat
open Go.RowKit Dg
attribute [local go_sem ↓] Go.wp_at_zero Go.wp_at_succ
theorem szN {n:Int} (h:Wn 4294967295 n):SzQ 1 (n:Rat):=szQ_int (by have:=h.1;have:=h.2;omega)
theorem qj {n:Int} (h:Wn 9223372036854775807 n):SzQ 2 (n:Rat):=by
 have h1:=h.1;have h2:=h.2
 refine⟨?_,?_⟩
 ·rw[Rat.num_intCast];show n.natAbs < 4294967296 ^ 2;omega
 rw[Rat.den_intCast];decide
theorem szD {n d:Int} (h:Wn 9223372036854775807 n) (k:Wn 9223372036854775807 d) (hd:d≠0):SzQ 4 ((n:Rat) / (d:Rat)):=SzQ.div (qj h) (qj k) (fun e=>hd (Rat.intCast_eq_zero_iff.1 e))
theorem fh (n:Int) (w:World) (h:Wn 9223372036854775807 n):
  Calls Tryz.prog 89 #[.int .i64 n] w (mp w (n:Rat)):=by
 have hs:=Below.refl w.heap.size w
 go_enter Tryz.func89,Tryz.ntmps89
 go_wp2_with fail
 refine Calls.abs ?_
 intro w1 hW
 have hG:Gr [] w w1:=by rw[hW];exact (Gr.refl _ _).alloc
 have Bg:=hs.size
 have Blk:Bx w1 (w.heap.size) 37 #[.bool false,.slice none 0 0,.slice none 0 0]:=by rw[hW];exact (Bx.new0 _ _ _)
 replace hs:=hs.trans (hG.below0 hs.size)
 clear hW hG
 have Bf:=Blk.lt
 with_reducible refine (p_Int_calls n _ (h.lo64 (by decide)) (h.hi (by decide))).mono ?_
 rintro e w2 ⟨_,rfl,h1,hb⟩
 obtain⟨Bb,B8,Ba,B9,B5,B7,B6,rfl⟩:=h1.shape
 revert Blk;refine mS hs hb ?_;clear hs hb;intro hs Blk
 refine Blk.k3fl fun B2 B3 B4 fk Lk=>?_
 go_wp2
 clear B2 B3 B4 fk Lk
 refine bodyPost.abs ?_
 intro w3 hW
 have hG:Gr [w.heap.size] w2 w3:=by rw[hW];exact (Gr.refl _ _).set.set.set
 have hsz:=hs.size
 have lk:=Blk.lt
 have hk:=hG.keep ⟨⟨_,Blk.ty,by decide⟩,True.intro⟩
 have Bc:Bx w3 (w.heap.size) 37 #[.bool Bb,.slice B8 Ba B9,.slice B5 B7 B6]:=by rw[hW];exact Blk.set3
 replace hs:=hs.trans (hG.d1 hs.size)
 replace Blk:=Bc
 clear Bc
 replace h1:=h1.keep hk
 clear hW hG hk hsz lk
 refine Blk.k3 fun B2 B3 B4=>?_
 exact bodyPost_ret (v:=.agg #[.bool Bb,.slice B8 Ba B9,.slice B5 B7 B6]) (by simp[results,Tryz.results89,go_sem,B2,B3,B4]) rfl ⟨_,rfl,h1,hs⟩
theorem ja9 (n d:Int) (w:World) (h:Wn 9223372036854775807 n) (k:Wn 9223372036854775807 d) (hd:d≠0):
  Calls Tryz.prog 100 #[.int .i64 n,.int .i64 d] w (mp w ((n:Rat) / (d:Rat))):=by
 have hs:=Below.refl w.heap.size w
 go_enter Tryz.func100,Tryz.ntmps100
 go_wp2_with fail
 refine Calls.abs ?_
 intro w1 hW
 have hG:Gr [] w w1:=by rw[hW];exact (Gr.refl _ _).alloc
 have Bg:=hs.size
 have Blk:Bx w1 (w.heap.size) 37 #[.bool false,.slice none 0 0,.slice none 0 0]:=by rw[hW];exact (Bx.new0 _ _ _)
 replace hs:=hs.trans (hG.below0 hs.size)
 clear hW hG
 have Bf:=Blk.lt
 with_reducible refine (p_New_calls n d _ (h.lo64 (by decide)) (h.hi (by decide)) (k.lo64 (by decide)) (k.hi (by decide)) hd).mono ?_
 rintro e w2 ⟨_,rfl,h1,hb⟩
 obtain⟨Bb,B8,Ba,B9,B5,B7,B6,rfl⟩:=h1.shape
 revert Blk;refine mS hs hb ?_;clear hs hb;intro hs Blk
 go_upto_region 2 with fail
 refine Code.abs ?_
 intro w3 hW
 have hG:Gr [] w2 w3:=by rw[hW];exact (Gr.refl _ _).alloc
 have sz_w3:=hs.size
 have nk_w3:=Blk.lt
 have Be:Bx w3 (w2.heap.size) 37 #[.bool Bb,.slice B8 Ba B9,.slice B5 B7 B6]:=by rw[hW];exact (Bx.new0 _ _ _)
 replace hs:=hs.trans (hG.below0 hs.size)
 revert h1 Blk;refine g0 hG ?_;intro h1 Blk
 clear hW hG
 have hz_w3:=Be.lt
 refine Be.k3l fun Bl Bm Bn Lx=>?_
 refine Blk.k3fl fun B2 B3 B4 fk Lk=>?_
 go_wp2
 clear Bl Bm Bn B2 B3 B4 fk Lx Lk
 refine bodyPost.abs ?_
 intro w4 hW
 have hG:Gr [w.heap.size] w3 w4:=by rw[hW];exact (Gr.refl _ _).set.set.set
 have hsz:=hs.size
 have lk:=Blk.lt
 have hk:=hG.keep ⟨⟨_,Blk.ty,by decide⟩,True.intro⟩
 have Bc:Bx w4 (w.heap.size) 37 #[.bool Bb,.slice B8 Ba B9,.slice B5 B7 B6]:=by rw[hW];exact Blk.set3
 replace hs:=hs.trans (hG.d1 hs.size)
 replace Be:=hG.b1 Be
 replace Blk:=Bc
 clear Bc
 replace h1:=h1.keep hk
 clear hW hG hk hsz lk
 refine Blk.k3 fun B2 B3 B4=>?_
 exact bodyPost_ret (v:=.agg #[.bool Bb,.slice B8 Ba B9,.slice B5 B7 B6]) (by simp[results,Tryz.results100,go_sem,B2,B3,B4]) rfl ⟨_,rfl,h1,hs⟩
theorem ed_ends (a b:Pt) (w:World):
  Calls Tryz.prog 126 #[.agg #[.int .i64 a.1,.int .i64 a.2,.int .i64 b.1,.int .i64 b.2]] w (fj w (.tuple #[.int .i64 (min a.1 b.1),.int .i64 (max a.1 b.1)])):=by
 have hs:=Below.refl w.heap.size w
 go_enter Tryz.func126,Tryz.ntmps126
 go_upto_region 1 with fail
 refine Code.abs ?_
 intro w1 hW
 have hG:Gr [] w w1:=by rw[hW];exact (Gr.refl _ _).alloc
 have Bg:=hs.size
 have Bd:Bx w1 (w.heap.size) 69 #[.int .i64 a.1,.int .i64 a.2,.int .i64 b.1,.int .i64 b.2]:=by rw[hW];exact (Bx.new0 _ _ _)
 replace hs:=hs.trans (hG.below0 hs.size)
 clear hW hG
 have Bf:=Bd.lt
 refine bw (S:=fun w'=>w'.cell? ⟨w.heap.size,0,none⟩=some (.int .i64 a.1)∧w'.cell? ⟨w.heap.size,1,none⟩=some (.int .i64 a.2)∧w'.cell? ⟨w.heap.size,2,none⟩=some (.int .i64 b.1)∧w'.cell? ⟨w.heap.size,3,none⟩=some (.int .i64 b.2)) (by kernel_rfl) 16 ?_
 refine cq.abs ?_
 intro w2 hW
 have hb:Below w1.heap.size w1 w2:=by rw[hW];exact de _
 replace hs:=ar hs hb
 replace Bd:=Bd.mono hb
 clear hb hW
 refine Bd.k4 fun Bh Bi Bj Bk=>?_
 have hH:=(show w2.cell? ⟨w.heap.size,0,none⟩=some (.int .i64 a.1)∧w2.cell? ⟨w.heap.size,1,none⟩=some (.int .i64 a.2)∧w2.cell? ⟨w.heap.size,2,none⟩=some (.int .i64 b.1)∧w2.cell? ⟨w.heap.size,3,none⟩=some (.int .i64 b.2) from ⟨Bh,Bi,Bj,Bk⟩)
 refine U_tq 0 4 hH ?_
 refine U_tq 1 5 hH ?_
 refine U_tq 2 6 hH ?_
 refine U_tq 3 7 hH ?_
 refine U_tq 4 8 hH ?_
 refine U_tq 5 9 hH ?_
 refine U_tq 6 10 hH ?_
 refine U_tq 7 11 hH ?_
 refine U_tq 8 12 hH ?_
 refine U_tq 9 13 hH ?_
 refine U_tq 10 14 hH ?_
 refine U_tq 11 15 hH ?_
 refine U_tq 12 16 hH ?_
 refine U_tq 13 17 hH ?_
 refine U_tq 14 2 hH ?_
 refine U_tq 15 3 hH ?_
 clear hH
 refine im (by kernel_rfl) ?_
 clear Bh Bi Bj Bk
 go_wp2
 go_ret2
 exact⟨rfl,hs⟩
end Go.Proofs.YtidmjdmmpajooaaGreat
namespace Go.Proofs.YtidmjdmmpajooaaGreat
open Go.RowKit Dg
attribute [local go_sem ↓] Go.wp_at_zero Go.wp_at_succ
theorem tg (v:Value) (l:List Pt) (w:World) (hl:Pts w v l):Calls Tryz.prog 8 #[v] w (fj w (.int .i64 (fl l))):=by
 by_cases h1:l.length < 3
 ·exact je1 v l w hl h1
 by_cases h2:16 < l.length
 ·exact pl_Check_long v l w hl h1 h2
 exact pl_Check_main v l w hl h1 h2
theorem kg {l:List Pt} (h:fl l=0):l.length≤16∧3≤l.length∧∀p∈l,WP 1048576 p:=by
 unfold fl at h
 split at h
 ·cases h
 split at h
 ·cases h
 split at h
 ·rename_i h1 h2 h3
  exact⟨by omega,by omega,fun p hp=>jm (List.all_eq_true.1 h3 p hp)⟩
 cases h
theorem tw_bd {l:List Pt} (hn:l.length≤1000) (hp:∀p∈l,WP 1048576 p):Wn 2199023255552000 (twZ l):=(twK_wn hp l.length hn).mono (by omega)
theorem pl_size (vl:Value) (l:List Pt) (w:World) (hl:Pts w vl l) (hok:fl l=0):
  Calls Tryz.prog 78 #[vl] w (mp w (up ((twZ l:Int):Rat))):=by
 obtain⟨al,cl,rfl, -, -, -⟩:=hl.slice
 have hs:=Below.refl w.heap.size w
 have Hl:=ae hl
 clear hl
 have HK:=ae (kg hok)
 go_enter Tryz.func78,Tryz.ntmps78
 go_wp2_with fail
 refine Calls.abs ?_
 intro w1 hW
 have hG:Gr [] w w1:=by rw[hW];exact (Gr.refl _ _).alloc
 have sz_w1:=hs.size
 have Blk:Bx w1 (w.heap.size) 37 #[.bool false,.slice none 0 0,.slice none 0 0]:=by rw[hW];exact (Bx.new0 _ _ _)
 replace hs:=hs.trans (hG.below0 hs.size)
 clear hW hG
 have hz_w1:=Blk.lt
 with_reducible refine (pl_twice _ l _ (be.mono IP.kept Hl.out hs) (by have:=(HK.out).1;omega) (HK.out).2.2).mono ?_
 rintro e w2 ⟨rfl,hb⟩
 revert Blk;refine mS hs hb ?_;clear hs hb;intro hs Blk
 obtain⟨tw2,B3⟩:∃s:Int,s=twZ l:=⟨_,rfl⟩
 rw[←B3]
 have Wtw2:Wn 2199023255552000 tw2:=by rw[B3];exact tw_bd (by have:=(HK.out).1;omega) (HK.out).2.2
 replace B3:=ae B3
 go_wp2_with fail
 with_reducible refine (fh tw2 _ (Wtw2.mono (by decide))).mono ?_
 rintro e w3 ⟨_,rfl,h3,hb⟩
 obtain⟨sh3,ah3,nh3,ch3,Ah3,Nh3,Ch3,rfl⟩:=h3.shape
 revert Blk;refine mS hs hb ?_;clear hs hb;intro hs Blk
 go_wp2_with fail
 with_reducible refine (p_Abs_calls _ _ _ h3).mono ?_
 rintro e w4 ⟨_,rfl,h4,hb⟩
 obtain⟨sh4,ah4,nh4,ch4,Ah4,Nh4,Ch4,rfl⟩:=h4.shape
 revert Blk;revert h3;refine mS hs hb ?_;clear hs hb;intro hs h3 Blk
 refine Blk.k3fl fun B7 B8 B9 fk Lk=>?_
 go_wp2
 clear B7 B8 B9 fk Lk
 refine bodyPost.abs ?_
 intro w5 hW
 have hG:Gr [w.heap.size] w4 w5:=by rw[hW];exact (Gr.refl _ _).set.set.set
 have hsz:=hs.size
 have lk:=Blk.lt
 have hk:=hG.keep ⟨⟨_,Blk.ty,by decide⟩,True.intro⟩
 have Ba:Bx w5 (w.heap.size) 37 #[.bool sh4,.slice ah4 nh4 ch4,.slice Ah4 Nh4 Ch4]:=by rw[hW];exact Blk.set3
 replace hs:=hs.trans (hG.d1 hs.size)
 replace Blk:=Ba
 clear Ba
 revert h4 h3;refine ke hk ?_;intro h4 h3
 clear hW hG hk hsz lk
 refine Blk.k3 fun B7 B8 B9=>?_
 exact bodyPost_ret (v:=.agg #[.bool sh4,.slice ah4 nh4 ch4,.slice Ah4 Nh4 Ch4]) (by simp[results,Tryz.results78,go_sem,B7,B8,B9]) rfl ⟨_,rfl,h4.of_eq (by rw[←B3.out]),hs⟩
theorem pl_two (vl:Value) (l:List Pt) (vm:Value) (m:List Pt) (w:World) (hl:Pts w vl l) (hm:Pts w vm m) {r1:Int} (e1:r1=if fl l=0 then fl m else fl l):
  Calls Tryz.prog 42 #[vl,vm] w (fj w (.int .i64 r1)):=by
 obtain⟨al,cl,rfl, -, -, -⟩:=hl.slice
 obtain⟨am,cm,rfl, -, -, -⟩:=hm.slice
 have hs:=Below.refl w.heap.size w
 have Hl:=ae hl
 have Hm:=ae hm
 clear hl hm
 have E1:=ae e1
 clear e1
 go_enter Tryz.func42,Tryz.ntmps42
 go_wp2_with fail
 with_reducible refine (tg _ l _ (be.mono IP.kept Hl.out hs)).mono ?_
 rintro e w1 ⟨rfl,hb⟩
 replace hs:=ar hs hb
 clear hb
 obtain⟨B1,B0⟩:∃s:Int,s=fl l:=⟨_,rfl⟩
 rw[←B0]
 replace B0:=ae B0
 by_cases q2:B1=0
 ·have q2b:(B1 == 0)=true:=beq_iff_eq.2 (by omega)
  have q2n:(B1 != 0)=false:=bne_eq_false_iff_eq.2 (by omega)
  have B2:=ae q2
  clear q2
  go_wp2_with fail
  with_reducible refine (tg _ m _ (be.mono IP.kept Hm.out hs)).mono ?_
  rintro e w2 ⟨rfl,hb⟩
  replace hs:=ar hs hb
  clear hb
  obtain⟨ck3,B5⟩:∃s:Int,s=fl m:=⟨_,rfl⟩
  rw[←B5]
  replace B5:=ae B5
  go_wp2
  go_ret
  exact⟨by rw[show r1=ck3 from by rw[E1.out,if_pos (B0.out.symm.trans B2.out),←B5.out]];rfl,hs⟩
 have q2b:(B1 == 0)=false:=beq_eq_false_iff_ne.2 (by omega)
 have q2n:(B1 != 0)=true:=bne_iff_ne.2 (by omega)
 have B2:=ae q2
 clear q2
 go_wp2
 go_ret
 exact⟨by rw[show r1=B1 from by rw[E1.out,if_neg (fun h=>B2.out (B0.out.trans h)),←B0.out]];rfl,hs⟩
theorem pl_Twice (vl:Value) (l:List Pt) (w:World) (hl:Pts w vl l) {r1 r2:Int} (e1:r1=if fl l=0 then twZ l else 0) (e2:r2=fl l):
  Calls Tryz.prog 18 #[vl] w (Ret2 (fun _ v=>v=.int .i64 r1) (fun _ v=>v=.int .i64 r2) w):=by
 obtain⟨al,cl,rfl, -, -, -⟩:=hl.slice
 have hs:=Below.refl w.heap.size w
 have Hl:=ae hl
 clear hl
 have E1:=ae e1
 clear e1
 have E2:=ae e2
 clear e2
 go_enter Tryz.func18,Tryz.ntmps18
 go_wp2_with fail
 with_reducible refine (tg _ l _ (be.mono IP.kept Hl.out hs)).mono ?_
 rintro e w1 ⟨rfl,hb⟩
 replace hs:=ar hs hb
 clear hb
 obtain⟨B1,B0⟩:∃s:Int,s=fl l:=⟨_,rfl⟩
 rw[←B0]
 replace B0:=ae B0
 by_cases q2:B1=0
 ·have q2b:(B1 == 0)=true:=beq_iff_eq.2 (by omega)
  have q2n:(B1 != 0)=false:=bne_eq_false_iff_eq.2 (by omega)
  have B2:=ae q2
  clear q2
  go_wp2_with fail
  with_reducible refine (pl_twice _ l _ (be.mono IP.kept Hl.out hs) (by have:=((kg (B0.out.symm.trans B2.out))).1;omega) ((kg (B0.out.symm.trans B2.out))).2.2).mono ?_
  rintro e w2 ⟨rfl,hb⟩
  replace hs:=ar hs hb
  clear hb
  obtain⟨tw4,B4⟩:∃s:Int,s=twZ l:=⟨_,rfl⟩
  rw[←B4]
  have Wtw4:Wn 2199023255552000 tw4:=by rw[B4];exact tw_bd (by have:=((kg (B0.out.symm.trans B2.out))).1;omega) ((kg (B0.out.symm.trans B2.out))).2.2
  replace B4:=ae B4
  go_wp2
  go_ret2
  exact⟨_,_,rfl,by rw[show r1=tw4 from by rw[E1.out,if_pos (B0.out.symm.trans B2.out),←B4.out]];rfl,by rw[show r2=0 from by rw[E2.out,←B0.out,B2.out]];rfl,hs⟩
 have q2b:(B1 == 0)=false:=beq_eq_false_iff_ne.2 (by omega)
 have q2n:(B1 != 0)=true:=bne_iff_ne.2 (by omega)
 have B2:=ae q2
 clear q2
 go_wp2
 go_ret2
 exact⟨_,_,rfl,by rw[show r1=0 from by rw[E1.out,if_neg (fun h=>B2.out (B0.out.trans h))]];rfl,by rw[show r2=B1 from by rw[E2.out,←B0.out]];rfl,hs⟩
end Go.Proofs.YtidmjdmmpajooaaGreat
