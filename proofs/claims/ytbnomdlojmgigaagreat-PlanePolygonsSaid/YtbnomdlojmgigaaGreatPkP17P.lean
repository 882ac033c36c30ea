/-
  plane: fractions of coordinates; an edge's ends, its height at a place.
-/
import Derived.Test.YtbnomdlojmgigaaGreatPlAP
import Derived.Test.YtbnomdlojmgigaaGreatPkP14P
import Derived.Test.YtbnomdlojmgigaaGreatPlCP
import Derived.Test.YtbnomdlojmgigaaGreatPkP2P
import Derived.Test.YtbnomdlojmgigaaGreatSortP
import Derived.Deep.AppendLies
import Derived.Shelf.Spec.SlicesGrow
set_option linter.unusedSimpArgs false
set_option linter.unusedVariables false
set_option maxRecDepth 100000
set_option maxHeartbeats 4000000
namespace Go.Proofs.YtbnomdlojmgigaaGreat
open Go.RowKit Dg
attribute [local go_sem ↓] Go.wp_at_zero Go.wp_at_succ
theorem szN {n:Int} (h:Wn 4294967295 n):SzQ 1 (n:Rat):=szQ_int (by have:=h.1;have:=h.2;omega)
theorem qj {n:Int} (h:Wn 9223372036854775807 n):SzQ 2 (n:Rat):=by
 have h1:=h.1;have h2:=h.2
 refine⟨?_,?_⟩
 ·rw[Rat.num_intCast];show n.natAbs < 4294967296 ^ 2;omega
 rw[Rat.den_intCast];decide
theorem szD {n d:Int} (h:Wn 9223372036854775807 n) (k:Wn 9223372036854775807 d) (hd:d≠0):SzQ 4 ((n:Rat) / (d:Rat)):=SzQ.div (qj h) (qj k) (fun e=>hd (Rat.intCast_eq_zero_iff.1 e))
theorem fh (n:Int) (w:World) (h:Wn 9223372036854775807 n):
  Calls Tryz.prog 72 #[.int .i64 n] w (mp w (n:Rat)):=by
 have hs:=Below.refl w.heap.size w
 go_enter Tryz.func72,Tryz.ntmps72
 go_wp2_with fail
 refine Calls.abs ?_
 intro w1 hW
 have hG:Gr [] w w1:=by rw[hW];exact (Gr.refl _ _).alloc
 have Bg:=hs.size
 have Blk:Bx w1 (w.heap.size) 35 #[.bool false,.slice none 0 0,.slice none 0 0]:=by rw[hW];exact (Bx.new0 _ _ _)
 replace hs:=hs.trans (hG.below0 hs.size)
 clear hW hG
 have Bf:=Blk.lt
 with_reducible refine (p_Int_calls n _ (h.lo64 (by decide)) (h.hi (by decide))).mono ?_
 rintro e w2 ⟨_,rfl,h1,hb⟩
 obtain⟨Bb,B8,Ba,B9,B5,B7,B6,rfl⟩:=h1.shape
 revert Blk;refine mS hs hb ?_;clear hs hb;intro hs Blk
 refine Blk.k3fl fun B2 B3 B4 fk Lk=>?_
 go_wp2
 clear B2 B3 B4 fk Lk
 refine bodyPost.abs ?_
 intro w3 hW
 have hG:Gr [w.heap.size] w2 w3:=by rw[hW];exact (Gr.refl _ _).set.set.set
 have hsz:=hs.size
 have lk:=Blk.lt
 have hk:=hG.keep ⟨⟨_,Blk.ty,by decide⟩,True.intro⟩
 have Bc:Bx w3 (w.heap.size) 35 #[.bool Bb,.slice B8 Ba B9,.slice B5 B7 B6]:=by rw[hW];exact Blk.set3
 replace hs:=hs.trans (hG.d1 hs.size)
 replace Blk:=Bc
 clear Bc
 replace h1:=h1.keep hk
 clear hW hG hk hsz lk
 refine Blk.k3 fun B2 B3 B4=>?_
 exact bodyPost_ret (v:=.agg #[.bool Bb,.slice B8 Ba B9,.slice B5 B7 B6]) (by simp[results,Tryz.results72,go_sem,B2,B3,B4]) rfl ⟨_,rfl,h1,hs⟩
theorem ja9 (n d:Int) (w:World) (h:Wn 9223372036854775807 n) (k:Wn 9223372036854775807 d) (hd:d≠0):
  Calls Tryz.prog 112 #[.int .i64 n,.int .i64 d] w (mp w ((n:Rat) / (d:Rat))):=by
 have hs:=Below.refl w.heap.size w
 go_enter Tryz.func112,Tryz.ntmps112
 go_wp2_with fail
 refine Calls.abs ?_
 intro w1 hW
 have hG:Gr [] w w1:=by rw[hW];exact (Gr.refl _ _).alloc
 have Bg:=hs.size
 have Blk:Bx w1 (w.heap.size) 35 #[.bool false,.slice none 0 0,.slice none 0 0]:=by rw[hW];exact (Bx.new0 _ _ _)
 replace hs:=hs.trans (hG.below0 hs.size)
 clear hW hG
 have Bf:=Blk.lt
 with_reducible refine (p_New_calls n d _ (h.lo64 (by decide)) (h.hi (by decide)) (k.lo64 (by decide)) (k.hi (by decide)) hd).mono ?_
 rintro e w2 ⟨_,rfl,h1,hb⟩
 obtain⟨Bb,B8,Ba,B9,B5,B7,B6,rfl⟩:=h1.shape
 revert Blk;refine mS hs hb ?_;clear hs hb;intro hs Blk
 go_upto_region 2 with fail
 refine Code.abs ?_
 intro w3 hW
 have hG:Gr [] w2 w3:=by rw[hW];exact (Gr.refl _ _).alloc
 have sz_w3:=hs.size
 have nk_w3:=Blk.lt
 have Be:Bx w3 (w2.heap.size) 35 #[.bool Bb,.slice B8 Ba B9,.slice B5 B7 B6]:=by rw[hW];exact (Bx.new0 _ _ _)
 replace hs:=hs.trans (hG.below0 hs.size)
 revert h1 Blk;refine g0 hG ?_;intro h1 Blk
 clear hW hG
 have hz_w3:=Be.lt
 refine Be.k3l fun Bl Bm Bn Lx=>?_
 refine Blk.k3fl fun B2 B3 B4 fk Lk=>?_
 go_wp2
 clear Bl Bm Bn B2 B3 B4 fk Lx Lk
 refine bodyPost.abs ?_
 intro w4 hW
 have hG:Gr [w.heap.size] w3 w4:=by rw[hW];exact (Gr.refl _ _).set.set.set
 have hsz:=hs.size
 have lk:=Blk.lt
 have hk:=hG.keep ⟨⟨_,Blk.ty,by decide⟩,True.intro⟩
 have Bc:Bx w4 (w.heap.size) 35 #[.bool Bb,.slice B8 Ba B9,.slice B5 B7 B6]:=by rw[hW];exact Blk.set3
 replace hs:=hs.trans (hG.d1 hs.size)
 replace Be:=hG.b1 Be
 replace Blk:=Bc
 clear Bc
 replace h1:=h1.keep hk
 clear hW hG hk hsz lk
 refine Blk.k3 fun B2 B3 B4=>?_
 exact bodyPost_ret (v:=.agg #[.bool Bb,.slice B8 Ba B9,.slice B5 B7 B6]) (by simp[results,Tryz.results112,go_sem,B2,B3,B4]) rfl ⟨_,rfl,h1,hs⟩
theorem ed_ends (a b:Pt) (w:World):
  Calls Tryz.prog 156 #[.agg #[.int .i64 a.1,.int .i64 a.2,.int .i64 b.1,.int .i64 b.2]] w (fj w (.tuple #[.int .i64 (min a.1 b.1),.int .i64 (max a.1 b.1)])):=by
 have hs:=Below.refl w.heap.size w
 go_enter Tryz.func156,Tryz.ntmps156
 go_upto_region 1 with fail
 refine Code.abs ?_
 intro w1 hW
 have hG:Gr [] w w1:=by rw[hW];exact (Gr.refl _ _).alloc
 have Bg:=hs.size
 have Bd:Bx w1 (w.heap.size) 89 #[.int .i64 a.1,.int .i64 a.2,.int .i64 b.1,.int .i64 b.2]:=by rw[hW];exact (Bx.new0 _ _ _)
 replace hs:=hs.trans (hG.below0 hs.size)
 clear hW hG
 have Bf:=Bd.lt
 refine bw (S:=fun w'=>w'.cell? ⟨w.heap.size,0,none⟩=some (.int .i64 a.1)∧w'.cell? ⟨w.heap.size,1,none⟩=some (.int .i64 a.2)∧w'.cell? ⟨w.heap.size,2,none⟩=some (.int .i64 b.1)∧w'.cell? ⟨w.heap.size,3,none⟩=some (.int .i64 b.2)) (by kernel_rfl) 16 ?_
 refine cq.abs ?_
 intro w2 hW
 have hb:Below w1.heap.size w1 w2:=by rw[hW];exact de _
 replace hs:=ar hs hb
 replace Bd:=Bd.mono hb
 clear hb hW
 refine Bd.k4 fun Bh Bi Bj Bk=>?_
 have hH:=(show w2.cell? ⟨w.heap.size,0,none⟩=some (.int .i64 a.1)∧w2.cell? ⟨w.heap.size,1,none⟩=some (.int .i64 a.2)∧w2.cell? ⟨w.heap.size,2,none⟩=some (.int .i64 b.1)∧w2.cell? ⟨w.heap.size,3,none⟩=some (.int .i64 b.2) from ⟨Bh,Bi,Bj,Bk⟩)
 refine U_tq 0 4 hH ?_
 refine U_tq 1 5 hH ?_
 refine U_tq 2 6 hH ?_
 refine U_tq 3 7 hH ?_
 refine U_tq 4 8 hH ?_
 refine U_tq 5 9 hH ?_
 refine U_tq 6 10 hH ?_
 refine U_tq 7 11 hH ?_
 refine U_tq 8 12 hH ?_
 refine U_tq 9 13 hH ?_
 refine U_tq 10 14 hH ?_
 refine U_tq 11 15 hH ?_
 refine U_tq 12 16 hH ?_
 refine U_tq 13 17 hH ?_
 refine U_tq 14 2 hH ?_
 refine U_tq 15 3 hH ?_
 clear hH
 refine im (by kernel_rfl) ?_
 clear Bh Bi Bj Bk
 go_wp2
 go_ret2
 exact⟨rfl,hs⟩
end Go.Proofs.YtbnomdlojmgigaaGreat
namespace Go.Proofs.YtbnomdlojmgigaaGreat
open Go.RowKit Dg
attribute [local go_sem ↓] Go.wp_at_zero Go.wp_at_succ
theorem tg (v:Value) (l:List Pt) (w:World) (hl:Pts w v l):Calls Tryz.prog 26 #[v] w (fj w (.int .i64 (fl l))):=by
 by_cases h1:l.length < 3
 ·exact je1 v l w hl h1
 by_cases h2:16 < l.length
 ·exact pl_Check_long v l w hl h1 h2
 exact pl_Check_main v l w hl h1 h2
theorem kg {l:List Pt} (h:fl l=0):l.length≤16∧3≤l.length∧∀p∈l,WP 1048576 p:=by
 unfold fl at h
 split at h
 ·cases h
 split at h
 ·cases h
 split at h
 ·rename_i h1 h2 h3
  exact⟨by omega,by omega,fun p hp=>jm (List.all_eq_true.1 h3 p hp)⟩
 cases h
theorem tw_bd {l:List Pt} (hn:l.length≤1000) (hp:∀p∈l,WP 1048576 p):Wn 2199023255552000 (twZ l):=(twK_wn hp l.length hn).mono (by omega)
theorem pl_size (vl:Value) (l:List Pt) (w:World) (hl:Pts w vl l) (hok:fl l=0):
  Calls Tryz.prog 104 #[vl] w (mp w (up ((twZ l:Int):Rat))):=by
 obtain⟨al,cl,rfl, -, -, -⟩:=hl.slice
 have hs:=Below.refl w.heap.size w
 have Hl:=ae hl
 clear hl
 have HK:=ae (kg hok)
 go_enter Tryz.func104,Tryz.ntmps104
 go_wp2_with fail
 refine Calls.abs ?_
 intro w1 hW
 have hG:Gr [] w w1:=by rw[hW];exact (Gr.refl _ _).alloc
 have sz_w1:=hs.size
 have Blk:Bx w1 (w.heap.size) 35 #[.bool false,.slice none 0 0,.slice none 0 0]:=by rw[hW];exact (Bx.new0 _ _ _)
 replace hs:=hs.trans (hG.below0 hs.size)
 clear hW hG
 have hz_w1:=Blk.lt
 with_reducible refine (pl_twice _ l _ (be.mono IP.kept Hl.out hs) (by have:=(HK.out).1;omega) (HK.out).2.2).mono ?_
 rintro e w2 ⟨rfl,hb⟩
 revert Blk;refine mS hs hb ?_;clear hs hb;intro hs Blk
 obtain⟨tw2,B3⟩:∃s:Int,s=twZ l:=⟨_,rfl⟩
 rw[←B3]
 have Wtw2:Wn 2199023255552000 tw2:=by rw[B3];exact tw_bd (by have:=(HK.out).1;omega) (HK.out).2.2
 replace B3:=ae B3
 go_wp2_with fail
 with_reducible refine (fh tw2 _ (Wtw2.mono (by decide))).mono ?_
 rintro e w3 ⟨_,rfl,h3,hb⟩
 obtain⟨sh3,ah3,nh3,ch3,Ah3,Nh3,Ch3,rfl⟩:=h3.shape
 revert Blk;refine mS hs hb ?_;clear hs hb;intro hs Blk
 go_wp2_with fail
 with_reducible refine (p_Abs_calls _ _ _ h3).mono ?_
 rintro e w4 ⟨_,rfl,h4,hb⟩
 obtain⟨sh4,ah4,nh4,ch4,Ah4,Nh4,Ch4,rfl⟩:=h4.shape
 revert Blk;revert h3;refine mS hs hb ?_;clear hs hb;intro hs h3 Blk
 refine Blk.k3fl fun B7 B8 B9 fk Lk=>?_
 go_wp2
 clear B7 B8 B9 fk Lk
 refine bodyPost.abs ?_
 intro w5 hW
 have hG:Gr [w.heap.size] w4 w5:=by rw[hW];exact (Gr.refl _ _).set.set.set
 have hsz:=hs.size
 have lk:=Blk.lt
 have hk:=hG.keep ⟨⟨_,Blk.ty,by decide⟩,True.intro⟩
 have Ba:Bx w5 (w.heap.size) 35 #[.bool sh4,.slice ah4 nh4 ch4,.slice Ah4 Nh4 Ch4]:=by rw[hW];exact Blk.set3
 replace hs:=hs.trans (hG.d1 hs.size)
 replace Blk:=Ba
 clear Ba
 revert h4 h3;refine ke hk ?_;intro h4 h3
 clear hW hG hk hsz lk
 refine Blk.k3 fun B7 B8 B9=>?_
 exact bodyPost_ret (v:=.agg #[.bool sh4,.slice ah4 nh4 ch4,.slice Ah4 Nh4 Ch4]) (by simp[results,Tryz.results104,go_sem,B7,B8,B9]) rfl ⟨_,rfl,h4.of_eq (by rw[←B3.out]),hs⟩
theorem pl_two (vl:Value) (l:List Pt) (vm:Value) (m:List Pt) (w:World) (hl:Pts w vl l) (hm:Pts w vm m) {r1:Int} (e1:r1=if fl l=0 then fl m else fl l):
  Calls Tryz.prog 67 #[vl,vm] w (fj w (.int .i64 r1)):=by
 obtain⟨al,cl,rfl, -, -, -⟩:=hl.slice
 obtain⟨am,cm,rfl, -, -, -⟩:=hm.slice
 have hs:=Below.refl w.heap.size w
 have Hl:=ae hl
 have Hm:=ae hm
 clear hl hm
 have E1:=ae e1
 clear e1
 go_enter Tryz.func67,Tryz.ntmps67
 go_wp2_with fail
 with_reducible refine (tg _ l _ (be.mono IP.kept Hl.out hs)).mono ?_
 rintro e w1 ⟨rfl,hb⟩
 replace hs:=ar hs hb
 clear hb
 obtain⟨B1,B0⟩:∃s:Int,s=fl l:=⟨_,rfl⟩
 rw[←B0]
 replace B0:=ae B0
 by_cases q2:B1=0
 ·have q2b:(B1 == 0)=true:=beq_iff_eq.2 (by omega)
  have q2n:(B1 != 0)=false:=bne_eq_false_iff_eq.2 (by omega)
  have B2:=ae q2
  clear q2
  go_wp2_with fail
  with_reducible refine (tg _ m _ (be.mono IP.kept Hm.out hs)).mono ?_
  rintro e w2 ⟨rfl,hb⟩
  replace hs:=ar hs hb
  clear hb
  obtain⟨ck3,B5⟩:∃s:Int,s=fl m:=⟨_,rfl⟩
  rw[←B5]
  replace B5:=ae B5
  go_wp2
  go_ret
  exact⟨by rw[show r1=ck3 from by rw[E1.out,if_pos (B0.out.symm.trans B2.out),←B5.out]];rfl,hs⟩
 have q2b:(B1 == 0)=false:=beq_eq_false_iff_ne.2 (by omega)
 have q2n:(B1 != 0)=true:=bne_iff_ne.2 (by omega)
 have B2:=ae q2
 clear q2
 go_wp2
 go_ret
 exact⟨by rw[show r1=B1 from by rw[E1.out,if_neg (fun h=>B2.out (B0.out.trans h)),←B0.out]];rfl,hs⟩
theorem pl_Twice (vl:Value) (l:List Pt) (w:World) (hl:Pts w vl l) {r1 r2:Int} (e1:r1=if fl l=0 then twZ l else 0) (e2:r2=fl l):
  Calls Tryz.prog 23 #[vl] w (Ret2 (fun _ v=>v=.int .i64 r1) (fun _ v=>v=.int .i64 r2) w):=by
 obtain⟨al,cl,rfl, -, -, -⟩:=hl.slice
 have hs:=Below.refl w.heap.size w
 have Hl:=ae hl
 clear hl
 have E1:=ae e1
 clear e1
 have E2:=ae e2
 clear e2
 go_enter Tryz.func23,Tryz.ntmps23
 go_wp2_with fail
 with_reducible refine (tg _ l _ (be.mono IP.kept Hl.out hs)).mono ?_
 rintro e w1 ⟨rfl,hb⟩
 replace hs:=ar hs hb
 clear hb
 obtain⟨B1,B0⟩:∃s:Int,s=fl l:=⟨_,rfl⟩
 rw[←B0]
 replace B0:=ae B0
 by_cases q2:B1=0
 ·have q2b:(B1 == 0)=true:=beq_iff_eq.2 (by omega)
  have q2n:(B1 != 0)=false:=bne_eq_false_iff_eq.2 (by omega)
  have B2:=ae q2
  clear q2
  go_wp2_with fail
  with_reducible refine (pl_twice _ l _ (be.mono IP.kept Hl.out hs) (by have:=((kg (B0.out.symm.trans B2.out))).1;omega) ((kg (B0.out.symm.trans B2.out))).2.2).mono ?_
  rintro e w2 ⟨rfl,hb⟩
  replace hs:=ar hs hb
  clear hb
  obtain⟨tw4,B4⟩:∃s:Int,s=twZ l:=⟨_,rfl⟩
  rw[←B4]
  have Wtw4:Wn 2199023255552000 tw4:=by rw[B4];exact tw_bd (by have:=((kg (B0.out.symm.trans B2.out))).1;omega) ((kg (B0.out.symm.trans B2.out))).2.2
  replace B4:=ae B4
  go_wp2
  go_ret2
  exact⟨_,_,rfl,by rw[show r1=tw4 from by rw[E1.out,if_pos (B0.out.symm.trans B2.out),←B4.out]];rfl,by rw[show r2=0 from by rw[E2.out,←B0.out,B2.out]];rfl,hs⟩
 have q2b:(B1 == 0)=false:=beq_eq_false_iff_ne.2 (by omega)
 have q2n:(B1 != 0)=true:=bne_iff_ne.2 (by omega)
 have B2:=ae q2
 clear q2
 go_wp2
 go_ret2
 exact⟨_,_,rfl,by rw[show r1=0 from by rw[E1.out,if_neg (fun h=>B2.out (B0.out.trans h))]];rfl,by rw[show r2=B1 from by rw[E2.out,←B0.out]];rfl,hs⟩
end Go.Proofs.YtbnomdlojmgigaaGreat
namespace Go.Proofs.YtbnomdlojmgigaaGreat
theorem lsB_iff (p q:Pt):lsB p q=true↔p.1 < q.1∨(p.1=q.1∧p.2 < q.2):=by
 unfold lsB
 simp
theorem fm_least (o:List Pt):∀k j,j < k→lsB (ptZ o j) (ptZ o (fmK o k))=false
 | 0,j,h=>by omega
 | k + 1,j,h=>by
  show lsB (ptZ o j) (ptZ o (if lsB (ptZ o k) (ptZ o (fmK o k))=true then k else fmK o k))=false
  by_cases c:lsB (ptZ o k) (ptZ o (fmK o k))=true
  ·rw[if_pos c]
   by_cases e:j=k
   ·subst e;exact lsB_self _
   ·have ih:=fm_least o k j (by omega)
    rw[Bool.eq_false_iff] at ih ⊢
    intro h1
    refine ih ?_
    rw[lsB_iff] at h1 c ⊢
    omega
  ·rw[if_neg c]
   by_cases e:j=k
   ·subst e;exact Bool.eq_false_iff.2 c
   ·exact fm_least o k j (by omega)
theorem lex_dot {x y u v:Int} (h1:0 < x∨(x=0∧0 < y)) (h2:0 < u∨(u=0∧0 < v)) (h:x * v=y * u):0≤x * u + y * v:=by
 rcases h1 with h1|⟨rfl,h1⟩
 ·rcases h2 with h2|⟨rfl,h2⟩
  ·have a:=Int.mul_pos h1 h2
   by_cases c:0≤y
   ·by_cases d:0≤v
    ·have:=Int.mul_nonneg c d;omega
    ·have b1:=Int.mul_nonneg c (Int.le_of_lt h2)
     have b2:=Int.mul_pos h1 (show 0 < -v by omega)
     rw[Int.mul_neg] at b2
     omega
   ·by_cases d:v≤0
    ·have:=Int.mul_nonneg (show 0≤ -y by omega) (show 0≤ -v by omega)
     rw[Int.neg_mul_neg] at this
     omega
    ·have b1:=Int.mul_pos h1 (show 0 < v by omega)
     have b2:=Int.mul_pos (show 0 < -y by omega) h2
     rw[Int.neg_mul] at b2
     omega
  ·have a:=Int.mul_pos h1 h2
   rw[Int.mul_zero] at h
   omega
 ·rcases h2 with h2|⟨rfl,h2⟩
  ·have a:=Int.mul_pos h1 h2
   rw[Int.zero_mul] at h
   omega
  ·have a:=Int.mul_pos h1 h2
   omega
theorem nrK_nil {l:List Pt}:∀n,nrK l n=[]→∀j,j < n→kpB l j=false
 | 0,_,j,h=>by omega
 | n + 1,h,j,hj=>by
  have h':(if kpB l n=true then nrK l n ++ [cyP l n] else nrK l n)=[]:=h
  by_cases c:kpB l n=true
  ·rw[if_pos c] at h'
   simp at h'
  ·rw[if_neg c] at h'
   by_cases e:j=n
   ·subst e;exact Bool.eq_false_iff.2 c
   ·exact nrK_nil n h' j (by omega)
theorem nr_ne {l:List Pt} (h:fl l=0):0 < (nrK l l.length).length:=by
 refine Nat.pos_of_ne_zero fun h0=>?_
 have hn:=nrK_nil l.length (List.length_eq_zero_iff.1 h0)
 obtain⟨h3,h16,hr,hd⟩:=valid_ne h
 have ht:fmK l l.length < l.length:=by have:=fmK_le l l.length;omega
 have hl:=fm_least l l.length
 generalize fmK l l.length=t at ht hl
 have hk:=hn t ht
 unfold kpB at hk
 rw[decide_eq_false_iff_not,Classical.not_not,cyP_lt ht] at hk
 have e1:cyP l (t + l.length - 1)=ptZ l ((t + l.length - 1) % l.length):=rfl
 have e2:cyP l (t + 1)=ptZ l ((t + 1) % l.length):=rfl
 have d1:=hd (t + l.length - 1)
 rw[show t + l.length - 1 + 1=t + l.length by omega,cyP_add,cyP_lt ht] at d1
 have d2:=hd t
 rw[cyP_lt ht] at d2
 have l1:=hl ((t + l.length - 1) % l.length) (Nat.mod_lt _ (by omega))
 have l2:=hl ((t + 1) % l.length) (Nat.mod_lt _ (by omega))
 rw[e1] at hk d1
 rw[e2] at hk d2
 unfold fl at h
 rw[if_neg (by omega),if_neg (by omega),if_pos (List.all_eq_true.2 hr)] at h
 split at h
 ·cases h
 ·rename_i hb
  rw[Bool.not_eq_true,List.any_eq_false] at hb
  have hb:=hb t (List.mem_range.2 ht)
  unfold uj qm at hb
  refine hb ?_
  generalize ptZ l ((t + l.length - 1) % l.length)=a at hk d1 l1 ⊢
  generalize ptZ l ((t + 1) % l.length)=c at hk d2 l2 ⊢
  generalize ptZ l t=v at hk d1 d2 l1 l2 ⊢
  rw[Bool.eq_false_iff,Ne,lsB_iff] at l1 l2
  have n1:¬ (a.1=v.1∧a.2=v.2):=fun e=>d1 (Prod.ext e.1 e.2)
  have n2:¬ (v.1=c.1∧v.2=c.2):=fun e=>d2 (Prod.ext e.1 e.2)
  have hc:crZ (mnZ a v) (mnZ c v)=0:=by
   unfold tnZ at hk
   unfold crZ mnZ
   grind
  have hc':(a.1 - v.1) * (c.2 - v.2)=(a.2 - v.2) * (c.1 - v.1):=by
   unfold crZ mnZ at hc
   simp only at hc
   omega
  have hdt:0≤dtZ (mnZ a v) (mnZ c v):=lex_dot (x:=a.1 - v.1) (y:=a.2 - v.2) (u:=c.1 - v.1) (v:=c.2 - v.2) (by omega) (by omega) hc'
  rw[decide_eq_true hc,decide_eq_true hdt]
  rfl
theorem cc_len (l:List Pt):(ccZ l).length=(nrK l l.length).length:=by
 unfold ccZ
 split
 ·exact List.length_reverse
 ·rfl
theorem cc_pos {l:List Pt} (h:fl l=0):0 < (ccZ l).length:=by rw[cc_len];exact nr_ne h
theorem nm_len (l:List Pt):(nmZ l).length=(ccZ l).length:=by
 unfold nmZ
 have:=fmK_le (ccZ l) (ccZ l).length
 rw[List.length_append,List.length_drop,List.length_take]
 omega
theorem nr_mem {l:List Pt}:∀k,∀p∈nrK l k,∃j,p=cyP l j
 | 0,p,h=>by cases h
 | k + 1,p,h=>by
  have h':p∈(if kpB l k=true then nrK l k ++ [cyP l k] else nrK l k):=h
  split at h'
  ·rcases List.mem_append.1 h' with h'|h'
   ·exact nr_mem k p h'
   ·exact⟨k,List.mem_singleton.1 h'⟩
  ·exact nr_mem k p h'
theorem cc_mem {l:List Pt} {p:Pt} (h:p∈ccZ l):∃j,p=cyP l j:=by
 unfold ccZ at h
 split at h
 ·exact nr_mem _ p (List.mem_reverse.1 h)
 ·exact nr_mem _ p h
theorem nm_mem {l:List Pt} {p:Pt} (h:p∈nmZ l):∃j,p=cyP l j:=by
 unfold nmZ at h
 rcases List.mem_append.1 h with h|h
 ·exact cc_mem (List.mem_of_mem_drop h)
 ·exact cc_mem (List.mem_of_mem_take h)
theorem nr_step (l:List Pt) {k:Nat} (hk:k < l.length) (b:Bool) (hb:kpB l k=b):nrK l (k + 1)=nrK l k ++ (if b=true then [ptZ l k] else []):=by
 show (if kpB l k=true then nrK l k ++ [cyP l k] else nrK l k)=_
 rw[hb]
 cases b
 ·simp
 ·rw[if_pos rfl,if_pos rfl,cyP_lt hk]
def rvK (o:List Pt) (k:Nat):List Pt:=(o.drop k).reverse
theorem rvK_end (o:List Pt):rvK o o.length=[]:=by unfold rvK;simp
theorem rvK_zero (o:List Pt):rvK o 0=o.reverse:=by unfold rvK;simp
theorem rvK_len (o:List Pt) (k:Nat):(rvK o k).length=o.length - k:=by unfold rvK;simp
theorem rvK_step {o:List Pt} {k:Nat} (h:k < o.length):rvK o k=rvK o (k + 1) ++ [ptZ o k]:=by
 unfold rvK
 rw[List.drop_eq_getElem_cons h,List.reverse_cons]
 unfold ptZ
 rw[List.getD_eq_getElem?_getD,List.getElem?_eq_getElem h]
 rfl
theorem fm_step (o:List Pt) (k:Nat) (b:Bool) (hb:lsB (ptZ o k) (ptZ o (fmK o k))=b):fmK o (k + 1)=if b=true then k else fmK o k:=by
 show (if lsB (ptZ o k) (ptZ o (fmK o k))=true then k else fmK o k)=_
 rw[hb]
end Go.Proofs.YtbnomdlojmgigaaGreat
namespace Go.Proofs.YtbnomdlojmgigaaGreat
open Go.RowKit Dg
attribute [local go_sem ↓] Go.wp_at_zero Go.wp_at_succ
def orZ (x y:Int):Int:=if x=0 then y else x
def cpZ (p q:Pt):Int:=orZ (cmZ p.1 q.1) (cmZ p.2 q.2)
theorem cp_ls (p q:Pt):decide (cpZ p q < 0)=lsB p q:=by
 have h:cpZ p q < 0↔(p.1 < q.1∨(p.1=q.1∧p.2 < q.2)):=by
  unfold cpZ orZ cmZ
  constructor
  ·intro h
   repeat' split at h
   all_goals omega
  intro h
  repeat' split
  all_goals omega
 rw[Bool.eq_iff_iff,lsB_iff,decide_eq_true_iff]
 exact h
theorem el_at {g k:Nat} {x y:Int} {w:World} (hx:w.cell? ⟨g,0,none⟩=some (.int .i64 x)) (hy:w.cell? ⟨g,1,none⟩=some (.int .i64 y)) (hk:k < 2):w.cell? ⟨g,k,none⟩=some (.int .i64 (if k=0 then x else y)):=by
 by_cases k0:k=0
 ·subst k0;exact hx
 obtain rfl:k=1:=by omega
 exact hy
theorem or_nx {k:Nat} {x y e:Int} (hz:(1≤k→x=0)∧(2≤k→y=0)) (hk:k < 2) (he:e=if k=0 then x else y) (h0:e=0):(1≤k + 1→x=0)∧(2≤k + 1→y=0):=by
 split at he
 ·exact⟨fun _=>by omega,fun _=>by omega⟩
 exact⟨fun _=>hz.1 (by omega),fun _=>by omega⟩
theorem or_ret {k:Nat} {x y e:Int} (hz:(1≤k→x=0)∧(2≤k→y=0)) (he:e=if k=0 then x else y) (h0:¬ e=0):orZ x y=e:=by
 unfold orZ
 split at he
 ·rw[if_neg (by omega)];exact he.symm
 rw[if_pos (hz.1 (by omega))];exact he.symm
theorem or_end {k:Nat} {x y:Int} (hz:(1≤k→x=0)∧(2≤k→y=0)) (hk:2≤k):orZ x y=0:=by
 unfold orZ
 rw[if_pos (hz.1 (by omega))];exact hz.2 hk
theorem cm_Or (g:Nat) (x y:Int) (w:World) (hx:w.cell? ⟨g,0,none⟩=some (.int .i64 x)) (hy:w.cell? ⟨g,1,none⟩=some (.int .i64 y)):Calls Tryz.prog 129 #[.slice (some ⟨g,0,none⟩) 2 2] w (fj w (.int .i64 (orZ x y))):=by
 have hs:=Below.refl w.heap.size w
 have HX:=ae hx
 have HY:=ae hy
 clear hx hy
 go_enter Tryz.func129,Tryz.ntmps129
 go_wp2
 go_loopw [8] (fun s8 wq=>∃k:Nat,k≤2∧s8=.int .i64 k∧Below w.heap.size w wq∧((1≤k→x=0)∧(2≤k→y=0))) (fun s8 _=>2 - (intOf s8).toNat)
 case atStart=>exact⟨0,Nat.zero_le _,rfl,hs,⟨fun h=>by omega,fun h=>by omega⟩⟩
 case round=>
  clear hs
  obtain⟨k,k_le,rfl,hs,HZ⟩:=hrel
  obtain⟨wl1,hwo⟩:∃x,x=wr:=⟨_,rfl⟩
  subst hwo
  replace HZ:=ae HZ
  by_cases q1:k < 2
  ·have q1d:((k:Int) < 2)=True:=eq_true (by omega)
   obtain⟨ee2,Hee2⟩:∃z:Int,z=if k=0 then x else y:=⟨_,rfl⟩
   have Ee2:wl1.cell? ⟨g,k,none⟩=some (.int .i64 ee2):=by rw[Hee2];exact el_at (ah HX.out hs) (ah HY.out hs) (by omega)
   replace Hee2:=ae Hee2
   by_cases q3:ee2=0
   ·have q3b:(ee2 == 0)=true:=beq_iff_eq.2 (by omega)
    have q3n:(ee2 != 0)=false:=bne_eq_false_iff_eq.2 (by omega)
    have q3H:=ae q3
    clear q3
    have AX4:IntKind.i64.wrap ((k:Int) + 1)=(k:Int) + 1:=IntWalk.i64_in _ (by omega)
    go_wp2
    go_roundw
    case rel=>exact⟨k + 1,by omega,by go_num,hs,(or_nx HZ.out (by omega) Hee2.out q3H.out)⟩
    all_goals first|(simp[intOf];done)|(simp[intOf];omega)
   have q3b:(ee2 == 0)=false:=beq_eq_false_iff_ne.2 (by omega)
   have q3n:(ee2 != 0)=true:=bne_iff_ne.2 (by omega)
   have q3H:=ae q3
   clear q3
   go_wp2
   clear Ee2
   go_ret
   exact⟨by rw[or_ret HZ.out Hee2.out q3H.out];rfl,hs⟩
  have q1d:((k:Int) < 2)=False:=eq_false (by omega)
  go_wp2
  go_ret
  exact⟨by rw[or_end HZ.out (by omega)];rfl,hs⟩
theorem pl_compare (p q:Pt) (w:World):Calls Tryz.prog 100 #[.agg #[.int .i64 p.1,.int .i64 p.2],.agg #[.int .i64 q.1,.int .i64 q.2]] w (fj w (.int .i64 (cpZ p q))):=by
 have hs:=Below.refl w.heap.size w
 go_enter Tryz.func100,Tryz.ntmps100
 go_upto_region 1 with fail
 refine Code.abs ?_
 intro w1 hW
 have hG:Gr [] w w1:=by rw[hW];exact (Gr.refl _ _).alloc.alloc
 have sz_w1:=hs.size
 have Bla:Bx w1 (w.heap.size) 31 #[.int .i64 p.1,.int .i64 p.2]:=by rw[hW];exact ((Bx.new0 _ _ _).alloc _)
 have Blb:Bx w1 (w.heap.size + 1) 31 #[.int .i64 q.1,.int .i64 q.2]:=by rw[hW];exact (Bx.new0 _ _ _)
 replace hs:=hs.trans (hG.below0 hs.size)
 clear hW hG
 have hz_w1:=Blb.lt
 refine bw (S:=fun w'=>w'.cell? ⟨w.heap.size,0,none⟩=some (.int .i64 p.1)∧w'.cell? ⟨w.heap.size,1,none⟩=some (.int .i64 p.2)∧w'.cell? ⟨w.heap.size + 1,0,none⟩=some (.int .i64 q.1)∧w'.cell? ⟨w.heap.size + 1,1,none⟩=some (.int .i64 q.2)) (by kernel_rfl) 12 ?_
 refine cq.abs ?_
 intro w2 hW
 have hb:Below w1.heap.size w1 w2:=by rw[hW];exact de _
 replace hs:=ar hs hb
 revert Bla Blb;refine mo hb ?_;intro Bla Blb
 clear hb hW
 refine Bla.k2 fun B0 B1=>?_
 refine Blb.k2 fun B2 B3=>?_
 have hH:=(show w2.cell? ⟨w.heap.size,0,none⟩=some (.int .i64 p.1)∧w2.cell? ⟨w.heap.size,1,none⟩=some (.int .i64 p.2)∧w2.cell? ⟨w.heap.size + 1,0,none⟩=some (.int .i64 q.1)∧w2.cell? ⟨w.heap.size + 1,1,none⟩=some (.int .i64 q.2) from ⟨B0,B1,B2,B3⟩)
 refine cz 0 ?_ ?_ hH ?_
 rotate_left
 ·(intro w hSw;(try dsimp only at hSw);go_simp;try with_reducible rfl)
 try simp only[LY]
 refine cz 1 ?_ ?_ hH ?_
 rotate_left
 ·(intro w hSw;(try dsimp only at hSw);go_simp;try with_reducible rfl)
 try simp only[LY]
 refine cz 2 ?_ ?_ hH ?_
 rotate_left
 ·(intro w hSw;(try dsimp only at hSw);go_simp;try with_reducible rfl)
 try simp only[LY]
 refine cz 3 ?_ ?_ hH ?_
 rotate_left
 ·(intro w hSw;(try dsimp only at hSw);go_simp;try with_reducible rfl)
 try simp only[LY]
 refine cz 5 ?_ ?_ hH ?_
 rotate_left
 ·(intro w hSw;(try dsimp only at hSw);go_simp;try with_reducible rfl)
 try simp only[LY]
 refine cz 6 ?_ ?_ hH ?_
 rotate_left
 ·(intro w hSw;(try dsimp only at hSw);go_simp;try with_reducible rfl)
 try simp only[LY]
 refine cz 7 ?_ ?_ hH ?_
 rotate_left
 ·(intro w hSw;(try dsimp only at hSw);go_simp;try with_reducible rfl)
 try simp only[LY]
 refine cz 8 ?_ ?_ hH ?_
 rotate_left
 ·(intro w hSw;(try dsimp only at hSw);go_simp;try with_reducible rfl)
 try simp only[LY]
 clear hH
 refine U_on 4 fun K hK=>?_
 go_simp
 (with_reducible refine (cm_Compare p.1 q.1 _).mono ?_)
 rintro e w3 ⟨rfl,hb⟩
 replace hs:=ar hs hb
 revert Bla Blb;refine mo hb ?_;intro Bla Blb
 replace B0:=ah B0 hb
 replace B1:=ah B1 hb
 replace B2:=ah B2 hb
 replace B3:=ah B3 hb
 clear hb
 try go_wp2_with fail
 refine hK.out _ _ ⟨B0,B1,B2,B3⟩ (fun hH=>?_)
 clear hK K
 try simp only[LY]
 clear hH
 refine U_on 9 fun K hK=>?_
 go_simp
 (with_reducible refine (cm_Compare p.2 q.2 _).mono ?_)
 rintro e w4 ⟨rfl,hb⟩
 replace hs:=ar hs hb
 revert Bla Blb;refine mo hb ?_;intro Bla Blb
 replace B0:=ah B0 hb
 replace B1:=ah B1 hb
 replace B2:=ah B2 hb
 replace B3:=ah B3 hb
 clear hb
 try go_wp2_with fail
 refine hK.out _ _ ⟨B0,B1,B2,B3⟩ (fun hH=>?_)
 clear hK K
 try simp only[LY]
 clear hH
 refine U_on 10 fun K hK=>?_
 go_simp
 generalize hWn:(w4.alloc (.cells #[.int .i64 (cmZ p.1 q.1),.int .i64 (cmZ p.2 q.2)] 3))=w5
 have hb:Below w4.heap.size w4 w5:=by rw[←hWn];exact (Below.refl _ _).alloc (ag _) _
 have B4:Bx w5 (w4.heap.size) 3 #[.int .i64 (cmZ p.1 q.1),.int .i64 (cmZ p.2 q.2)]:=by rw[←hWn];exact Bx.new _ _ _
 have na_ls:w.heap.size≠w4.heap.size:=by have:=Bla.lt;omega
 have nb_ls:w.heap.size + 1≠w4.heap.size:=by have:=Blb.lt;omega
 have sz_ls:=hs.size
 replace hs:=ar hs hb
 revert Bla Blb;refine mo hb ?_;intro Bla Blb
 replace B0:=ah B0 hb
 replace B1:=ah B1 hb
 replace B2:=ah B2 hb
 replace B3:=ah B3 hb
 clear hb hWn
 refine hK.out _ _ ⟨B0,B1,B2,B3⟩ (fun hH=>?_)
 clear hK K
 try simp only[LY]
 clear hH
 refine U_on 11 fun K hK=>?_
 go_simp
 (with_reducible refine (cm_Or _ (cmZ p.1 q.1) (cmZ p.2 q.2) _ (B4.at 0 rfl) (B4.at 1 rfl)).mono ?_)
 rintro e w6 ⟨rfl,hb⟩
 replace hs:=ar hs hb
 revert B4 Bla Blb;refine mo hb ?_;intro B4 Bla Blb
 replace B0:=ah B0 hb
 replace B1:=ah B1 hb
 replace B2:=ah B2 hb
 replace B3:=ah B3 hb
 clear hb
 try go_wp2_with fail
 refine hK.out _ _ ⟨B0,B1,B2,B3⟩ (fun hH=>?_)
 clear hK K
 try simp only[LY]
 clear hH
 refine dr (by kernel_rfl) rfl (by kernel_rfl) (fun K hK=>?_)
 go_simp
 refine hK.out _ _ ?_
 clear hK K
 intro wl hW
 rw[hW]
 clear hW wl
 try simp only[LY]
 clear B0 B1 B2 B3
 go_wp2
 go_ret
 exact⟨rfl,hs⟩
end Go.Proofs.YtbnomdlojmgigaaGreat
namespace Go.Proofs.YtbnomdlojmgigaaGreat
open Go Go.RowKit Dg
theorem rows_flatG {α:Type} {size:Nat} {T:TypeId} {R:World→List Value→α→Prop} (hz:0 < size) (hone:∀(w:World) (cs:List Value) (x:α),R w cs x→∀u∈cs,u.oneCell'=true) {w:World} {b o n c:Nat} {l:List α} (h:Rows size T R w (.slice (some ⟨b,o,none⟩) n c) l):
  ∃css:List (List Value),css.length=l.length∧(∀cs∈css,cs.length=size)∧(∀(i:Nat) (cs:List Value) (x:α),css[i]?=some cs→l[i]?=some x→R w cs x)∧
  (∀u∈css.flatten,u.oneCell'=true)∧∀j u,css.flatten[j]?=some u→w.cell? ((⟨b,o,none⟩:Addr).add j)=some u:=by
 have hall:∀i,i < l.length→∃cs:List Value,cs.length=size∧jp w b (o + i * size) cs∧∀x,l[i]?=some x→R w cs x:=fun i hi=>by
  obtain⟨b',o',c',cs,hv,hl,hat,hc⟩:=h.get (List.getElem?_eq_getElem hi)
  obtain⟨e,rfl⟩:=yk hv
  injection e with e
  injection e with e1 e2
  subst e1 e2
  exact⟨cs,hl,hat,fun x hx=>by rw[List.getElem?_eq_getElem hi] at hx;cases hx;exact hc⟩
 obtain⟨f,hf⟩:=choose_lt' hall
 have hg:∀(i:Nat) (cs:List Value),((List.range l.length).map f)[i]?=some cs→i < l.length∧cs=f i:=fun i cs hc=>by
  rw[List.getElem?_map] at hc
  by_cases hi:i < l.length
  ·rw[List.getElem?_range hi] at hc
   simp only[Option.map_some,Option.some.injEq] at hc
   exact⟨hi,hc.symm⟩
  ·rw[List.getElem?_eq_none (by simpa using hi)] at hc
   cases hc
 have h3:∀cs∈(List.range l.length).map f,cs.length=size:=fun cs hcs=>by
  obtain⟨i,hi,rfl⟩:=List.mem_map.1 hcs
  exact (hf i (List.mem_range.1 hi)).1
 refine⟨(List.range l.length).map f,by simp,h3,fun i cs x hc hx=>?_,fun u hu=>?_,fun j u hu=>?_⟩
 ·obtain⟨hi,rfl⟩:=hg i cs hc
  exact (hf i hi).2.2 x hx
 ·obtain⟨cs,hcs,hu⟩:=List.mem_flatten.1 hu
  obtain⟨i,hi,rfl⟩:=List.mem_map.1 hcs
  have hi:=List.mem_range.1 hi
  exact hone _ _ _ ((hf i hi).2.2 _ (List.getElem?_eq_getElem hi)) u hu
 ·have hj:j < l.length * size:=by
   have h1:=(List.getElem?_eq_some_iff.1 hu).1
   rw[dz _ h3] at h1
   simpa using h1
  have hm:=Nat.mod_lt j hz
  have hd:=Nat.div_add_mod j size
  rw[Nat.mul_comm] at hd
  have hi:j / size < l.length:=Nat.div_lt_of_lt_mul (by rw[Nat.mul_comm];exact hj)
  have e:=js _ h3 (j / size) (j % size) (f (j / size)) (by rw[List.getElem?_map,List.getElem?_range hi];rfl) hm
  rw[hd,hu] at e
  have:=(hf (j / size) hi).2.1 (j % size) u e.symm
  rw[iy]
  rw[Nat.add_assoc,hd] at this
  exact this
theorem cw.pushG {α:Type} {base size:Nat} {T:TypeId} {R:World→List Value→α→Prop} (hR:ir R) {w w':World} {l m:List α} {css dss:List (List Value)} (h1:css.length=l.length) (h2:∀cs∈css,cs.length=size) (h3:∀(i:Nat) (cs:List Value) (x:α),css[i]?=some cs→l[i]?=some x→R w cs x)
  (d1:dss.length=m.length) (d2:∀cs∈dss,cs.length=size) (d3:∀(i:Nat) (cs:List Value) (x:α),dss[i]?=some cs→m[i]?=some x→R w cs x) {v':Value}
  (hown:w'.ownsRow base T size v' (l.length + m.length) (css.flatten ++ dss.flatten)) (hk:aw w w'):cw base T size R w' v' (l ++ m):=by
 refine⟨css ++ dss,by simp[h1,d1],?_,?_,?_⟩
 ·intro c hc
  rcases List.mem_append.1 hc with h|h
  ·exact h2 c h
  ·exact d2 c h
 ·intro i c y hc hy
  by_cases hi:i < l.length
  ·rw[List.getElem?_append_left (by omega)] at hc
   rw[List.getElem?_append_left hi] at hy
   exact hR _ _ _ _ (h3 i c y hc hy) hk
  ·rw[List.getElem?_append_right (by omega),h1] at hc
   rw[List.getElem?_append_right (by omega)] at hy
   exact hR _ _ _ _ (d3 _ c y hc hy) hk
 ·rw[List.length_append,List.flatten_append];exact hown
theorem zx {α:Type} {P:Program} {base size bytes:Nat} {T t ty:TypeId} {i:TypeInfo} {z:Value} {R:World→List Value→α→Prop} (hR:ir R) (hone:∀(w:World) (cs:List Value) (x:α),R w cs x→∀u∈cs,u.oneCell'=true) (hT:T≠108∧T≠150)
  (ht:P.underlying t=some (.slice T)) (hi:P.info? T=some i) (hz:i.zero=some z) (hsize:i.size=size) (hby:i.bytes=bytes) (hzs:z.cells.size=size) (hsz:0 < size)
  {w:World} {v x:Value} {l m:List α} (hO:cw base T size R w v l) (hX:Rows size T R w x m) (h63:l.length + m.length≤maxLen) (hbytes:(l.length + m.length) * bytes≤140737488355328) (hbase:base≤w.heap.size):
  ∃v' w',(Builtin.append_ #[t,t] ty #[v,x]).run P w=.ok v' w'∧cw base T size R w' v' (l ++ m)∧Below base w w'∧dg T w w':=by
 by_cases hm:m.length=0
 ·obtain rfl:m=[]:=List.length_eq_zero_iff.1 hm
  obtain⟨ao,c,rfl, -, -, -⟩:=hX.slice
  obtain⟨a1,c1,rfl,hc1, -,hc3⟩:=hO.slice
  refine⟨_,w,?_,by rw[List.append_nil];exact hO,Below.refl _ _,dg.refl _ _⟩
  have hfc:(Builtin.firstCells size 0 (.slice ao 0 c)).run P w=.ok #[] w:=by
   cases ao with
   | none=>exact run_firstCells_none w _ _ _ _
   | some ad=>exact run_firstCells_some w size 0 ad 0 c [] (by simp) (by simp)
  have hso:(sizeOf T).run P w=.ok size w:=by rw[←hsize];simp[sizeOf,typeInfo,hi]
  cases a1 with
  | none=>simp[Builtin.append_,run_underlying ht,hso,hfc,Builtin.lenOf,hc1]
  | some ad=>simp[Builtin.append_,run_underlying ht,hso,hfc,Builtin.lenOf,hc1,storeCells]
 ·obtain⟨b,o,c,rfl, -, -, -⟩:=hX.open_ (by omega)
  obtain⟨css,h1,h2,h3,h4⟩:=hO
  obtain⟨dss,d1,d2,d3,d4,d5⟩:=rows_flatG hsz hone hX
  obtain⟨g,cap,w',hr,k1,k2,k3,k4⟩:=run_append_lies (P:=P) w t ty base T i z size bytes ht hi hz hsize hby hzs hsz v l.length _ h4 ⟨b,o,none⟩ m.length c dss.flatten (by rw[dz _ d2,d1]) d5 d4 (by omega) h63 hbytes hbase _ rfl
  exact⟨_,w',hr,cw.pushG hR h1 h2 h3 d1 d2 d3 k1 (aw.owns h4 k2 hT),(Below.refl base w).grown k2 hbase (fun k hk=>(h4.lt k hk).1),iu h4 k2⟩
theorem jg1 {α:Type} {P:Program} {o:Oper} {a:Act} {K:Act→World→Prop} {Q:Exit→Act→World→Prop} (s y:Operand) {base size bytes:Nat} {T t:TypeId} {i:TypeInfo} {z:Value} {R:World→List Value→α→Prop} (hR:ir R) (hone:∀(w:World) (cs:List Value) (x:α),R w cs x→∀u∈cs,u.oneCell'=true) (hT:T≠108∧T≠150)
  (ho:o.op=.call {callee:=.builtin .append,args:=#[s,y],argTypes:=#[t,t]})
  (ht:P.underlying t=some (.slice T)) (hi:P.info? T=some i) (hz:i.zero=some z) (hsize:i.size=size) (hby:i.bytes=bytes) (hzs:z.cells.size=size) (hsz:0 < size)
  {w:World} {v x:Value} {l m:List α} (hs:a.eval s=v) (hx:a.eval y=x) (hO:cw base T size R w v l) (hX:Rows size T R w x m) (h63:l.length + m.length≤maxLen) (hbytes:(l.length + m.length) * bytes≤140737488355328) (hbase:base≤w.heap.size)
  (h:∀v' w',cw base T size R w' v' (l ++ m)→Below base w w'→dg T w w'→K (a.put o.dst v') w'):o.wp P a w K Q:=by
 obtain⟨v',w',hr,h2,h3,h4⟩:=zx (P:=P) (t:=t) (ty:=o.type) hR hone hT ht hi hz hsize hby hzs hsz hO hX h63 hbytes hbase
 unfold Oper.wp execOp
 simp only[ho,resolve,invoke,builtin,Sem.run_bind,Sem.run_pure,Result.andThen_ok,List.map_toArray,List.map_cons,List.map_nil,hs,hx,hr]
 exact h v' w' h2 h3 h4
end Go.Proofs.YtbnomdlojmgigaaGreat
namespace Go.Proofs.YtbnomdlojmgigaaGreat
open Go Go.RowKit Dg
theorem rows_drop {α:Type} {size:Nat} {T:TypeId} {R:World→List Value→α→Prop} {w:World} {b o n c:Nat} {l:List α} (h:Rows size T R w (.slice (some ⟨b,o,none⟩) n c) l) {k n' c':Nat} (hk:k≤l.length) (hn:n'=l.length - k) (hc:n'≤c') (hc':c'≤9223372036854775807):
  Rows size T R w (.slice (some ⟨b,o + k * size,none⟩) n' c') (l.drop k):=by
 obtain⟨ao,c0,e,h1,h2,h3,h4,h5⟩:=h
 injection e with e _ _
 subst e hn
 refine⟨some ⟨b,o + k * size,none⟩,c',by rw[List.length_drop],by rw[List.length_drop];omega,hc',(fun e=>by cases e),fun a ha hl=>?_,fun i x hx=>?_⟩
 ·cases ha
  rw[List.length_drop] at hl
  exact h4 ⟨b,o,none⟩ rfl (by omega)
 ·rw[List.getElem?_drop] at hx
  obtain⟨b',o',cs,e,h6,h7,h8⟩:=h5 _ _ hx
  cases e
  exact⟨b,o + k * size,cs,rfl,h6,by rw[Nat.add_assoc,←Nat.add_mul];exact h7,h8⟩
theorem cw.nilAt {α:Type} {base size g:Nat} {T:TypeId} {R:World→List Value→α→Prop} {w:World} (h:Bx w g T #[]) (hb:base≤g):cw base T size R w (.slice (some ⟨g,0,none⟩) 0 0) ([]:List α):=
 ⟨[],rfl,by simp,by simp,by simp,.inr ⟨g,0,#[],rfl,hb,h,ag _,Nat.zero_le _,by simp,by simp⟩⟩
theorem ip_one:∀(w:World) (cs:List Value) (x:Pt),IP w cs x→∀u∈cs,u.oneCell'=true:=fun w cs x h u hu=>by
 unfold IP at h
 subst h
 simp only[List.mem_cons,List.mem_nil_iff,or_false] at hu
 rcases hu with rfl|rfl<;>rfl
theorem pt_info:(Tryz.prog.info? 31).map (fun i=>(i.zero,i.size,i.bytes))=some (some (.agg #[.int .i64 0,.int .i64 0]),2,16):=by kernel_rfl
theorem Rows.below {α:Type} {size:Nat} {T:TypeId} {R:World→List Value→α→Prop} {w w':World} {v:Value} {l:List α} (hR:ir R) {B:Nat} (h:Rows size T R w v l) (hB:w.heap.size=B) (hb:Below B w w'):Rows size T R w' v l:=by
 subst hB;exact h.mono hR hb
end Go.Proofs.YtbnomdlojmgigaaGreat
namespace Go.Proofs.YtbnomdlojmgigaaGreat
open Go Go.RowKit Dg Go.Shelf
theorem wpList_append_rows {α:Type} {P:Program} {ops:Array Oper} {rest:List Oper} {o:Oper} {a:Act} {Q:Exit→Act→World→Prop} (hgd:o.guard=none) (s y:Operand) {base size bytes:Nat} {T t:TypeId} {i:TypeInfo} {z:Value} {R:World→List Value→α→Prop} (hR:ir R) (hone:∀(w:World) (cs:List Value) (x:α),R w cs x→∀u∈cs,u.oneCell'=true) (hT:T≠108∧T≠150)
  (ho:o.op=.call {callee:=.builtin .append,args:=#[s,y],argTypes:=#[t,t]})
  (ht:P.underlying t=some (.slice T)) (hi:P.info? T=some i) (hz:i.zero=some z) (hsize:i.size=size) (hby:i.bytes=bytes) (hzs:z.cells.size=size) (hsz:0 < size)
  {w:World} {v x:Value} {l m:List α} (hs:a.eval s=v) (hx:a.eval y=x) (hO:cw base T size R w v l) (hX:Rows size T R w x m) (h63:l.length + m.length≤maxLen) (hbytes:(l.length + m.length) * bytes≤140737488355328) (hbase:base≤w.heap.size)
  (h:∀v' w',cw base T size R w' v' (l ++ m)→Below base w w'→dg T w w'→wpList P ops Q rest (a.put o.dst v') w'):wpList P ops Q (o ::rest) a w:=
 wpList_plain hgd fun _ hK=>jg1 s y hR hone hT ho ht hi hz hsize hby hzs hsz hs hx hO hX h63 hbytes hbase fun v' w' h2 h3 h4=>hK _ _ (h v' w' h2 h3 h4)
theorem cw.nilCap {α:Type} {base size g cap:Nat} {T:TypeId} {R:World→List Value→α→Prop} {w:World} {cur:Array Value} (h:w.heap[g]?=some (.cells cur T (0,0))) (hb:base≤g) (hc:cap≤maxLen) (hs:cur.size=cap * size):cw base T size R w (.slice (some ⟨g,0,none⟩) 0 cap) ([]:List α):=
 ⟨[],rfl,by simp,by simp,by simp,.inr ⟨g,cap,cur,rfl,hb,h,Nat.zero_le _,hc,hs,by simp⟩⟩
theorem sl_GrowP {B:Nat} (w:World) (hB:B≤w.heap.size) (n:Nat) (h1:1≤n) (h2:n≤1000000):Calls Tryz.prog 130 #[.slice none 0 0,.int .i64 n] w (Ret1 (fun w' v=>cw B 31 2 IP w' v []) w):=by
 obtain⟨i0,hi,hz0,hz1,hz2⟩:=info_parts pt_info
 have hcon:=Any8.slices_Grow_grow Tryz.growP i0 _ hi hz0 (by omega) none 0 0 n [] w (ag _) (by omega) (by rw[hz2];omega) (by omega) (by simp) (fun _=>rfl) (fun a e=>by cases e)
 change Calls Tryz.prog 130 _ _ _ at hcon
 refine hcon.mono ?_
 rintro e w' ⟨rfl,rfl⟩
 have hm:grownCap w (0 + n) 0 31≤maxLen:=grownCap_le_maxLen _ _ _ _ (by unfold maxLen;omega)
 refine⟨_,rfl,cw.nilCap (heap_alloc_new w.drew _) hB hm ?_,(ak w).trans ((Below.refl w.heap.size w.drew).alloc (ag _) _)⟩
 simp only[Array.size_append,size_zeroCells,Value.cells]
 simp
 have hge:n≤grownCap w n 0 (Tryz.growP_ren.t 25):=grownCap_ge _ _ _ _
 omega
def ptL (A B:List Pt) (k:Nat):List Pt:=if k=0 then A else B
def caL (A B:List Pt):Nat→List Pt
 | 0=>[]
 | k + 1=>caL A B k ++ ptL A B k
theorem caL_two (A B:List Pt):caL A B 2=A ++ B:=rfl
theorem caL_len {A B:List Pt}:∀k,k≤2→(caL A B k).length≤A.length + B.length
 | 0,_=>Nat.zero_le _
 | 1,_=>by show ([] ++ A).length≤_;simp
 | 2,_=>by show ([] ++ A ++ B).length≤_;simp
theorem ptL_len {A B:List Pt} (k:Nat):(ptL A B k).length≤A.length + B.length:=by unfold ptL;split<;>omega
theorem ptL_at {g k:Nat} {x y:Value} {A B:List Pt} {w:World} (hx:w.cell? ⟨g,0,none⟩=some x) (hy:w.cell? ⟨g,1,none⟩=some y) (ha:Rows 2 31 IP w x A) (hb:Rows 2 31 IP w y B) (hk:k < 2):
  ∃ao c,w.cell? ⟨g,k,none⟩=some (.slice ao (ptL A B k).length c)∧Rows 2 31 IP w (.slice ao (ptL A B k).length c) (ptL A B k):=by
 by_cases k0:k=0
 ·subst k0
  obtain⟨ao,c,e, -⟩:=ha.slice
  exact⟨ao,c,by rw[hx,e];rfl,by show Rows 2 31 IP w (.slice ao A.length c) A;rw[←e];exact ha⟩
 ·obtain rfl:k=1:=by omega
  obtain⟨ao,c,e, -⟩:=hb.slice
  exact⟨ao,c,by rw[hy,e];rfl,by show Rows 2 31 IP w (.slice ao B.length c) B;rw[←e];exact hb⟩
end Go.Proofs.YtbnomdlojmgigaaGreat
