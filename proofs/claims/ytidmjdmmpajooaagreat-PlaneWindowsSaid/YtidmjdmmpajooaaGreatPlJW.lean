/-
  plane: Check of any list, size, two, Twice; law 02's square.
-/
import Derived.Test.YtidmjdmmpajooaaGreatPlCW
import Derived.Test.YtidmjdmmpajooaaGreatPkW14W
set_option linter.unusedSimpArgs false
set_option linter.unusedVariables false
set_option maxRecDepth 100000
set_option maxHeartbeats 4000000
namespace Go.Proofs.YtidmjdmmpajooaaGreat
open Go.RowKit Dg
attribute [local go_sem ↓] Go.wp_at_zero Go.wp_at_succ
theorem tg (v:Value) (l:List Pt) (w:World) (hl:Pts w v l):Calls Tryz.prog 8 #[v] w (fj w (.int .i64 (fl l))):=by
 by_cases h1:l.length < 3
 ·exact je1 v l w hl h1
 by_cases h2:16 < l.length
 ·exact pl_Check_long v l w hl h1 h2
 exact pl_Check_main v l w hl h1 h2
theorem kg {l:List Pt} (h:fl l=0):l.length≤16∧3≤l.length∧∀p∈l,WP 1048576 p:=by
 unfold fl at h
 split at h
 ·cases h
 split at h
 ·cases h
 split at h
 ·rename_i h1 h2 h3
  exact⟨by omega,by omega,fun p hp=>jm (List.all_eq_true.1 h3 p hp)⟩
 cases h
theorem tw_bd {l:List Pt} (hn:l.length≤1000) (hp:∀p∈l,WP 1048576 p):Wn 2199023255552000 (twZ l):=(twK_wn hp l.length hn).mono (by omega)
theorem pl_size (vl:Value) (l:List Pt) (w:World) (hl:Pts w vl l) (hok:fl l=0):
  Calls Tryz.prog 78 #[vl] w (mp w (up ((twZ l:Int):Rat))):=by
 obtain⟨al,cl,rfl, -, -, -⟩:=hl.slice
 have hs:=Below.refl w.heap.size w
 have Hl:=ae hl
 clear hl
 have HK:=ae (kg hok)
 go_enter Tryz.func78,Tryz.ntmps78
 go_wp2_with fail
 refine Calls.abs ?_
 intro w1 hW
 have hG:Gr [] w w1:=by rw[hW];exact (Gr.refl _ _).alloc
 have sz_w1:=hs.size
 have Blk:Bx w1 (w.heap.size) 37 #[.bool false,.slice none 0 0,.slice none 0 0]:=by rw[hW];exact (Bx.new0 _ _ _)
 replace hs:=hs.trans (hG.below0 hs.size)
 clear hW hG
 have hz_w1:=Blk.lt
 with_reducible refine (pl_twice _ l _ (be.mono IP.kept Hl.out hs) (by have:=(HK.out).1;omega) (HK.out).2.2).mono ?_
 rintro e w2 ⟨rfl,hb⟩
 revert Blk;refine mS hs hb ?_;clear hs hb;intro hs Blk
 obtain⟨tw2,B3⟩:∃s:Int,s=twZ l:=⟨_,rfl⟩
 rw[←B3]
 have Wtw2:Wn 2199023255552000 tw2:=by rw[B3];exact tw_bd (by have:=(HK.out).1;omega) (HK.out).2.2
 replace B3:=ae B3
 go_wp2_with fail
 with_reducible refine (fh tw2 _ (Wtw2.mono (by decide))).mono ?_
 rintro e w3 ⟨_,rfl,h3,hb⟩
 obtain⟨sh3,ah3,nh3,ch3,Ah3,Nh3,Ch3,rfl⟩:=h3.shape
 revert Blk;refine mS hs hb ?_;clear hs hb;intro hs Blk
 go_wp2_with fail
 with_reducible refine (p_Abs_calls _ _ _ h3).mono ?_
 rintro e w4 ⟨_,rfl,h4,hb⟩
 obtain⟨sh4,ah4,nh4,ch4,Ah4,Nh4,Ch4,rfl⟩:=h4.shape
 revert Blk;revert h3;refine mS hs hb ?_;clear hs hb;intro hs h3 Blk
 refine Blk.k3fl fun B7 B8 B9 fk Lk=>?_
 go_wp2
 clear B7 B8 B9 fk Lk
 refine bodyPost.abs ?_
 intro w5 hW
 have hG:Gr [w.heap.size] w4 w5:=by rw[hW];exact (Gr.refl _ _).set.set.set
 have hsz:=hs.size
 have lk:=Blk.lt
 have hk:=hG.keep ⟨⟨_,Blk.ty,by decide⟩,True.intro⟩
 have Ba:Bx w5 (w.heap.size) 37 #[.bool sh4,.slice ah4 nh4 ch4,.slice Ah4 Nh4 Ch4]:=by rw[hW];exact Blk.set3
 replace hs:=hs.trans (hG.d1 hs.size)
 replace Blk:=Ba
 clear Ba
 revert h4 h3;refine ke hk ?_;intro h4 h3
 clear hW hG hk hsz lk
 refine Blk.k3 fun B7 B8 B9=>?_
 exact bodyPost_ret (v:=.agg #[.bool sh4,.slice ah4 nh4 ch4,.slice Ah4 Nh4 Ch4]) (by simp[results,Tryz.results78,go_sem,B7,B8,B9]) rfl ⟨_,rfl,h4.of_eq (by rw[←B3.out]),hs⟩
theorem pl_two (vl:Value) (l:List Pt) (vm:Value) (m:List Pt) (w:World) (hl:Pts w vl l) (hm:Pts w vm m) {r1:Int} (e1:r1=if fl l=0 then fl m else fl l):
  Calls Tryz.prog 42 #[vl,vm] w (fj w (.int .i64 r1)):=by
 obtain⟨al,cl,rfl, -, -, -⟩:=hl.slice
 obtain⟨am,cm,rfl, -, -, -⟩:=hm.slice
 have hs:=Below.refl w.heap.size w
 have Hl:=ae hl
 have Hm:=ae hm
 clear hl hm
 have E1:=ae e1
 clear e1
 go_enter Tryz.func42,Tryz.ntmps42
 go_wp2_with fail
 with_reducible refine (tg _ l _ (be.mono IP.kept Hl.out hs)).mono ?_
 rintro e w1 ⟨rfl,hb⟩
 replace hs:=ar hs hb
 clear hb
 obtain⟨B1,B0⟩:∃s:Int,s=fl l:=⟨_,rfl⟩
 rw[←B0]
 replace B0:=ae B0
 by_cases q2:B1=0
 ·have q2b:(B1 == 0)=true:=beq_iff_eq.2 (by omega)
  have q2n:(B1 != 0)=false:=bne_eq_false_iff_eq.2 (by omega)
  have B2:=ae q2
  clear q2
  go_wp2_with fail
  with_reducible refine (tg _ m _ (be.mono IP.kept Hm.out hs)).mono ?_
  rintro e w2 ⟨rfl,hb⟩
  replace hs:=ar hs hb
  clear hb
  obtain⟨ck3,B5⟩:∃s:Int,s=fl m:=⟨_,rfl⟩
  rw[←B5]
  replace B5:=ae B5
  go_wp2
  go_ret
  exact⟨by rw[show r1=ck3 from by rw[E1.out,if_pos (B0.out.symm.trans B2.out),←B5.out]];rfl,hs⟩
 have q2b:(B1 == 0)=false:=beq_eq_false_iff_ne.2 (by omega)
 have q2n:(B1 != 0)=true:=bne_iff_ne.2 (by omega)
 have B2:=ae q2
 clear q2
 go_wp2
 go_ret
 exact⟨by rw[show r1=B1 from by rw[E1.out,if_neg (fun h=>B2.out (B0.out.trans h)),←B0.out]];rfl,hs⟩
theorem pl_Twice (vl:Value) (l:List Pt) (w:World) (hl:Pts w vl l) {r1 r2:Int} (e1:r1=if fl l=0 then twZ l else 0) (e2:r2=fl l):
  Calls Tryz.prog 18 #[vl] w (Ret2 (fun _ v=>v=.int .i64 r1) (fun _ v=>v=.int .i64 r2) w):=by
 obtain⟨al,cl,rfl, -, -, -⟩:=hl.slice
 have hs:=Below.refl w.heap.size w
 have Hl:=ae hl
 clear hl
 have E1:=ae e1
 clear e1
 have E2:=ae e2
 clear e2
 go_enter Tryz.func18,Tryz.ntmps18
 go_wp2_with fail
 with_reducible refine (tg _ l _ (be.mono IP.kept Hl.out hs)).mono ?_
 rintro e w1 ⟨rfl,hb⟩
 replace hs:=ar hs hb
 clear hb
 obtain⟨B1,B0⟩:∃s:Int,s=fl l:=⟨_,rfl⟩
 rw[←B0]
 replace B0:=ae B0
 by_cases q2:B1=0
 ·have q2b:(B1 == 0)=true:=beq_iff_eq.2 (by omega)
  have q2n:(B1 != 0)=false:=bne_eq_false_iff_eq.2 (by omega)
  have B2:=ae q2
  clear q2
  go_wp2_with fail
  with_reducible refine (pl_twice _ l _ (be.mono IP.kept Hl.out hs) (by have:=((kg (B0.out.symm.trans B2.out))).1;omega) ((kg (B0.out.symm.trans B2.out))).2.2).mono ?_
  rintro e w2 ⟨rfl,hb⟩
  replace hs:=ar hs hb
  clear hb
  obtain⟨tw4,B4⟩:∃s:Int,s=twZ l:=⟨_,rfl⟩
  rw[←B4]
  have Wtw4:Wn 2199023255552000 tw4:=by rw[B4];exact tw_bd (by have:=((kg (B0.out.symm.trans B2.out))).1;omega) ((kg (B0.out.symm.trans B2.out))).2.2
  replace B4:=ae B4
  go_wp2
  go_ret2
  exact⟨_,_,rfl,by rw[show r1=tw4 from by rw[E1.out,if_pos (B0.out.symm.trans B2.out),←B4.out]];rfl,by rw[show r2=0 from by rw[E2.out,←B0.out,B2.out]];rfl,hs⟩
 have q2b:(B1 == 0)=false:=beq_eq_false_iff_ne.2 (by omega)
 have q2n:(B1 != 0)=true:=bne_iff_ne.2 (by omega)
 have B2:=ae q2
 clear q2
 go_wp2
 go_ret2
 exact⟨_,_,rfl,by rw[show r1=0 from by rw[E1.out,if_neg (fun h=>B2.out (B0.out.trans h))]];rfl,by rw[show r2=B1 from by rw[E2.out,←B0.out]];rfl,hs⟩
end Go.Proofs.YtidmjdmmpajooaaGreat
