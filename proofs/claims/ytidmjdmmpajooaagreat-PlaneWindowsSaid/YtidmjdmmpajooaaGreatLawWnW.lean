/-
  law 02: PlaneWindows.
-/
import Derived.Test.YtidmjdmmpajooaaGreatWn7W
import Derived.Test.YtidmjdmmpajooaaGreatWn3W
import Derived.Test.YtidmjdmmpajooaaGreatPkW23W
set_option linter.unusedSimpArgs false
set_option linter.unusedVariables false
set_option maxRecDepth 100000
set_option maxHeartbeats 4000000
namespace Go.Proofs.YtidmjdmmpajooaaGreat
open Go.RowKit Dg
attribute [local go_sem ↓] Go.wp_at_zero Go.wp_at_succ
theorem l2_PlaneWindows (haw:∀w:World,Calls Tryz.prog 5 #[] w (fj w (.bool true))) (v:Value) (L:List Bxx) (rp rq:Pt) (ww hh:Int) (w:World) (hl:Bxs w v L):
  Calls Tryz.prog 3 #[v,.agg #[.int .i64 rp.1,.int .i64 rp.2,.int .i64 rq.1,.int .i64 rq.2],.int .i64 ww,.int .i64 hh] w (fj w (.bool true)):=by
 obtain⟨ao,cl,rfl, -, -, -⟩:=hl.slice
 have hs:=Below.refl w.heap.size w
 have HL:=ae hl
 have HAW:=ae haw
 obtain⟨B,HB⟩:∃z:Bxx,z=(winP L rp rq ww hh).1:=⟨_,rfl⟩
 obtain⟨n,HN⟩:∃z:Int,z=(winP L rp rq ww hh).2:=⟨_,rfl⟩
 obtain⟨er,HE⟩:∃z:Int,z=wnE L rp rq ww hh:=⟨_,rfl⟩
 replace HB:=ae HB
 replace HN:=ae HN
 replace HE:=ae HE
 clear hl haw
 go_enter Tryz.func3,Tryz.ntmps3
 by_cases q1:4 < L.length
 ·have q1d:((4:Int) < (L.length:Int))=True:=eq_true (by omega)
  by_cases q2:L.length≤24
  ·have q2d:((L.length:Int)≤24)=True:=eq_true (by omega)
   go_wp2_with fail
   refine Calls.abs ?_
   intro w1 hW
   have hG:Gr [] w w1:=by rw[hW];exact (Gr.refl _ _).alloc
   have sz_w1:=hs.size
   have B0:Bx w1 (w.heap.size) 26 #[.int .i64 rp.1,.int .i64 rp.2,.int .i64 rq.1,.int .i64 rq.2]:=by rw[hW];exact (Bx.new0 _ _ _)
   replace hs:=hs.trans (hG.below0 hs.size)
   clear hW hG
   have hz_w1:=B0.lt
   with_reducible refine (HAW.out _).mono ?_
   rintro e w2 ⟨rfl,hb⟩
   revert B0;refine mS hs hb ?_;clear hs hb;intro hs B0
   go_wp2
   go_ret
   exact⟨rfl,hs⟩
  have q2d:((L.length:Int)≤24)=False:=eq_false (by omega)
  by_cases q3:30 < L.length
  ·have q3d:((30:Int) < (L.length:Int))=True:=eq_true (by omega)
   go_wp2_with fail
   refine Calls.abs ?_
   intro w1 hW
   have hG:Gr [] w w1:=by rw[hW];exact (Gr.refl _ _).alloc
   have sz_w1:=hs.size
   have B0:Bx w1 (w.heap.size) 26 #[.int .i64 rp.1,.int .i64 rp.2,.int .i64 rq.1,.int .i64 rq.2]:=by rw[hW];exact (Bx.new0 _ _ _)
   replace hs:=hs.trans (hG.below0 hs.size)
   clear hW hG
   have hz_w1:=B0.lt
   with_reducible refine (HAW.out _).mono ?_
   rintro e w2 ⟨rfl,hb⟩
   revert B0;refine mS hs hb ?_;clear hs hb;intro hs B0
   go_wp2
   go_ret
   exact⟨rfl,hs⟩
  have q3d:((30:Int) < (L.length:Int))=False:=eq_false (by omega)
  have HH4:=ae (show L.length≤4∨24 < L.length by omega)
  go_wp2_with fail
  refine Calls.abs ?_
  intro w1 hW
  have hG:Gr [] w w1:=by rw[hW];exact (Gr.refl _ _).alloc
  have sz_w1:=hs.size
  have B0:Bx w1 (w.heap.size) 26 #[.int .i64 rp.1,.int .i64 rp.2,.int .i64 rq.1,.int .i64 rq.2]:=by rw[hW];exact (Bx.new0 _ _ _)
  replace hs:=hs.trans (hG.below0 hs.size)
  clear hW hG
  have hz_w1:=B0.lt
  with_reducible refine (pl_Window _ L rp rq ww hh _ (be.mono IE.kept HL.out hs) HH4.out (fun h=>pgA_le h) HB.out HN.out HE.out).mono ?_
  rintro e w2 ⟨rfl,hb⟩
  revert B0;refine mS hs hb ?_;clear hs hb;intro hs B0
  refine B0.k4l fun B1 B2 B3 B4 Lregion=>?_
  go_wp2_with fail
  clear B1 B2 B3 B4 Lregion
  refine Calls.abs ?_
  intro w3 hW
  have hG:Gr [] w2 w3:=by rw[hW];exact (Gr.refl _ _).alloc
  have sz_w3:=hs.size
  have nregion_w3:=B0.lt
  have Blb:Bx w3 (w2.heap.size) 26 #[.int .i64 B.1.1,.int .i64 B.1.2,.int .i64 B.2.1,.int .i64 B.2.2]:=by rw[hW];exact (Bx.new0 _ _ _)
  replace hs:=hs.trans (hG.below0 hs.size)
  replace B0:=hG.bx B0 wh
  clear hW hG
  have hz_w3:=Blb.lt
  with_reducible refine (r2_Window _ L rp rq ww hh _ (be.mono IE.kept HL.out hs) HH4.out (HB.out.trans (by rw[win_same])) (HN.out.trans (by rw[win_same])) HE.out).mono ?_
  rintro e w4 ⟨rfl,hb⟩
  revert Blb B0;refine mS hs hb ?_;clear hs hb;intro hs Blb B0
  have q4b:(er == er)=true:=beq_self_eq_true _
  have q4n:(er != er)=false:=bne_self_eq_false _
  have q5b:(n == n)=true:=beq_self_eq_true _
  have q5n:(n != n)=false:=bne_self_eq_false _
  refine Blb.k4l fun B5 B6 B7 B8 Lb=>?_
  go_wp2_with fail
  clear B5 B6 B7 B8 Lb
  refine Calls.abs ?_
  intro w5 hW
  have hG:Gr [] w4 w5:=by rw[hW];exact (Gr.refl _ _).alloc
  have sz_w5:=hs.size
  have nregion_w5:=B0.lt
  have nb_w5:=Blb.lt
  have Blc:Bx w5 (w4.heap.size) 26 #[.int .i64 B.1.1,.int .i64 B.1.2,.int .i64 B.2.1,.int .i64 B.2.2]:=by rw[hW];exact (Bx.new0 _ _ _)
  replace hs:=hs.trans (hG.below0 hs.size)
  revert Blb B0;refine g0 hG ?_;intro Blb B0
  clear hW hG
  have hz_w5:=Blc.lt
  with_reducible refine (HAW.out _).mono ?_
  rintro e w6 ⟨rfl,hb⟩
  revert Blc Blb B0;refine mS hs hb ?_;clear hs hb;intro hs Blc Blb B0
  go_wp2
  go_ret
  exact⟨rfl,hs⟩
 have q1d:((4:Int) < (L.length:Int))=False:=eq_false (by omega)
 by_cases q2:30 < L.length
 ·have q2d:((30:Int) < (L.length:Int))=True:=eq_true (by omega)
  go_wp2_with fail
  refine Calls.abs ?_
  intro w1 hW
  have hG:Gr [] w w1:=by rw[hW];exact (Gr.refl _ _).alloc
  have sz_w1:=hs.size
  have B0:Bx w1 (w.heap.size) 26 #[.int .i64 rp.1,.int .i64 rp.2,.int .i64 rq.1,.int .i64 rq.2]:=by rw[hW];exact (Bx.new0 _ _ _)
  replace hs:=hs.trans (hG.below0 hs.size)
  clear hW hG
  have hz_w1:=B0.lt
  with_reducible refine (HAW.out _).mono ?_
  rintro e w2 ⟨rfl,hb⟩
  revert B0;refine mS hs hb ?_;clear hs hb;intro hs B0
  go_wp2
  go_ret
  exact⟨rfl,hs⟩
 have q2d:((30:Int) < (L.length:Int))=False:=eq_false (by omega)
 have HH4:=ae (show L.length≤4∨24 < L.length by omega)
 go_wp2_with fail
 refine Calls.abs ?_
 intro w1 hW
 have hG:Gr [] w w1:=by rw[hW];exact (Gr.refl _ _).alloc
 have sz_w1:=hs.size
 have B0:Bx w1 (w.heap.size) 26 #[.int .i64 rp.1,.int .i64 rp.2,.int .i64 rq.1,.int .i64 rq.2]:=by rw[hW];exact (Bx.new0 _ _ _)
 replace hs:=hs.trans (hG.below0 hs.size)
 clear hW hG
 have hz_w1:=B0.lt
 with_reducible refine (pl_Window _ L rp rq ww hh _ (be.mono IE.kept HL.out hs) HH4.out (fun h=>pgA_le h) HB.out HN.out HE.out).mono ?_
 rintro e w2 ⟨rfl,hb⟩
 revert B0;refine mS hs hb ?_;clear hs hb;intro hs B0
 refine B0.k4l fun B1 B2 B3 B4 Lregion=>?_
 go_wp2_with fail
 clear B1 B2 B3 B4 Lregion
 refine Calls.abs ?_
 intro w3 hW
 have hG:Gr [] w2 w3:=by rw[hW];exact (Gr.refl _ _).alloc
 have sz_w3:=hs.size
 have nregion_w3:=B0.lt
 have Blb:Bx w3 (w2.heap.size) 26 #[.int .i64 B.1.1,.int .i64 B.1.2,.int .i64 B.2.1,.int .i64 B.2.2]:=by rw[hW];exact (Bx.new0 _ _ _)
 replace hs:=hs.trans (hG.below0 hs.size)
 replace B0:=hG.bx B0 wh
 clear hW hG
 have hz_w3:=Blb.lt
 with_reducible refine (r2_Window _ L rp rq ww hh _ (be.mono IE.kept HL.out hs) HH4.out (HB.out.trans (by rw[win_same])) (HN.out.trans (by rw[win_same])) HE.out).mono ?_
 rintro e w4 ⟨rfl,hb⟩
 revert Blb B0;refine mS hs hb ?_;clear hs hb;intro hs Blb B0
 have q3b:(er == er)=true:=beq_self_eq_true _
 have q3n:(er != er)=false:=bne_self_eq_false _
 have q4b:(n == n)=true:=beq_self_eq_true _
 have q4n:(n != n)=false:=bne_self_eq_false _
 refine Blb.k4l fun B5 B6 B7 B8 Lb=>?_
 go_wp2_with fail
 clear B5 B6 B7 B8 Lb
 refine Calls.abs ?_
 intro w5 hW
 have hG:Gr [] w4 w5:=by rw[hW];exact (Gr.refl _ _).alloc
 have sz_w5:=hs.size
 have nregion_w5:=B0.lt
 have nb_w5:=Blb.lt
 have Blc:Bx w5 (w4.heap.size) 26 #[.int .i64 B.1.1,.int .i64 B.1.2,.int .i64 B.2.1,.int .i64 B.2.2]:=by rw[hW];exact (Bx.new0 _ _ _)
 replace hs:=hs.trans (hG.below0 hs.size)
 revert Blb B0;refine g0 hG ?_;intro Blb B0
 clear hW hG
 have hz_w5:=Blc.lt
 with_reducible refine (HAW.out _).mono ?_
 rintro e w6 ⟨rfl,hb⟩
 revert Blc Blb B0;refine mS hs hb ?_;clear hs hb;intro hs Blc Blb B0
 go_wp2
 go_ret
 exact⟨rfl,hs⟩
end Go.Proofs.YtidmjdmmpajooaaGreat
