/-
  plane: whether a part between ends of boxes lies in one of the boxes: Window's closures.
-/
import Derived.Test.YtidmjdmmpajooaaGreatWn4W
set_option linter.unusedSimpArgs false
set_option linter.unusedVariables false
set_option maxRecDepth 100000
set_option maxHeartbeats 16000000
namespace Go.Proofs.YtidmjdmmpajooaaGreat
open Go.RowKit Dg
attribute [local go_sem ↓] Go.wp_at_zero Go.wp_at_succ
theorem pl_in1 (p q:Pt) (X Y:List Int) (i k gx gi gy gk xb xo xc yb yo yc:Nat) (w:World) (hbx:Bx w gx 53 #[.slice (some ⟨xb,xo,none⟩) X.length xc]) (hbi:Bx w gi 3 #[.int .i64 (i:Int)]) (hby:Bx w gy 53 #[.slice (some ⟨yb,yo,none⟩) Y.length yc]) (hbk:Bx w gk 3 #[.int .i64 (k:Int)])
  (hrx:Rows 1 3 IC w (.slice (some ⟨xb,xo,none⟩) X.length xc) X) (hry:Rows 1 3 IC w (.slice (some ⟨yb,yo,none⟩) Y.length yc) Y) (hi1:i + 1 < X.length) (hk1:k + 1 < Y.length) (hX2:X.length≤100) (hY2:Y.length≤100):
  Calls Tryz.prog 29 #[.agg #[.int .i64 p.1,.int .i64 p.2,.int .i64 q.1,.int .i64 q.2],.pointer (some ⟨gx,0,none⟩),.pointer (some ⟨gi,0,none⟩),.pointer (some ⟨gy,0,none⟩),.pointer (some ⟨gk,0,none⟩)] w (fj w (.bool (inJ X Y (p,q) i k))):=by
 have hs:=Below.refl w.heap.size w
 have B1:=hbx
 have B0:=hbi
 have B3:=hby
 have B2:=hbk
 have HRX:=ae hrx
 have HRY:=ae hry
 clear hrx hry hbx hbi hby hbk
 have fia:(i < X.length)=True:=eq_true (by omega)
 have fib:((i:Int) < (X.length:Int))=True:=eq_true (by omega)
 have fic:(i + 1 < X.length)=True:=eq_true (by omega)
 have fka:(k < Y.length)=True:=eq_true (by omega)
 have fkb:((k:Int) < (Y.length:Int))=True:=eq_true (by omega)
 have fkc:(k + 1 < Y.length)=True:=eq_true (by omega)
 go_enter Tryz.func29,Tryz.ntmps29
 go_upto_region 1 with fail
 refine Code.abs ?_
 intro w1 hW
 have hG:Gr [] w w1:=by rw[hW];exact (Gr.refl _ _).alloc
 have sz_w1:=hs.size
 have nbgx_w1:=B1.lt
 have nbgi_w1:=B0.lt
 have nbgy_w1:=B3.lt
 have nbgk_w1:=B2.lt
 have Blb:Bx w1 (w.heap.size) 26 #[.int .i64 p.1,.int .i64 p.2,.int .i64 q.1,.int .i64 q.2]:=by rw[hW];exact (Bx.new0 _ _ _)
 replace hs:=hs.trans (hG.below0 hs.size)
 revert B1 B0 B3 B2;refine g0 hG ?_;intro B1 B0 B3 B2
 clear hW hG
 have hz_w1:=Blb.lt
 obtain⟨Ee1,le1⟩:=rowI_at (HRX.out.mono IC.kept hs) (show i < X.length by omega)
 simp only[Nat.mul_one] at Ee1
 obtain⟨ie1,Hie1⟩:∃z:Int,z=nthI X i:=⟨_,rfl⟩
 rw[←Hie1] at Ee1
 replace Hie1:=ae Hie1
 by_cases q2:p.1≤ie1
 ·have q2d:(p.1≤ie1)=True:=eq_true (by omega)
  have AX3:IntKind.i64.wrap ((i:Int) + 1)=(i:Int) + 1:=IntWalk.i64_in _ (by omega)
  have SW4a:=IntWalk.i64_in ((i:Int) + 1) (by omega)
  have SW4b:(0:Int)≤(i:Int) + 1:=by omega
  have SW4c:((i:Int) + 1).toNat=(i + 1):=by omega
  have SW4d:(i:Int) + 1 < (X.length:Int):=by omega
  obtain⟨Ee5,le5⟩:=rowI_at (HRX.out.mono IC.kept hs) (show (i + 1) < X.length by omega)
  simp only[Nat.mul_one] at Ee5
  obtain⟨ie5,Hie5⟩:∃z:Int,z=nthI X (i + 1):=⟨_,rfl⟩
  rw[←Hie5] at Ee5
  replace Hie5:=ae Hie5
  by_cases q6:ie5≤q.1
  ·have q6d:(ie5≤q.1)=True:=eq_true (by omega)
   obtain⟨Ee7,le7⟩:=rowI_at (HRY.out.mono IC.kept hs) (show k < Y.length by omega)
   simp only[Nat.mul_one] at Ee7
   obtain⟨ie7,Hie7⟩:∃z:Int,z=nthI Y k:=⟨_,rfl⟩
   rw[←Hie7] at Ee7
   replace Hie7:=ae Hie7
   by_cases q8:p.2≤ie7
   ·have q8d:(p.2≤ie7)=True:=eq_true (by omega)
    have AX9:IntKind.i64.wrap ((k:Int) + 1)=(k:Int) + 1:=IntWalk.i64_in _ (by omega)
    have SW10a:=IntWalk.i64_in ((k:Int) + 1) (by omega)
    have SW10b:(0:Int)≤(k:Int) + 1:=by omega
    have SW10c:((k:Int) + 1).toNat=(k + 1):=by omega
    have SW10d:(k:Int) + 1 < (Y.length:Int):=by omega
    obtain⟨Bc,le11⟩:=rowI_at (HRY.out.mono IC.kept hs) (show (k + 1) < Y.length by omega)
    simp only[Nat.mul_one] at Bc
    obtain⟨ie11,Hie11⟩:∃z:Int,z=nthI Y (k + 1):=⟨_,rfl⟩
    rw[←Hie11] at Bc
    replace Hie11:=ae Hie11
    refine bw (S:=fun w'=>w'.cell? ⟨w.heap.size,0,none⟩=some (.int .i64 p.1)∧w'.cell? ⟨w.heap.size,1,none⟩=some (.int .i64 p.2)∧w'.cell? ⟨w.heap.size,2,none⟩=some (.int .i64 q.1)∧w'.cell? ⟨w.heap.size,3,none⟩=some (.int .i64 q.2)∧w'.cell? ⟨gx,0,none⟩=some (.slice (some ⟨xb,xo,none⟩) X.length xc)∧w'.cell? ⟨gi,0,none⟩=some (.int .i64 ((i:Int)))∧w'.cell? ⟨gy,0,none⟩=some (.slice (some ⟨yb,yo,none⟩) Y.length yc)∧w'.cell? ⟨gk,0,none⟩=some (.int .i64 ((k:Int)))∧w'.cell? ⟨xb,xo + i,none⟩=some (.int .i64 ie1)∧w'.cell? ⟨xb,xo + (i + 1),none⟩=some (.int .i64 ie5)∧w'.cell? ⟨yb,yo + k,none⟩=some (.int .i64 ie7)∧w'.cell? ⟨yb,yo + (k + 1),none⟩=some (.int .i64 ie11)) (by kernel_rfl) 41 ?_
    refine cq.abs ?_
    intro w2 hW
    have hb:Below w1.heap.size w1 w2:=by rw[hW];exact de _
    replace hs:=ar hs hb
    revert Blb B1 B0 B3 B2;refine mo hb ?_;intro Blb B1 B0 B3 B2
    replace Ee1:=ah Ee1 hb
    replace Ee5:=ah Ee5 hb
    replace Ee7:=ah Ee7 hb
    replace Bc:=ah Bc hb
    clear hb hW
    refine Blb.k4 fun B6 B7 B8 B9=>?_
    have B5:=B1.a0
    have B4:=B0.a0
    have Bb:=B3.a0
    have Ba:=B2.a0
    have hH:=(show w2.cell? ⟨w.heap.size,0,none⟩=some (.int .i64 p.1)∧w2.cell? ⟨w.heap.size,1,none⟩=some (.int .i64 p.2)∧w2.cell? ⟨w.heap.size,2,none⟩=some (.int .i64 q.1)∧w2.cell? ⟨w.heap.size,3,none⟩=some (.int .i64 q.2)∧w2.cell? ⟨gx,0,none⟩=some (.slice (some ⟨xb,xo,none⟩) X.length xc)∧w2.cell? ⟨gi,0,none⟩=some (.int .i64 ((i:Int)))∧w2.cell? ⟨gy,0,none⟩=some (.slice (some ⟨yb,yo,none⟩) Y.length yc)∧w2.cell? ⟨gk,0,none⟩=some (.int .i64 ((k:Int)))∧w2.cell? ⟨xb,xo + i,none⟩=some (.int .i64 ie1)∧w2.cell? ⟨xb,xo + (i + 1),none⟩=some (.int .i64 ie5)∧w2.cell? ⟨yb,yo + k,none⟩=some (.int .i64 ie7)∧w2.cell? ⟨yb,yo + (k + 1),none⟩=some (.int .i64 ie11) from ⟨B6,B7,B8,B9,B5,B4,Bb,Ba,Ee1,Ee5,Ee7,Bc⟩)
    refine U_tq 0 7 hH ?_
    refine U_tq 1 8 hH ?_
    refine U_tq 2 9 hH ?_
    refine U_tq 3 10 hH ?_
    refine U_tq 4 11 hH ?_
    refine U_tq 5 12 hH ?_
    refine U_tq 6 13 hH ?_
    refine U_tq 7 14 hH ?_
    refine U_tq 8 15 hH ?_
    refine U_tq 9 16 hH ?_
    refine U_tq 10 17 hH ?_
    refine U_tq 11 18 hH ?_
    refine U_tq 12 19 hH ?_
    refine U_tq 13 20 hH ?_
    refine U_tq 14 21 hH ?_
    refine U_tq 15 22 hH ?_
    refine U_tq 16 23 hH ?_
    refine U_tq 17 24 hH ?_
    refine U_tq 18 25 hH ?_
    refine U_tq 19 26 hH ?_
    refine U_tq 20 27 hH ?_
    refine U_tq 21 28 hH ?_
    refine U_tq 22 29 hH ?_
    refine U_tq 23 30 hH ?_
    refine U_tq 24 31 hH ?_
    refine U_tq 25 32 hH ?_
    refine U_tq 26 33 hH ?_
    refine U_tq 27 34 hH ?_
    refine U_tq 28 35 hH ?_
    refine U_tq 29 36 hH ?_
    refine U_tq 30 37 hH ?_
    refine U_tq 31 38 hH ?_
    refine U_tq 32 39 hH ?_
    refine U_tq 33 40 hH ?_
    refine U_tq 34 41 hH ?_
    refine U_tq 35 42 hH ?_
    refine U_tq 36 43 hH ?_
    refine U_tq 37 44 hH ?_
    refine U_tq 38 45 hH ?_
    refine U_tq 39 46 hH ?_
    refine U_tq 40 6 hH ?_
    clear hH
    refine im (by kernel_rfl) ?_
    clear B6 B7 B8 B9 B5 B4 Bb Ba Ee1 Ee5 Ee7 Bc
    go_wp2
    clear le1 le5 le7 le11
    go_ret
    exact⟨by rw[show inJ X Y (p,q) i k=decide (ie11≤q.2) from by unfold inJ;rw[decide_eq_true (show (p.1≤nthI X i) from by have hl0:=Hie1.out;have hl1:=Hie11.out;have hl2:=Hie5.out;have hl3:=Hie7.out;omega)];rw[decide_eq_true (show (nthI X (i + 1)≤q.1) from by have hl0:=Hie1.out;have hl1:=Hie11.out;have hl2:=Hie5.out;have hl3:=Hie7.out;omega)];rw[decide_eq_true (show (p.2≤nthI Y k) from by have hl0:=Hie1.out;have hl1:=Hie11.out;have hl2:=Hie5.out;have hl3:=Hie7.out;omega)];rw[←Hie11.out];rfl];rfl,hs⟩
   have q8d:(p.2≤ie7)=False:=eq_false (by omega)
   refine bw (S:=fun w'=>w'.cell? ⟨w.heap.size,0,none⟩=some (.int .i64 p.1)∧w'.cell? ⟨w.heap.size,1,none⟩=some (.int .i64 p.2)∧w'.cell? ⟨w.heap.size,2,none⟩=some (.int .i64 q.1)∧w'.cell? ⟨w.heap.size,3,none⟩=some (.int .i64 q.2)∧w'.cell? ⟨gx,0,none⟩=some (.slice (some ⟨xb,xo,none⟩) X.length xc)∧w'.cell? ⟨gi,0,none⟩=some (.int .i64 ((i:Int)))∧w'.cell? ⟨gy,0,none⟩=some (.slice (some ⟨yb,yo,none⟩) Y.length yc)∧w'.cell? ⟨gk,0,none⟩=some (.int .i64 ((k:Int)))∧w'.cell? ⟨xb,xo + i,none⟩=some (.int .i64 ie1)∧w'.cell? ⟨xb,xo + (i + 1),none⟩=some (.int .i64 ie5)∧w'.cell? ⟨yb,yo + k,none⟩=some (.int .i64 ie7)) (by kernel_rfl) 41 ?_
   refine cq.abs ?_
   intro w2 hW
   have hb:Below w1.heap.size w1 w2:=by rw[hW];exact de _
   replace hs:=ar hs hb
   revert Blb B1 B0 B3 B2;refine mo hb ?_;intro Blb B1 B0 B3 B2
   replace Ee1:=ah Ee1 hb
   replace Ee5:=ah Ee5 hb
   replace Ee7:=ah Ee7 hb
   clear hb hW
   refine Blb.k4 fun B6 B7 B8 B9=>?_
   have B5:=B1.a0
   have B4:=B0.a0
   have Bb:=B3.a0
   have Ba:=B2.a0
   have hH:=(show w2.cell? ⟨w.heap.size,0,none⟩=some (.int .i64 p.1)∧w2.cell? ⟨w.heap.size,1,none⟩=some (.int .i64 p.2)∧w2.cell? ⟨w.heap.size,2,none⟩=some (.int .i64 q.1)∧w2.cell? ⟨w.heap.size,3,none⟩=some (.int .i64 q.2)∧w2.cell? ⟨gx,0,none⟩=some (.slice (some ⟨xb,xo,none⟩) X.length xc)∧w2.cell? ⟨gi,0,none⟩=some (.int .i64 ((i:Int)))∧w2.cell? ⟨gy,0,none⟩=some (.slice (some ⟨yb,yo,none⟩) Y.length yc)∧w2.cell? ⟨gk,0,none⟩=some (.int .i64 ((k:Int)))∧w2.cell? ⟨xb,xo + i,none⟩=some (.int .i64 ie1)∧w2.cell? ⟨xb,xo + (i + 1),none⟩=some (.int .i64 ie5)∧w2.cell? ⟨yb,yo + k,none⟩=some (.int .i64 ie7) from ⟨B6,B7,B8,B9,B5,B4,Bb,Ba,Ee1,Ee5,Ee7⟩)
   refine U_tq 0 7 hH ?_
   refine U_tq 1 8 hH ?_
   refine U_tq 2 9 hH ?_
   refine U_tq 3 10 hH ?_
   refine U_tq 4 11 hH ?_
   refine U_tq 5 12 hH ?_
   refine U_tq 6 13 hH ?_
   refine U_tq 7 14 hH ?_
   refine U_tq 8 15 hH ?_
   refine U_tq 9 16 hH ?_
   refine U_tq 10 17 hH ?_
   refine U_tq 11 18 hH ?_
   refine U_tq 12 19 hH ?_
   refine U_tq 13 20 hH ?_
   refine U_tq 14 21 hH ?_
   refine U_tq 15 22 hH ?_
   refine U_tq 16 23 hH ?_
   refine U_tq 17 24 hH ?_
   refine U_tq 18 25 hH ?_
   refine U_tq 19 26 hH ?_
   refine U_tq 20 27 hH ?_
   refine U_tq 21 28 hH ?_
   refine U_tq 22 29 hH ?_
   refine U_tq 23 30 hH ?_
   refine U_tq 24 31 hH ?_
   refine U_tq 25 32 hH ?_
   refine U_tq 26 33 hH ?_
   refine U_tq 27 34 hH ?_
   refine U_tq 28 35 hH ?_
   refine U_tq 29 36 hH ?_
   refine ff 30 37 hH ?_
   simp only[LY]
   refine ff 31 38 hH ?_
   simp only[LY]
   refine ff 32 39 hH ?_
   simp only[LY]
   refine ff 33 40 hH ?_
   simp only[LY]
   refine ff 34 41 hH ?_
   simp only[LY]
   refine ff 35 42 hH ?_
   simp only[LY]
   refine ff 36 43 hH ?_
   simp only[LY]
   refine ff 37 44 hH ?_
   simp only[LY]
   refine ff 38 45 hH ?_
   simp only[LY]
   refine U_tq 39 46 hH ?_
   refine U_tq 40 6 hH ?_
   clear hH
   refine im (by kernel_rfl) ?_
   clear B6 B7 B8 B9 B5 B4 Bb Ba Ee1 Ee5 Ee7
   go_wp2
   clear le1 le5 le7
   go_ret
   exact⟨by rw[show inJ X Y (p,q) i k=false from by unfold inJ;rw[decide_eq_true (show (p.1≤nthI X i) from by have hl0:=Hie1.out;have hl1:=Hie5.out;have hl2:=Hie7.out;omega)];rw[decide_eq_true (show (nthI X (i + 1)≤q.1) from by have hl0:=Hie1.out;have hl1:=Hie5.out;have hl2:=Hie7.out;omega)];rw[decide_eq_false (show ¬ (p.2≤nthI Y k) from by have hl0:=Hie1.out;have hl1:=Hie5.out;have hl2:=Hie7.out;omega)];simp];rfl,hs⟩
  have q6d:(ie5≤q.1)=False:=eq_false (by omega)
  refine bw (S:=fun w'=>w'.cell? ⟨w.heap.size,0,none⟩=some (.int .i64 p.1)∧w'.cell? ⟨w.heap.size,1,none⟩=some (.int .i64 p.2)∧w'.cell? ⟨w.heap.size,2,none⟩=some (.int .i64 q.1)∧w'.cell? ⟨w.heap.size,3,none⟩=some (.int .i64 q.2)∧w'.cell? ⟨gx,0,none⟩=some (.slice (some ⟨xb,xo,none⟩) X.length xc)∧w'.cell? ⟨gi,0,none⟩=some (.int .i64 ((i:Int)))∧w'.cell? ⟨xb,xo + i,none⟩=some (.int .i64 ie1)∧w'.cell? ⟨xb,xo + (i + 1),none⟩=some (.int .i64 ie5)) (by kernel_rfl) 41 ?_
  refine cq.abs ?_
  intro w2 hW
  have hb:Below w1.heap.size w1 w2:=by rw[hW];exact de _
  replace hs:=ar hs hb
  revert Blb B1 B0 B3 B2;refine mo hb ?_;intro Blb B1 B0 B3 B2
  replace Ee1:=ah Ee1 hb
  replace Ee5:=ah Ee5 hb
  clear hb hW
  refine Blb.k4 fun B6 B7 B8 B9=>?_
  have B5:=B1.a0
  have B4:=B0.a0
  have hH:=(show w2.cell? ⟨w.heap.size,0,none⟩=some (.int .i64 p.1)∧w2.cell? ⟨w.heap.size,1,none⟩=some (.int .i64 p.2)∧w2.cell? ⟨w.heap.size,2,none⟩=some (.int .i64 q.1)∧w2.cell? ⟨w.heap.size,3,none⟩=some (.int .i64 q.2)∧w2.cell? ⟨gx,0,none⟩=some (.slice (some ⟨xb,xo,none⟩) X.length xc)∧w2.cell? ⟨gi,0,none⟩=some (.int .i64 ((i:Int)))∧w2.cell? ⟨xb,xo + i,none⟩=some (.int .i64 ie1)∧w2.cell? ⟨xb,xo + (i + 1),none⟩=some (.int .i64 ie5) from ⟨B6,B7,B8,B9,B5,B4,Ee1,Ee5⟩)
  refine U_tq 0 7 hH ?_
  refine U_tq 1 8 hH ?_
  refine U_tq 2 9 hH ?_
  refine U_tq 3 10 hH ?_
  refine U_tq 4 11 hH ?_
  refine U_tq 5 12 hH ?_
  refine U_tq 6 13 hH ?_
  refine U_tq 7 14 hH ?_
  refine U_tq 8 15 hH ?_
  refine U_tq 9 16 hH ?_
  refine U_tq 10 17 hH ?_
  refine U_tq 11 18 hH ?_
  refine U_tq 12 19 hH ?_
  refine U_tq 13 20 hH ?_
  refine U_tq 14 21 hH ?_
  refine U_tq 15 22 hH ?_
  refine U_tq 16 23 hH ?_
  refine U_tq 17 24 hH ?_
  refine U_tq 18 25 hH ?_
  refine U_tq 19 26 hH ?_
  refine ff 20 27 hH ?_
  simp only[LY]
  refine ff 21 28 hH ?_
  simp only[LY]
  refine ff 22 29 hH ?_
  simp only[LY]
  refine ff 23 30 hH ?_
  simp only[LY]
  refine ff 24 31 hH ?_
  simp only[LY]
  refine ff 25 32 hH ?_
  simp only[LY]
  refine ff 26 33 hH ?_
  simp only[LY]
  refine ff 27 34 hH ?_
  simp only[LY]
  refine U_tq 28 35 hH ?_
  refine U_tq 29 36 hH ?_
  refine ff 30 37 hH ?_
  simp only[LY]
  refine ff 31 38 hH ?_
  simp only[LY]
  refine ff 32 39 hH ?_
  simp only[LY]
  refine ff 33 40 hH ?_
  simp only[LY]
  refine ff 34 41 hH ?_
  simp only[LY]
  refine ff 35 42 hH ?_
  simp only[LY]
  refine ff 36 43 hH ?_
  simp only[LY]
  refine ff 37 44 hH ?_
  simp only[LY]
  refine ff 38 45 hH ?_
  simp only[LY]
  refine U_tq 39 46 hH ?_
  refine U_tq 40 6 hH ?_
  clear hH
  refine im (by kernel_rfl) ?_
  clear B6 B7 B8 B9 B5 B4 Ee1 Ee5
  go_wp2
  clear le1 le5
  go_ret
  exact⟨by rw[show inJ X Y (p,q) i k=false from by unfold inJ;rw[decide_eq_true (show (p.1≤nthI X i) from by have hl0:=Hie1.out;have hl1:=Hie5.out;omega)];rw[decide_eq_false (show ¬ (nthI X (i + 1)≤q.1) from by have hl0:=Hie1.out;have hl1:=Hie5.out;omega)];simp];rfl,hs⟩
 have q2d:(p.1≤ie1)=False:=eq_false (by omega)
 refine bw (S:=fun w'=>w'.cell? ⟨w.heap.size,0,none⟩=some (.int .i64 p.1)∧w'.cell? ⟨w.heap.size,1,none⟩=some (.int .i64 p.2)∧w'.cell? ⟨w.heap.size,2,none⟩=some (.int .i64 q.1)∧w'.cell? ⟨w.heap.size,3,none⟩=some (.int .i64 q.2)∧w'.cell? ⟨gx,0,none⟩=some (.slice (some ⟨xb,xo,none⟩) X.length xc)∧w'.cell? ⟨gi,0,none⟩=some (.int .i64 ((i:Int)))∧w'.cell? ⟨xb,xo + i,none⟩=some (.int .i64 ie1)) (by kernel_rfl) 41 ?_
 refine cq.abs ?_
 intro w2 hW
 have hb:Below w1.heap.size w1 w2:=by rw[hW];exact de _
 replace hs:=ar hs hb
 revert Blb B1 B0 B3 B2;refine mo hb ?_;intro Blb B1 B0 B3 B2
 replace Ee1:=ah Ee1 hb
 clear hb hW
 refine Blb.k4 fun B6 B7 B8 B9=>?_
 have B5:=B1.a0
 have B4:=B0.a0
 have hH:=(show w2.cell? ⟨w.heap.size,0,none⟩=some (.int .i64 p.1)∧w2.cell? ⟨w.heap.size,1,none⟩=some (.int .i64 p.2)∧w2.cell? ⟨w.heap.size,2,none⟩=some (.int .i64 q.1)∧w2.cell? ⟨w.heap.size,3,none⟩=some (.int .i64 q.2)∧w2.cell? ⟨gx,0,none⟩=some (.slice (some ⟨xb,xo,none⟩) X.length xc)∧w2.cell? ⟨gi,0,none⟩=some (.int .i64 ((i:Int)))∧w2.cell? ⟨xb,xo + i,none⟩=some (.int .i64 ie1) from ⟨B6,B7,B8,B9,B5,B4,Ee1⟩)
 refine U_tq 0 7 hH ?_
 refine U_tq 1 8 hH ?_
 refine U_tq 2 9 hH ?_
 refine U_tq 3 10 hH ?_
 refine U_tq 4 11 hH ?_
 refine U_tq 5 12 hH ?_
 refine U_tq 6 13 hH ?_
 refine U_tq 7 14 hH ?_
 refine U_tq 8 15 hH ?_
 refine ff 9 16 hH ?_
 simp only[LY]
 refine ff 10 17 hH ?_
 simp only[LY]
 refine ff 11 18 hH ?_
 simp only[LY]
 refine ff 12 19 hH ?_
 simp only[LY]
 refine ff 13 20 hH ?_
 simp only[LY]
 refine ff 14 21 hH ?_
 simp only[LY]
 refine ff 15 22 hH ?_
 simp only[LY]
 refine ff 16 23 hH ?_
 simp only[LY]
 refine ff 17 24 hH ?_
 simp only[LY]
 refine U_tq 18 25 hH ?_
 refine U_tq 19 26 hH ?_
 refine ff 20 27 hH ?_
 simp only[LY]
 refine ff 21 28 hH ?_
 simp only[LY]
 refine ff 22 29 hH ?_
 simp only[LY]
 refine ff 23 30 hH ?_
 simp only[LY]
 refine ff 24 31 hH ?_
 simp only[LY]
 refine ff 25 32 hH ?_
 simp only[LY]
 refine ff 26 33 hH ?_
 simp only[LY]
 refine ff 27 34 hH ?_
 simp only[LY]
 refine U_tq 28 35 hH ?_
 refine U_tq 29 36 hH ?_
 refine ff 30 37 hH ?_
 simp only[LY]
 refine ff 31 38 hH ?_
 simp only[LY]
 refine ff 32 39 hH ?_
 simp only[LY]
 refine ff 33 40 hH ?_
 simp only[LY]
 refine ff 34 41 hH ?_
 simp only[LY]
 refine ff 35 42 hH ?_
 simp only[LY]
 refine ff 36 43 hH ?_
 simp only[LY]
 refine ff 37 44 hH ?_
 simp only[LY]
 refine ff 38 45 hH ?_
 simp only[LY]
 refine U_tq 39 46 hH ?_
 refine U_tq 40 6 hH ?_
 clear hH
 refine im (by kernel_rfl) ?_
 clear B6 B7 B8 B9 B5 B4 Ee1
 go_wp2
 clear le1
 go_ret
 exact⟨by rw[show inJ X Y (p,q) i k=false from by unfold inJ;rw[decide_eq_false (show ¬ (p.1≤nthI X i) from by have hl0:=Hie1.out;omega)];simp];rfl,hs⟩
theorem inK_all {X Y:List Int} {L:List Bxx} {i k j:Nat} (hj:j < L.length) (h:inJ X Y (bxZ L j) i k=true):inK X Y L i k L.length=true:=by
 have h1:∀m,j < m→inK X Y L i k m=true:=by
  intro m
  induction m with
  | zero=>intro h;omega
  | succ m ih=>
   intro hm
   show (inK X Y L i k m || inJ X Y (bxZ L m) i k)=true
   by_cases e:j=m
   ·subst e;rw[h,Bool.or_true]
   rw[ih (by omega)];rfl
 exact h1 _ hj
theorem pl_ixf (v:Value) (L:List Bxx) (X Y:List Int) (i k gx gi gy gk xb xo xc yb yo yc:Nat) (w:World) (hl:Bxs w v L) (h4:L.length≤24) (hbx:Bx w gx 53 #[.slice (some ⟨xb,xo,none⟩) X.length xc]) (hbi:Bx w gi 3 #[.int .i64 (i:Int)]) (hby:Bx w gy 53 #[.slice (some ⟨yb,yo,none⟩) Y.length yc]) (hbk:Bx w gk 3 #[.int .i64 (k:Int)])
  (hrx:Rows 1 3 IC w (.slice (some ⟨xb,xo,none⟩) X.length xc) X) (hry:Rows 1 3 IC w (.slice (some ⟨yb,yo,none⟩) Y.length yc) Y) (hi1:i + 1 < X.length) (hk1:k + 1 < Y.length) (hX2:X.length≤100) (hY2:Y.length≤100):
  Calls Tryz.prog 61 #[v,.func (.func 29) #[] #[.pointer (some ⟨gx,0,none⟩),.pointer (some ⟨gi,0,none⟩),.pointer (some ⟨gy,0,none⟩),.pointer (some ⟨gk,0,none⟩)]] w (fun e w'=>∃n:Int,e=.returned (.int .i64 n)∧(0≤n↔inK X Y L i k L.length=true)∧Below w.heap.size w w'):=by
 obtain⟨ao,cl,rfl, -, -, -⟩:=hl.slice
 have HO:=ae hl
 clear hl
 have hs:=Below.refl w.heap.size w
 have B1:=hbx
 have B0:=hbi
 have B3:=hby
 have B2:=hbk
 have HRX:=ae hrx
 have HRY:=ae hry
 clear hrx hry hbx hbi hby hbk
 have fia:(i < X.length)=True:=eq_true (by omega)
 have fib:((i:Int) < (X.length:Int))=True:=eq_true (by omega)
 have fic:(i + 1 < X.length)=True:=eq_true (by omega)
 have fka:(k < Y.length)=True:=eq_true (by omega)
 have fkb:((k:Int) < (Y.length:Int))=True:=eq_true (by omega)
 have fkc:(k + 1 < Y.length)=True:=eq_true (by omega)
 go_enter Tryz.func61,Tryz.ntmps61
 go_wp2
 go_loopw [8] (fun s8 wq=>∃j:Nat,j≤L.length∧s8=.int .i64 j∧Below w.heap.size w wq∧Bx wq (gx) 53 #[.slice (some ⟨xb,xo,none⟩) X.length xc]∧Bx wq (gi) 3 #[.int .i64 ((i:Int))]∧Bx wq (gy) 53 #[.slice (some ⟨yb,yo,none⟩) Y.length yc]∧Bx wq (gk) 3 #[.int .i64 ((k:Int))]∧(inK X Y L i k j=false)) (fun s8 _=>L.length - (intOf s8).toNat)
 case atStart=>exact⟨0,Nat.zero_le _,rfl,hs,B1,B0,B3,B2,rfl⟩
 case round=>
  clear B1 B0 B3 B2 hs
  obtain⟨j,k_le,rfl,hs,B1,B0,B3,B2,HZ⟩:=hrel
  obtain⟨wl1,hwo⟩:∃x,x=wr:=⟨_,rfl⟩
  subst hwo
  replace HZ:=ae HZ
  by_cases q1:j < L.length
  ·have q1d:((j:Int) < (L.length:Int))=True:=eq_true (by omega)
   obtain⟨ob,oo,oc,hv_,hpc1,hpc2⟩:=ep HO.out (by omega)
   obtain⟨rfl,rfl⟩:=yk hv_
   clear hv_
   obtain⟨Bd,Be,Bf,Bg,le2⟩:=jf0 (be.mono IE.kept HO.out hs) (show j < L.length by omega)
   obtain⟨pe2,Hpe2⟩:∃z:Pt,z=(bxZ L j).1:=⟨_,rfl⟩
   obtain⟨qe2,Hqe2⟩:∃z:Pt,z=(bxZ L j).2:=⟨_,rfl⟩
   rw[show (L.getD j ((0,0),(0,0))).1.1=pe2.1 from by rw[Hpe2];rfl] at Bd
   rw[show (L.getD j ((0,0),(0,0))).1.2=pe2.2 from by rw[Hpe2];rfl] at Be
   rw[show (L.getD j ((0,0),(0,0))).2.1=qe2.1 from by rw[Hqe2];rfl] at Bf
   rw[show (L.getD j ((0,0),(0,0))).2.2=qe2.2 from by rw[Hqe2];rfl] at Bg
   replace Hpe2:=ae Hpe2
   replace Hqe2:=ae Hqe2
   go_wp2_with fail
   clear le2 Bd Be Bf Bg
   with_reducible refine (pl_in1 pe2 qe2 X Y i k gx gi gy gk xb xo xc yb yo yc _ B1 B0 B3 B2 (HRX.out.mono IC.kept hs) (HRY.out.mono IC.kept hs) (by omega) (by omega) (by omega) (by omega)).mono ?_
   rintro e w21 ⟨rfl,hb⟩
   revert B2;revert B3;revert B0;revert B1;refine mS hs hb ?_;clear hs hb;intro hs B1 B0 B3 B2
   obtain⟨jb3,Hjb3⟩:∃b:Bool,b=inJ X Y (pe2,qe2) i k:=⟨_,rfl⟩
   rw[←Hjb3]
   replace Hjb3:=ae Hjb3
   by_cases q4:inJ X Y (pe2,qe2) i k=true
   ·obtain rfl:jb3=true:=by rw[Hjb3.out];exact q4
    have q4H:=ae q4
    clear q4
    go_wp2
    go_ret
    exact⟨_,rfl,⟨fun _=>inK_all (j:=j) (by omega) (show inJ X Y (bxZ L j) i k=true from by rw[show bxZ L j=(pe2,qe2) from by rw[Hpe2.out,Hqe2.out]];exact q4H.out),fun _=>by omega⟩,hs⟩
   obtain rfl:jb3=false:=by rw[Hjb3.out];simpa using q4
   have q4H:=ae q4
   clear q4
   have AX5:IntKind.i64.wrap ((j:Int) + 1)=(j:Int) + 1:=IntWalk.i64_in _ (by omega)
   go_wp2
   go_roundw
   case rel=>exact⟨j + 1,by omega,by go_num,hs,B1,B0,B3,B2,((inK_no (by rw[HZ.out];decide) (show inJ X Y (bxZ L j) i k=false from by rw[show bxZ L j=(pe2,qe2) from by rw[Hpe2.out,Hqe2.out]];exact Bool.eq_false_iff.2 q4H.out)))⟩
   all_goals first|(simp[intOf];done)|(simp[intOf];omega)
  have q1d:((j:Int) < (L.length:Int))=False:=eq_false (by omega)
  go_wp2
  go_ret
  exact⟨_,rfl,⟨fun h=>absurd h (by decide),fun h=>by rw[show L.length=j from by omega,HZ.out] at h;cases h⟩,hs⟩
theorem pl_ctf (v:Value) (L:List Bxx) (X Y:List Int) (i k gx gi gy gk xb xo xc yb yo yc:Nat) (w:World) (hl:Bxs w v L) (h4:L.length≤24) (hbx:Bx w gx 53 #[.slice (some ⟨xb,xo,none⟩) X.length xc]) (hbi:Bx w gi 3 #[.int .i64 (i:Int)]) (hby:Bx w gy 53 #[.slice (some ⟨yb,yo,none⟩) Y.length yc]) (hbk:Bx w gk 3 #[.int .i64 (k:Int)])
  (hrx:Rows 1 3 IC w (.slice (some ⟨xb,xo,none⟩) X.length xc) X) (hry:Rows 1 3 IC w (.slice (some ⟨yb,yo,none⟩) Y.length yc) Y) (hi1:i + 1 < X.length) (hk1:k + 1 < Y.length) (hX2:X.length≤100) (hY2:Y.length≤100):
  Calls Tryz.prog 28 #[v,.func (.func 29) #[] #[.pointer (some ⟨gx,0,none⟩),.pointer (some ⟨gi,0,none⟩),.pointer (some ⟨gy,0,none⟩),.pointer (some ⟨gk,0,none⟩)]] w (fj w (.bool (inK X Y L i k L.length))):=by
 obtain⟨ao,cl,rfl, -, -, -⟩:=hl.slice
 have HO:=ae hl
 clear hl
 have hs:=Below.refl w.heap.size w
 have B1:=hbx
 have B0:=hbi
 have B3:=hby
 have B2:=hbk
 have HRX:=ae hrx
 have HRY:=ae hry
 clear hrx hry hbx hbi hby hbk
 have fia:(i < X.length)=True:=eq_true (by omega)
 have fib:((i:Int) < (X.length:Int))=True:=eq_true (by omega)
 have fic:(i + 1 < X.length)=True:=eq_true (by omega)
 have fka:(k < Y.length)=True:=eq_true (by omega)
 have fkb:((k:Int) < (Y.length:Int))=True:=eq_true (by omega)
 have fkc:(k + 1 < Y.length)=True:=eq_true (by omega)
 go_enter Tryz.func28,Tryz.ntmps28
 go_wp2_with fail
 with_reducible refine (pl_ixf _ L X Y i k gx gi gy gk xb xo xc yb yo yc _ (be.mono IE.kept HO.out hs) (by omega) B1 B0 B3 B2 (HRX.out.mono IC.kept hs) (HRY.out.mono IC.kept hs) (by omega) (by omega) (by omega) (by omega)).mono ?_
 rintro e w1 ⟨nx1,rfl,Hnx1,hb⟩
 revert B1 B0 B3 B2;refine mS hs hb ?_;clear hs hb;intro hs B1 B0 B3 B2
 replace Hnx1:=ae Hnx1
 go_wp2
 go_ret
 exact⟨by rw[show inK X Y L i k L.length=decide (0≤nx1) from by rw[Bool.eq_iff_iff,decide_eq_true_iff];exact Hnx1.out.symm];rfl,hs⟩
end Go.Proofs.YtidmjdmmpajooaaGreat
