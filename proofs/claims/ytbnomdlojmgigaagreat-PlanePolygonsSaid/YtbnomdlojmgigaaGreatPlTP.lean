/-
  The reference's words for points and edges.
-/
import Derived.Test.YtbnomdlojmgigaaGreatPkP20P
set_option linter.unusedSimpArgs false
set_option linter.unusedVariables false
set_option maxRecDepth 100000
set_option maxHeartbeats 4000000
namespace Go.Proofs.YtbnomdlojmgigaaGreat
open Go.RowKit Dg
attribute [local go_sem ↓] Go.wp_at_zero Go.wp_at_succ
theorem sg_wn (n:Int):Wn 1 (sgZ n):=by unfold sgZ;split;exact Wn.lit (by decide) (by decide);split<;>exact Wn.lit (by decide) (by decide)
theorem kn (a b c:Pt) (w:World) (ha:WP 1048576 a) (hb:WP 1048576 b) (hc:WP 1048576 c):
  Calls Tryz.prog 49 #[.agg #[.int .i64 a.1,.int .i64 a.2],.agg #[.int .i64 b.1,.int .i64 b.2],.agg #[.int .i64 c.1,.int .i64 c.2]] w (fj w (.int .i64 (tnZ a b c))):=by
 have hs:=Below.refl w.heap.size w
 go_enter Tryz.func49,Tryz.ntmps49
 have AX1:IntKind.i64.wrap (b.1 - a.1)=b.1 - a.1:=Wn.wsub hb.1 ha.1 (by decide)
 have AX2:IntKind.i64.wrap (c.2 - a.2)=c.2 - a.2:=Wn.wsub hc.2 ha.2 (by decide)
 have AX3:IntKind.i64.wrap ((b.1 - a.1) * (c.2 - a.2))=(b.1 - a.1) * (c.2 - a.2):=Wn.wmul (Wn.sub hb.1 ha.1) (Wn.sub hc.2 ha.2) (by decide)
 have AX4:IntKind.i64.wrap (b.2 - a.2)=b.2 - a.2:=Wn.wsub hb.2 ha.2 (by decide)
 have AX5:IntKind.i64.wrap (c.1 - a.1)=c.1 - a.1:=Wn.wsub hc.1 ha.1 (by decide)
 have AX6:IntKind.i64.wrap ((b.2 - a.2) * (c.1 - a.1))=(b.2 - a.2) * (c.1 - a.1):=Wn.wmul (Wn.sub hb.2 ha.2) (Wn.sub hc.1 ha.1) (by decide)
 have AX7:IntKind.i64.wrap ((b.1 - a.1) * (c.2 - a.2) - (b.2 - a.2) * (c.1 - a.1))=(b.1 - a.1) * (c.2 - a.2) - (b.2 - a.2) * (c.1 - a.1):=Wn.wsub (Wn.mul (Wn.sub hb.1 ha.1) (Wn.sub hc.2 ha.2)) (Wn.mul (Wn.sub hb.2 ha.2) (Wn.sub hc.1 ha.1)) (by decide)
 go_wp2
 refine bodyPost.abs ?_
 intro w1 hW
 have hG:Gr [] w w1:=by rw[hW];exact (Gr.refl _ _).alloc.alloc.alloc
 have C8:=hs.size
 have B9:Bx w1 (w.heap.size) 31 #[.int .i64 a.1,.int .i64 a.2]:=by rw[hW];exact (((Bx.new0 _ _ _).alloc _).alloc _)
 have Ba:Bx w1 (w.heap.size + 1) 31 #[.int .i64 b.1,.int .i64 b.2]:=by rw[hW];exact ((Bx.new0 _ _ _).alloc _)
 have B8:Bx w1 (w.heap.size + 1 + 1) 31 #[.int .i64 c.1,.int .i64 c.2]:=by rw[hW];exact (Bx.new0 _ _ _)
 replace hs:=hs.trans (hG.below0 hs.size)
 clear hW hG
 have C7:=B8.lt
 go_ret
 exact⟨rfl,hs⟩
theorem ue (n:Int) (w:World):
  Calls Tryz.prog 85 #[.int .i64 n] w (fj w (.int .i64 (sgZ n))):=by
 have hs:=Below.refl w.heap.size w
 go_enter Tryz.func85,Tryz.ntmps85
 by_cases q1:n < 0
 ·have q1d:(n < 0)=True:=eq_true (by omega)
  go_wp2
  go_ret
  exact⟨by rw[show sgZ n= -1 from if_pos (by omega)];rfl,hs⟩
 have q1d:(n < 0)=False:=eq_false (by omega)
 go_wp2
 go_ret
 exact⟨by rw[show sgZ n=min n 1 from by unfold sgZ;rw[if_neg (by omega)];split<;>omega];rfl,hs⟩
theorem r2_on (a b c:Pt) (w:World) (ha:WP 1048576 a) (hb:WP 1048576 b) (hc:WP 1048576 c):
  Calls Tryz.prog 53 #[.agg #[.int .i64 a.1,.int .i64 a.2],.agg #[.int .i64 b.1,.int .i64 b.2],.agg #[.int .i64 c.1,.int .i64 c.2]] w (fj w (.bool (onZ a b c))):=by
 have hs:=Below.refl w.heap.size w
 go_enter Tryz.func53,Tryz.ntmps53
 go_wp2_with fail
 refine Calls.abs ?_
 intro w1 hW
 have hG:Gr [] w w1:=by rw[hW];exact (Gr.refl _ _).alloc.alloc.alloc
 have C8:=hs.size
 have B9:Bx w1 (w.heap.size) 31 #[.int .i64 a.1,.int .i64 a.2]:=by rw[hW];exact (((Bx.new0 _ _ _).alloc _).alloc _)
 have Ba:Bx w1 (w.heap.size + 1) 31 #[.int .i64 b.1,.int .i64 b.2]:=by rw[hW];exact ((Bx.new0 _ _ _).alloc _)
 have B8:Bx w1 (w.heap.size + 1 + 1) 31 #[.int .i64 c.1,.int .i64 c.2]:=by rw[hW];exact (Bx.new0 _ _ _)
 replace hs:=hs.trans (hG.below0 hs.size)
 clear hW hG
 have C7:=B8.lt
 with_reducible refine (kn a b c _ ha hb hc).mono ?_
 rintro e w2 ⟨rfl,hb⟩
 revert B9 Ba B8;refine mS hs hb ?_;clear hs hb;intro hs B9 Ba B8
 obtain⟨C4,Bg⟩:∃s:Int,s=tnZ a b c:=⟨_,rfl⟩
 rw[←Bg]
 replace Bg:=ae Bg
 by_cases q2:C4=0
 ·have q2b:(C4 == 0)=true:=beq_iff_eq.2 (by omega)
  have q2n:(C4 != 0)=false:=bne_eq_false_iff_eq.2 (by omega)
  have Bd:=ae q2
  clear q2
  by_cases q3:min a.1 b.1≤c.1
  ·have q3d:(min a.1 b.1≤c.1)=True:=eq_true (by omega)
   by_cases q4:c.1≤max a.1 b.1
   ·have q4d:(c.1≤max a.1 b.1)=True:=eq_true (by omega)
    by_cases q5:min a.2 b.2≤c.2
    ·have q5d:(min a.2 b.2≤c.2)=True:=eq_true (by omega)
     by_cases q6:c.2≤max a.2 b.2
     ·have q6d:(c.2≤max a.2 b.2)=True:=eq_true (by omega)
      try simp only[q6d]
      refine B9.k2l fun B0 B1 La=>?_
      refine Ba.k2l fun B2 B3 Lb=>?_
      refine B8.k2l fun B4 B5 Lc=>?_
      go_wp2
      clear B0 B1 B2 B3 B4 B5 La Lb Lc
      go_ret
      exact⟨by rw[show onZ a b c=true from by unfold onZ;rw[decide_eq_true (show (tnZ a b c=0) from (Bg.out.symm.trans Bd.out))];rw[decide_eq_true (show (min a.1 b.1≤c.1) from (by omega))];rw[decide_eq_true (show (c.1≤max a.1 b.1) from (by omega))];rw[decide_eq_true (show (min a.2 b.2≤c.2) from (by omega))];rw[decide_eq_true (show (c.2≤max a.2 b.2) from (by omega))];rfl];rfl,hs⟩
     have q6d:(c.2≤max a.2 b.2)=False:=eq_false (by omega)
     try simp only[q6d]
     refine B9.k2l fun B0 B1 La=>?_
     refine Ba.k2l fun B2 B3 Lb=>?_
     refine B8.k2l fun B4 B5 Lc=>?_
     go_wp2
     clear B0 B1 B2 B3 B4 B5 La Lb Lc
     go_ret
     exact⟨by rw[show onZ a b c=false from by unfold onZ;rw[decide_eq_true (show (tnZ a b c=0) from (Bg.out.symm.trans Bd.out))];rw[decide_eq_true (show (min a.1 b.1≤c.1) from (by omega))];rw[decide_eq_true (show (c.1≤max a.1 b.1) from (by omega))];rw[decide_eq_true (show (min a.2 b.2≤c.2) from (by omega))];rw[decide_eq_false (show ¬ (c.2≤max a.2 b.2) from (by omega))];simp];rfl,hs⟩
    have q5d:(min a.2 b.2≤c.2)=False:=eq_false (by omega)
    refine B9.k2l fun B0 B1 La=>?_
    refine Ba.k2l fun B2 B3 Lb=>?_
    refine B8.k2l fun B4 B5 Lc=>?_
    go_wp2
    clear B0 B1 B2 B3 B4 B5 La Lb Lc
    go_ret
    exact⟨by rw[show onZ a b c=false from by unfold onZ;rw[decide_eq_true (show (tnZ a b c=0) from (Bg.out.symm.trans Bd.out))];rw[decide_eq_true (show (min a.1 b.1≤c.1) from (by omega))];rw[decide_eq_true (show (c.1≤max a.1 b.1) from (by omega))];rw[decide_eq_false (show ¬ (min a.2 b.2≤c.2) from (by omega))];simp];rfl,hs⟩
   have q4d:(c.1≤max a.1 b.1)=False:=eq_false (by omega)
   refine B9.k2l fun B0 B1 La=>?_
   refine Ba.k2l fun B2 B3 Lb=>?_
   refine B8.k2l fun B4 B5 Lc=>?_
   go_wp2
   clear B0 B1 B2 B3 B4 B5 La Lb Lc
   go_ret
   exact⟨by rw[show onZ a b c=false from by unfold onZ;rw[decide_eq_true (show (tnZ a b c=0) from (Bg.out.symm.trans Bd.out))];rw[decide_eq_true (show (min a.1 b.1≤c.1) from (by omega))];rw[decide_eq_false (show ¬ (c.1≤max a.1 b.1) from (by omega))];simp];rfl,hs⟩
  have q3d:(min a.1 b.1≤c.1)=False:=eq_false (by omega)
  refine B9.k2l fun B0 B1 La=>?_
  refine Ba.k2l fun B2 B3 Lb=>?_
  refine B8.k2l fun B4 B5 Lc=>?_
  go_wp2
  clear B0 B1 B2 B3 B4 B5 La Lb Lc
  go_ret
  exact⟨by rw[show onZ a b c=false from by unfold onZ;rw[decide_eq_true (show (tnZ a b c=0) from (Bg.out.symm.trans Bd.out))];rw[decide_eq_false (show ¬ (min a.1 b.1≤c.1) from (by omega))];simp];rfl,hs⟩
 have q2b:(C4 == 0)=false:=beq_eq_false_iff_ne.2 (by omega)
 have q2n:(C4 != 0)=true:=bne_iff_ne.2 (by omega)
 have Bd:=ae q2
 clear q2
 go_wp2
 go_ret
 exact⟨by rw[show onZ a b c=false from by unfold onZ;rw[decide_eq_false (show ¬ (tnZ a b c=0) from (fun h=>Bd.out (Bg.out.trans h)))];simp];rfl,hs⟩
theorem r2_meet (a b c d:Pt) (w:World) (ha:WP 1048576 a) (hb:WP 1048576 b) (hc:WP 1048576 c) (hd:WP 1048576 d):
  Calls Tryz.prog 50 #[.agg #[.int .i64 a.1,.int .i64 a.2],.agg #[.int .i64 b.1,.int .i64 b.2],.agg #[.int .i64 c.1,.int .i64 c.2],.agg #[.int .i64 d.1,.int .i64 d.2]] w (fj w (.bool (mtZ a b c d))):=by
 have hs:=Below.refl w.heap.size w
 go_enter Tryz.func50,Tryz.ntmps50
 go_wp2_with fail
 refine Calls.abs ?_
 intro w1 hW
 have hG:Gr [] w w1:=by rw[hW];exact (Gr.refl _ _).alloc.alloc.alloc.alloc
 have C8:=hs.size
 have B9:Bx w1 (w.heap.size) 31 #[.int .i64 a.1,.int .i64 a.2]:=by rw[hW];exact ((((Bx.new0 _ _ _).alloc _).alloc _).alloc _)
 have Ba:Bx w1 (w.heap.size + 1) 31 #[.int .i64 b.1,.int .i64 b.2]:=by rw[hW];exact (((Bx.new0 _ _ _).alloc _).alloc _)
 have B8:Bx w1 (w.heap.size + 1 + 1) 31 #[.int .i64 c.1,.int .i64 c.2]:=by rw[hW];exact ((Bx.new0 _ _ _).alloc _)
 have Bc:Bx w1 (w.heap.size + 1 + 1 + 1) 31 #[.int .i64 d.1,.int .i64 d.2]:=by rw[hW];exact (Bx.new0 _ _ _)
 replace hs:=hs.trans (hG.below0 hs.size)
 clear hW hG
 have C7:=Bc.lt
 with_reducible refine (r2_on a b c _ ha hb hc).mono ?_
 rintro e w2 ⟨rfl,hb⟩
 revert B9 Ba B8 Bc;refine mS hs hb ?_;clear hs hb;intro hs B9 Ba B8 Bc
 obtain⟨b1,Bz⟩:∃zz:Bool,zz=onZ a b c:=⟨_,rfl⟩
 rw[←Bz]
 replace Bz:=ae Bz
 by_cases q2:onZ a b c=true
 ·obtain rfl:b1=true:=by rw[Bz.out];exact q2
  have Bd:=ae q2
  clear q2
  go_wp2
  go_ret
  exact⟨by rw[show mtZ a b c d=true from by unfold mtZ;rw[show onZ a b c=true from Bd.out];simp];rfl,hs⟩
 obtain rfl:b1=false:=by rw[Bz.out];simpa using q2
 have Bd:=ae q2
 clear q2
 refine B9.k2l fun B0 B1 La=>?_
 refine Ba.k2l fun B2 B3 Lb=>?_
 refine Bc.k2l fun B6 B7 Ld=>?_
 go_wp2_with fail
 clear B0 B1 B2 B3 B6 B7 La Lb Ld
 with_reducible refine (r2_on a b d _ ha hb hd).mono ?_
 rintro e w3 ⟨rfl,hb⟩
 revert Bc;revert B8;revert Ba;revert B9;refine mS hs hb ?_;clear hs hb;intro hs B9 Ba B8 Bc
 obtain⟨b3,C0⟩:∃zz:Bool,zz=onZ a b d:=⟨_,rfl⟩
 rw[←C0]
 replace C0:=ae C0
 by_cases q4:onZ a b d=true
 ·obtain rfl:b3=true:=by rw[C0.out];exact q4
  have Bu:=ae q4
  clear q4
  go_wp2
  go_ret
  exact⟨by rw[show mtZ a b c d=true from by unfold mtZ;rw[show onZ a b c=false from Bool.eq_false_iff.2 Bd.out];rw[show onZ a b d=true from Bu.out];simp];rfl,hs⟩
 obtain rfl:b3=false:=by rw[C0.out];simpa using q4
 have Bu:=ae q4
 clear q4
 refine B8.k2l fun B4 B5 Lc=>?_
 refine Bc.k2l fun B6 B7 Ld=>?_
 refine B9.k2l fun B0 B1 La=>?_
 go_wp2_with fail
 clear B4 B5 B6 B7 B0 B1 Lc Ld La
 with_reducible refine (r2_on c d a _ hc hd ha).mono ?_
 rintro e w4 ⟨rfl,hb⟩
 revert Bc;revert B8;revert Ba;revert B9;refine mS hs hb ?_;clear hs hb;intro hs B9 Ba B8 Bc
 obtain⟨b5,C1⟩:∃zz:Bool,zz=onZ c d a:=⟨_,rfl⟩
 rw[←C1]
 replace C1:=ae C1
 by_cases q6:onZ c d a=true
 ·obtain rfl:b5=true:=by rw[C1.out];exact q6
  have Bv:=ae q6
  clear q6
  go_wp2
  go_ret
  exact⟨by rw[show mtZ a b c d=true from by unfold mtZ;rw[show onZ a b c=false from Bool.eq_false_iff.2 Bd.out];rw[show onZ a b d=false from Bool.eq_false_iff.2 Bu.out];rw[show onZ c d a=true from Bv.out];simp];rfl,hs⟩
 obtain rfl:b5=false:=by rw[C1.out];simpa using q6
 have Bv:=ae q6
 clear q6
 refine B8.k2l fun B4 B5 Lc=>?_
 refine Bc.k2l fun B6 B7 Ld=>?_
 refine Ba.k2l fun B2 B3 Lb=>?_
 go_wp2_with fail
 clear B4 B5 B6 B7 B2 B3 Lc Ld Lb
 with_reducible refine (r2_on c d b _ hc hd hb).mono ?_
 rintro e w5 ⟨rfl,hb⟩
 revert Bc;revert B8;revert Ba;revert B9;refine mS hs hb ?_;clear hs hb;intro hs B9 Ba B8 Bc
 obtain⟨b7,C2⟩:∃zz:Bool,zz=onZ c d b:=⟨_,rfl⟩
 rw[←C2]
 replace C2:=ae C2
 by_cases q8:onZ c d b=true
 ·obtain rfl:b7=true:=by rw[C2.out];exact q8
  have C3:=ae q8
  clear q8
  go_wp2
  go_ret
  exact⟨by rw[show mtZ a b c d=true from by unfold mtZ;rw[show onZ a b c=false from Bool.eq_false_iff.2 Bd.out];rw[show onZ a b d=false from Bool.eq_false_iff.2 Bu.out];rw[show onZ c d a=false from Bool.eq_false_iff.2 Bv.out];rw[show onZ c d b=true from C3.out];simp];rfl,hs⟩
 obtain rfl:b7=false:=by rw[C2.out];simpa using q8
 have C3:=ae q8
 clear q8
 go_upto_region 3 with fail
 obtain⟨tn9,Bo⟩:∃s:Int,s=tnZ a b c:=⟨_,rfl⟩
 replace Bo:=ae Bo
 obtain⟨Bi,Be⟩:∃s:Int,s=sgZ tn9:=⟨_,rfl⟩
 replace Be:=ae Be
 obtain⟨C6,Bh⟩:∃s:Int,s=tnZ a b d:=⟨_,rfl⟩
 replace Bh:=ae Bh
 obtain⟨Bj,Bf⟩:∃s:Int,s=sgZ C6:=⟨_,rfl⟩
 replace Bf:=ae Bf
 have AX13:IntKind.i64.wrap (Bi * Bj)=Bi * Bj:=Wn.wmul (show Wn 1 Bi from by rw[Be.out];exact sg_wn _) (show Wn 1 Bj from by rw[Bf.out];exact sg_wn _) (by decide)
 by_cases q14:Bi * Bj < 0
 ·have q14d:(Bi * Bj < 0)=True:=eq_true (by omega)
  obtain⟨C9,Bp⟩:∃s:Int,s=tnZ c d a:=⟨_,rfl⟩
  replace Bp:=ae Bp
  obtain⟨Bk,Bm⟩:∃s:Int,s=sgZ C9:=⟨_,rfl⟩
  replace Bm:=ae Bm
  obtain⟨Ca,Bq⟩:∃s:Int,s=tnZ c d b:=⟨_,rfl⟩
  replace Bq:=ae Bq
  obtain⟨Bl,Bn⟩:∃s:Int,s=sgZ Ca:=⟨_,rfl⟩
  replace Bn:=ae Bn
  have AX19:IntKind.i64.wrap (Bk * Bl)=Bk * Bl:=Wn.wmul (show Wn 1 Bk from by rw[Bm.out];exact sg_wn _) (show Wn 1 Bl from by rw[Bn.out];exact sg_wn _) (by decide)
  refine bw (S:=fun w'=>w'.cell? ⟨w.heap.size,0,none⟩=some (.int .i64 a.1)∧w'.cell? ⟨w.heap.size,1,none⟩=some (.int .i64 a.2)∧w'.cell? ⟨w.heap.size + 1,0,none⟩=some (.int .i64 b.1)∧w'.cell? ⟨w.heap.size + 1,1,none⟩=some (.int .i64 b.2)∧w'.cell? ⟨w.heap.size + 1 + 1,0,none⟩=some (.int .i64 c.1)∧w'.cell? ⟨w.heap.size + 1 + 1,1,none⟩=some (.int .i64 c.2)∧w'.cell? ⟨w.heap.size + 1 + 1 + 1,0,none⟩=some (.int .i64 d.1)∧w'.cell? ⟨w.heap.size + 1 + 1 + 1,1,none⟩=some (.int .i64 d.2)) (by kernel_rfl) 27 ?_
  refine cq.abs ?_
  intro w6 hW
  have hb:Below w5.heap.size w5 w6:=by rw[hW];exact de _
  replace hs:=ar hs hb
  revert Bc;revert B8;revert Ba;revert B9;refine mo hb ?_;intro B9 Ba B8 Bc
  clear hb hW
  refine B9.k2 fun B0 B1=>?_
  refine Ba.k2 fun B2 B3=>?_
  refine B8.k2 fun B4 B5=>?_
  refine Bc.k2 fun B6 B7=>?_
  have hH:=(show w6.cell? ⟨w.heap.size,0,none⟩=some (.int .i64 a.1)∧w6.cell? ⟨w.heap.size,1,none⟩=some (.int .i64 a.2)∧w6.cell? ⟨w.heap.size + 1,0,none⟩=some (.int .i64 b.1)∧w6.cell? ⟨w.heap.size + 1,1,none⟩=some (.int .i64 b.2)∧w6.cell? ⟨w.heap.size + 1 + 1,0,none⟩=some (.int .i64 c.1)∧w6.cell? ⟨w.heap.size + 1 + 1,1,none⟩=some (.int .i64 c.2)∧w6.cell? ⟨w.heap.size + 1 + 1 + 1,0,none⟩=some (.int .i64 d.1)∧w6.cell? ⟨w.heap.size + 1 + 1 + 1,1,none⟩=some (.int .i64 d.2) from ⟨B0,B1,B2,B3,B4,B5,B6,B7⟩)
  refine U_tq 0 31 hH ?_
  refine U_tq 1 32 hH ?_
  refine U_tq 2 33 hH ?_
  refine U_tq 5 36 hH ?_
  refine U_tq 6 37 hH ?_
  refine U_tq 7 38 hH ?_
  clear hH
  refine U_on 3 fun K hK=>?_
  go_simp
  (with_reducible refine (kn a b c _ ha hb hc).mono ?_)
  rintro e w7 ⟨rfl,hb⟩
  replace hs:=ar hs hb
  revert B9 Ba B8 Bc;refine mo hb ?_;intro B9 Ba B8 Bc
  replace B0:=ah B0 hb
  replace B1:=ah B1 hb
  replace B2:=ah B2 hb
  replace B3:=ah B3 hb
  replace B4:=ah B4 hb
  replace B5:=ah B5 hb
  replace B6:=ah B6 hb
  replace B7:=ah B7 hb
  clear hb
  rw[←Bo.out]
  try go_wp2_with fail
  refine hK.out _ _ ⟨B0,B1,B2,B3,B4,B5,B6,B7⟩ (fun hH=>?_)
  clear hK K
  try simp only[LY]
  clear hH
  refine U_on 4 fun K hK=>?_
  go_simp
  (with_reducible refine (ue tn9 _).mono ?_)
  rintro e w8 ⟨rfl,hb⟩
  replace hs:=ar hs hb
  revert B9 Ba B8 Bc;refine mo hb ?_;intro B9 Ba B8 Bc
  replace B0:=ah B0 hb
  replace B1:=ah B1 hb
  replace B2:=ah B2 hb
  replace B3:=ah B3 hb
  replace B4:=ah B4 hb
  replace B5:=ah B5 hb
  replace B6:=ah B6 hb
  replace B7:=ah B7 hb
  clear hb
  rw[←Be.out]
  try go_wp2_with fail
  refine hK.out _ _ ⟨B0,B1,B2,B3,B4,B5,B6,B7⟩ (fun hH=>?_)
  clear hK K
  try simp only[LY]
  clear hH
  refine U_on 8 fun K hK=>?_
  go_simp
  (with_reducible refine (kn a b d _ ha hb hd).mono ?_)
  rintro e w9 ⟨rfl,hb⟩
  replace hs:=ar hs hb
  revert B9 Ba B8 Bc;refine mo hb ?_;intro B9 Ba B8 Bc
  replace B0:=ah B0 hb
  replace B1:=ah B1 hb
  replace B2:=ah B2 hb
  replace B3:=ah B3 hb
  replace B4:=ah B4 hb
  replace B5:=ah B5 hb
  replace B6:=ah B6 hb
  replace B7:=ah B7 hb
  clear hb
  rw[←Bh.out]
  try go_wp2_with fail
  refine hK.out _ _ ⟨B0,B1,B2,B3,B4,B5,B6,B7⟩ (fun hH=>?_)
  clear hK K
  try simp only[LY]
  clear hH
  refine U_on 9 fun K hK=>?_
  go_simp
  (with_reducible refine (ue C6 _).mono ?_)
  rintro e w10 ⟨rfl,hb⟩
  replace hs:=ar hs hb
  revert B9 Ba B8 Bc;refine mo hb ?_;intro B9 Ba B8 Bc
  replace B0:=ah B0 hb
  replace B1:=ah B1 hb
  replace B2:=ah B2 hb
  replace B3:=ah B3 hb
  replace B4:=ah B4 hb
  replace B5:=ah B5 hb
  replace B6:=ah B6 hb
  replace B7:=ah B7 hb
  clear hb
  rw[←Bf.out]
  try go_wp2_with fail
  refine hK.out _ _ ⟨B0,B1,B2,B3,B4,B5,B6,B7⟩ (fun hH=>?_)
  clear hK K
  try simp only[LY]
  refine U_tq 10 41 hH ?_
  refine U_tq 11 42 hH ?_
  refine U_tq 12 43 hH ?_
  refine U_tq 13 44 hH ?_
  refine U_tq 14 45 hH ?_
  refine U_tq 15 46 hH ?_
  refine U_tq 18 49 hH ?_
  refine U_tq 19 50 hH ?_
  refine U_tq 20 51 hH ?_
  clear hH
  refine U_on 16 fun K hK=>?_
  go_simp
  (with_reducible refine (kn c d a _ hc hd ha).mono ?_)
  rintro e w11 ⟨rfl,hb⟩
  replace hs:=ar hs hb
  revert B9 Ba B8 Bc;refine mo hb ?_;intro B9 Ba B8 Bc
  replace B0:=ah B0 hb
  replace B1:=ah B1 hb
  replace B2:=ah B2 hb
  replace B3:=ah B3 hb
  replace B4:=ah B4 hb
  replace B5:=ah B5 hb
  replace B6:=ah B6 hb
  replace B7:=ah B7 hb
  clear hb
  rw[←Bp.out]
  try go_wp2_with fail
  refine hK.out _ _ ⟨B0,B1,B2,B3,B4,B5,B6,B7⟩ (fun hH=>?_)
  clear hK K
  try simp only[LY]
  clear hH
  refine U_on 17 fun K hK=>?_
  go_simp
  (with_reducible refine (ue C9 _).mono ?_)
  rintro e w12 ⟨rfl,hb⟩
  replace hs:=ar hs hb
  revert B9 Ba B8 Bc;refine mo hb ?_;intro B9 Ba B8 Bc
  replace B0:=ah B0 hb
  replace B1:=ah B1 hb
  replace B2:=ah B2 hb
  replace B3:=ah B3 hb
  replace B4:=ah B4 hb
  replace B5:=ah B5 hb
  replace B6:=ah B6 hb
  replace B7:=ah B7 hb
  clear hb
  rw[←Bm.out]
  try go_wp2_with fail
  refine hK.out _ _ ⟨B0,B1,B2,B3,B4,B5,B6,B7⟩ (fun hH=>?_)
  clear hK K
  try simp only[LY]
  clear hH
  refine U_on 21 fun K hK=>?_
  go_simp
  (with_reducible refine (kn c d b _ hc hd hb).mono ?_)
  rintro e w13 ⟨rfl,hb⟩
  replace hs:=ar hs hb
  revert B9 Ba B8 Bc;refine mo hb ?_;intro B9 Ba B8 Bc
  replace B0:=ah B0 hb
  replace B1:=ah B1 hb
  replace B2:=ah B2 hb
  replace B3:=ah B3 hb
  replace B4:=ah B4 hb
  replace B5:=ah B5 hb
  replace B6:=ah B6 hb
  replace B7:=ah B7 hb
  clear hb
  rw[←Bq.out]
  try go_wp2_with fail
  refine hK.out _ _ ⟨B0,B1,B2,B3,B4,B5,B6,B7⟩ (fun hH=>?_)
  clear hK K
  try simp only[LY]
  clear hH
  refine U_on 22 fun K hK=>?_
  go_simp
  (with_reducible refine (ue Ca _).mono ?_)
  rintro e w14 ⟨rfl,hb⟩
  replace hs:=ar hs hb
  revert B9 Ba B8 Bc;refine mo hb ?_;intro B9 Ba B8 Bc
  replace B0:=ah B0 hb
  replace B1:=ah B1 hb
  replace B2:=ah B2 hb
  replace B3:=ah B3 hb
  replace B4:=ah B4 hb
  replace B5:=ah B5 hb
  replace B6:=ah B6 hb
  replace B7:=ah B7 hb
  clear hb
  rw[←Bn.out]
  try go_wp2_with fail
  refine hK.out _ _ ⟨B0,B1,B2,B3,B4,B5,B6,B7⟩ (fun hH=>?_)
  clear hK K
  try simp only[LY]
  refine U_tq 23 54 hH ?_
  refine U_tq 24 55 hH ?_
  refine U_tq 25 56 hH ?_
  refine U_tq 26 8 hH ?_
  clear hH
  refine im (by kernel_rfl) ?_
  clear B0 B1 B2 B3 B4 B5 B6 B7
  by_cases q20:Bk * Bl < 0
  ·have C5:(Bk * Bl < 0)=True:=eq_true (by omega)
   try simp only[C5]
   go_wp2
   go_ret
   exact⟨by rw[show mtZ a b c d=true from by unfold mtZ;rw[show onZ a b c=false from Bool.eq_false_iff.2 Bd.out];rw[show onZ a b d=false from Bool.eq_false_iff.2 Bu.out];rw[show onZ c d a=false from Bool.eq_false_iff.2 Bv.out];rw[show onZ c d b=false from Bool.eq_false_iff.2 C3.out];rw[decide_eq_true (show (sgZ (tnZ a b c) * sgZ (tnZ a b d) < 0) from by have Br:Bi=sgZ (tnZ a b c):=(Be.out.trans (congrArg sgZ Bo.out));have Bs:Bj=sgZ (tnZ a b d):=(Bf.out.trans (congrArg sgZ Bh.out));simp only[←Br,←Bs];omega)];rw[decide_eq_true (show (sgZ (tnZ c d a) * sgZ (tnZ c d b) < 0) from by have Bw:Bk=sgZ (tnZ c d a):=(Bm.out.trans (congrArg sgZ Bp.out));have By:Bl=sgZ (tnZ c d b):=(Bn.out.trans (congrArg sgZ Bq.out));simp only[←Bw,←By];omega)];simp];rfl,hs⟩
  have C5:(Bk * Bl < 0)=False:=eq_false (by omega)
  try simp only[C5]
  go_wp2
  go_ret
  exact⟨by rw[show mtZ a b c d=false from by unfold mtZ;rw[show onZ a b c=false from Bool.eq_false_iff.2 Bd.out];rw[show onZ a b d=false from Bool.eq_false_iff.2 Bu.out];rw[show onZ c d a=false from Bool.eq_false_iff.2 Bv.out];rw[show onZ c d b=false from Bool.eq_false_iff.2 C3.out];rw[decide_eq_true (show (sgZ (tnZ a b c) * sgZ (tnZ a b d) < 0) from by have Br:Bi=sgZ (tnZ a b c):=(Be.out.trans (congrArg sgZ Bo.out));have Bs:Bj=sgZ (tnZ a b d):=(Bf.out.trans (congrArg sgZ Bh.out));simp only[←Br,←Bs];omega)];rw[decide_eq_false (show ¬ (sgZ (tnZ c d a) * sgZ (tnZ c d b) < 0) from by have Bw:Bk=sgZ (tnZ c d a):=(Bm.out.trans (congrArg sgZ Bp.out));have By:Bl=sgZ (tnZ c d b):=(Bn.out.trans (congrArg sgZ Bq.out));simp only[←Bw,←By];omega)];simp];rfl,hs⟩
 have q14d:(Bi * Bj < 0)=False:=eq_false (by omega)
 refine bw (S:=fun w'=>w'.cell? ⟨w.heap.size,0,none⟩=some (.int .i64 a.1)∧w'.cell? ⟨w.heap.size,1,none⟩=some (.int .i64 a.2)∧w'.cell? ⟨w.heap.size + 1,0,none⟩=some (.int .i64 b.1)∧w'.cell? ⟨w.heap.size + 1,1,none⟩=some (.int .i64 b.2)∧w'.cell? ⟨w.heap.size + 1 + 1,0,none⟩=some (.int .i64 c.1)∧w'.cell? ⟨w.heap.size + 1 + 1,1,none⟩=some (.int .i64 c.2)∧w'.cell? ⟨w.heap.size + 1 + 1 + 1,0,none⟩=some (.int .i64 d.1)∧w'.cell? ⟨w.heap.size + 1 + 1 + 1,1,none⟩=some (.int .i64 d.2)) (by kernel_rfl) 27 ?_
 refine cq.abs ?_
 intro w6 hW
 have hb:Below w5.heap.size w5 w6:=by rw[hW];exact de _
 replace hs:=ar hs hb
 revert Bc;revert B8;revert Ba;revert B9;refine mo hb ?_;intro B9 Ba B8 Bc
 clear hb hW
 refine B9.k2 fun B0 B1=>?_
 refine Ba.k2 fun B2 B3=>?_
 refine B8.k2 fun B4 B5=>?_
 refine Bc.k2 fun B6 B7=>?_
 have hH:=(show w6.cell? ⟨w.heap.size,0,none⟩=some (.int .i64 a.1)∧w6.cell? ⟨w.heap.size,1,none⟩=some (.int .i64 a.2)∧w6.cell? ⟨w.heap.size + 1,0,none⟩=some (.int .i64 b.1)∧w6.cell? ⟨w.heap.size + 1,1,none⟩=some (.int .i64 b.2)∧w6.cell? ⟨w.heap.size + 1 + 1,0,none⟩=some (.int .i64 c.1)∧w6.cell? ⟨w.heap.size + 1 + 1,1,none⟩=some (.int .i64 c.2)∧w6.cell? ⟨w.heap.size + 1 + 1 + 1,0,none⟩=some (.int .i64 d.1)∧w6.cell? ⟨w.heap.size + 1 + 1 + 1,1,none⟩=some (.int .i64 d.2) from ⟨B0,B1,B2,B3,B4,B5,B6,B7⟩)
 refine U_tq 0 31 hH ?_
 refine U_tq 1 32 hH ?_
 refine U_tq 2 33 hH ?_
 refine U_tq 5 36 hH ?_
 refine U_tq 6 37 hH ?_
 refine U_tq 7 38 hH ?_
 clear hH
 refine U_on 3 fun K hK=>?_
 go_simp
 (with_reducible refine (kn a b c _ ha hb hc).mono ?_)
 rintro e w7 ⟨rfl,hb⟩
 replace hs:=ar hs hb
 revert B9 Ba B8 Bc;refine mo hb ?_;intro B9 Ba B8 Bc
 replace B0:=ah B0 hb
 replace B1:=ah B1 hb
 replace B2:=ah B2 hb
 replace B3:=ah B3 hb
 replace B4:=ah B4 hb
 replace B5:=ah B5 hb
 replace B6:=ah B6 hb
 replace B7:=ah B7 hb
 clear hb
 rw[←Bo.out]
 try go_wp2_with fail
 refine hK.out _ _ ⟨B0,B1,B2,B3,B4,B5,B6,B7⟩ (fun hH=>?_)
 clear hK K
 try simp only[LY]
 clear hH
 refine U_on 4 fun K hK=>?_
 go_simp
 (with_reducible refine (ue tn9 _).mono ?_)
 rintro e w8 ⟨rfl,hb⟩
 replace hs:=ar hs hb
 revert B9 Ba B8 Bc;refine mo hb ?_;intro B9 Ba B8 Bc
 replace B0:=ah B0 hb
 replace B1:=ah B1 hb
 replace B2:=ah B2 hb
 replace B3:=ah B3 hb
 replace B4:=ah B4 hb
 replace B5:=ah B5 hb
 replace B6:=ah B6 hb
 replace B7:=ah B7 hb
 clear hb
 rw[←Be.out]
 try go_wp2_with fail
 refine hK.out _ _ ⟨B0,B1,B2,B3,B4,B5,B6,B7⟩ (fun hH=>?_)
 clear hK K
 try simp only[LY]
 clear hH
 refine U_on 8 fun K hK=>?_
 go_simp
 (with_reducible refine (kn a b d _ ha hb hd).mono ?_)
 rintro e w9 ⟨rfl,hb⟩
 replace hs:=ar hs hb
 revert B9 Ba B8 Bc;refine mo hb ?_;intro B9 Ba B8 Bc
 replace B0:=ah B0 hb
 replace B1:=ah B1 hb
 replace B2:=ah B2 hb
 replace B3:=ah B3 hb
 replace B4:=ah B4 hb
 replace B5:=ah B5 hb
 replace B6:=ah B6 hb
 replace B7:=ah B7 hb
 clear hb
 rw[←Bh.out]
 try go_wp2_with fail
 refine hK.out _ _ ⟨B0,B1,B2,B3,B4,B5,B6,B7⟩ (fun hH=>?_)
 clear hK K
 try simp only[LY]
 clear hH
 refine U_on 9 fun K hK=>?_
 go_simp
 (with_reducible refine (ue C6 _).mono ?_)
 rintro e w10 ⟨rfl,hb⟩
 replace hs:=ar hs hb
 revert B9 Ba B8 Bc;refine mo hb ?_;intro B9 Ba B8 Bc
 replace B0:=ah B0 hb
 replace B1:=ah B1 hb
 replace B2:=ah B2 hb
 replace B3:=ah B3 hb
 replace B4:=ah B4 hb
 replace B5:=ah B5 hb
 replace B6:=ah B6 hb
 replace B7:=ah B7 hb
 clear hb
 rw[←Bf.out]
 try go_wp2_with fail
 refine hK.out _ _ ⟨B0,B1,B2,B3,B4,B5,B6,B7⟩ (fun hH=>?_)
 clear hK K
 try simp only[LY]
 refine U_tq 10 41 hH ?_
 refine U_tq 11 42 hH ?_
 refine U_tq 12 43 hH ?_
 refine ff 13 44 hH ?_
 simp only[LY]
 refine ff 14 45 hH ?_
 simp only[LY]
 refine ff 15 46 hH ?_
 simp only[LY]
 refine ff 18 49 hH ?_
 simp only[LY]
 refine ff 19 50 hH ?_
 simp only[LY]
 refine ff 20 51 hH ?_
 simp only[LY]
 clear hH
 refine U_on 16 fun K hK=>?_
 go_simp
 refine hK.out _ _ ⟨B0,B1,B2,B3,B4,B5,B6,B7⟩ (fun hH=>?_)
 clear hK K
 try simp only[LY]
 clear hH
 refine U_on 17 fun K hK=>?_
 go_simp
 refine hK.out _ _ ⟨B0,B1,B2,B3,B4,B5,B6,B7⟩ (fun hH=>?_)
 clear hK K
 try simp only[LY]
 clear hH
 refine U_on 21 fun K hK=>?_
 go_simp
 refine hK.out _ _ ⟨B0,B1,B2,B3,B4,B5,B6,B7⟩ (fun hH=>?_)
 clear hK K
 try simp only[LY]
 clear hH
 refine U_on 22 fun K hK=>?_
 go_simp
 refine hK.out _ _ ⟨B0,B1,B2,B3,B4,B5,B6,B7⟩ (fun hH=>?_)
 clear hK K
 try simp only[LY]
 refine ff 23 54 hH ?_
 simp only[LY]
 refine ff 24 55 hH ?_
 simp only[LY]
 refine U_tq 25 56 hH ?_
 refine U_tq 26 8 hH ?_
 clear hH
 refine im (by kernel_rfl) ?_
 clear B0 B1 B2 B3 B4 B5 B6 B7
 go_wp2
 go_ret
 exact⟨by rw[show mtZ a b c d=false from by unfold mtZ;rw[show onZ a b c=false from Bool.eq_false_iff.2 Bd.out];rw[show onZ a b d=false from Bool.eq_false_iff.2 Bu.out];rw[show onZ c d a=false from Bool.eq_false_iff.2 Bv.out];rw[show onZ c d b=false from Bool.eq_false_iff.2 C3.out];rw[decide_eq_false (show ¬ (sgZ (tnZ a b c) * sgZ (tnZ a b d) < 0) from by have Br:Bi=sgZ (tnZ a b c):=(Be.out.trans (congrArg sgZ Bo.out));have Bs:Bj=sgZ (tnZ a b d):=(Bf.out.trans (congrArg sgZ Bh.out));simp only[←Br,←Bs];omega)];simp];rfl,hs⟩
end Go.Proofs.YtbnomdlojmgigaaGreat
