/-
  The reference's words for points and edges.
-/
import Derived.Test.YtbnomdlojmgigaaGreatPkW17W
set_option linter.unusedSimpArgs false
set_option linter.unusedVariables false
set_option maxRecDepth 100000
set_option maxHeartbeats 4000000
namespace Go.Proofs.YtbnomdlojmgigaaGreat
open Go.RowKit Dg
attribute [local go_sem ↓] Go.wp_at_zero Go.wp_at_succ
theorem fr_comm (p q:Pt):frZ p q=frZ q p:=by unfold frZ dtZ mnZ;simp only;grind
theorem fr_wn {p q:Pt} (hp:WP 1048576 p) (hq:WP 1048576 q):Wn 17592186044416 (frZ p q):=by
 unfold frZ dtZ mnZ
 exact ((Wn.mul (hq.1.sub hp.1) (hq.1.sub hp.1)).add (Wn.mul (hq.2.sub hp.2) (hq.2.sub hp.2))).mono (by decide)
theorem tn_wn {a b c:Pt} (ha:WP 1048576 a) (hb:WP 1048576 b) (hc:WP 1048576 c):Wn 17592186044416 (tnZ a b c):=by
 unfold tnZ
 exact ((Wn.mul (hb.1.sub ha.1) (hc.2.sub ha.2)).sub (Wn.mul (hb.2.sub ha.2) (hc.1.sub ha.1))).mono (by decide)
theorem sg_wn (n:Int):Wn 1 (sgZ n):=by unfold sgZ;split;exact Wn.lit (by decide) (by decide);split<;>exact Wn.lit (by decide) (by decide)
theorem ds_1 {a b q:Pt} (h:dtZ (mnZ q a) (mnZ b a)≤0):dsQ a b q=(frZ a q:Rat):=if_pos h
theorem ds_2 {a b q:Pt} (h:¬ dtZ (mnZ q a) (mnZ b a)≤0) (k:dtZ (mnZ b a) (mnZ b a)≤dtZ (mnZ q a) (mnZ b a)):dsQ a b q=(frZ b q:Rat):=(if_neg h).trans (if_pos k)
theorem ds_3 {a b q:Pt} (h:¬ dtZ (mnZ q a) (mnZ b a)≤0) (k:¬ dtZ (mnZ b a) (mnZ b a)≤dtZ (mnZ q a) (mnZ b a)):dsQ a b q=((tnZ a b q:Int):Rat) * ((tnZ a b q:Int):Rat) / ((frZ a b:Int):Rat):=(if_neg h).trans (if_neg k)
theorem kn (a b c:Pt) (w:World) (ha:WP 1048576 a) (hb:WP 1048576 b) (hc:WP 1048576 c):
  Calls Tryz.prog 49 #[.agg #[.int .i64 a.1,.int .i64 a.2],.agg #[.int .i64 b.1,.int .i64 b.2],.agg #[.int .i64 c.1,.int .i64 c.2]] w (fj w (.int .i64 (tnZ a b c))):=by
 have hs:=Below.refl w.heap.size w
 go_enter Tryz.func49,Tryz.ntmps49
 have AX1:IntKind.i64.wrap (b.1 - a.1)=b.1 - a.1:=Wn.wsub hb.1 ha.1 (by decide)
 have AX2:IntKind.i64.wrap (c.2 - a.2)=c.2 - a.2:=Wn.wsub hc.2 ha.2 (by decide)
 have AX3:IntKind.i64.wrap ((b.1 - a.1) * (c.2 - a.2))=(b.1 - a.1) * (c.2 - a.2):=Wn.wmul (Wn.sub hb.1 ha.1) (Wn.sub hc.2 ha.2) (by decide)
 have AX4:IntKind.i64.wrap (b.2 - a.2)=b.2 - a.2:=Wn.wsub hb.2 ha.2 (by decide)
 have AX5:IntKind.i64.wrap (c.1 - a.1)=c.1 - a.1:=Wn.wsub hc.1 ha.1 (by decide)
 have AX6:IntKind.i64.wrap ((b.2 - a.2) * (c.1 - a.1))=(b.2 - a.2) * (c.1 - a.1):=Wn.wmul (Wn.sub hb.2 ha.2) (Wn.sub hc.1 ha.1) (by decide)
 have AX7:IntKind.i64.wrap ((b.1 - a.1) * (c.2 - a.2) - (b.2 - a.2) * (c.1 - a.1))=(b.1 - a.1) * (c.2 - a.2) - (b.2 - a.2) * (c.1 - a.1):=Wn.wsub (Wn.mul (Wn.sub hb.1 ha.1) (Wn.sub hc.2 ha.2)) (Wn.mul (Wn.sub hb.2 ha.2) (Wn.sub hc.1 ha.1)) (by decide)
 go_wp2
 refine bodyPost.abs ?_
 intro w1 hW
 have hG:Gr [] w w1:=by rw[hW];exact (Gr.refl _ _).alloc.alloc.alloc
 have Cj:=hs.size
 have B1:Bx w1 (w.heap.size) 31 #[.int .i64 a.1,.int .i64 a.2]:=by rw[hW];exact (((Bx.new0 _ _ _).alloc _).alloc _)
 have B0:Bx w1 (w.heap.size + 1) 31 #[.int .i64 b.1,.int .i64 b.2]:=by rw[hW];exact ((Bx.new0 _ _ _).alloc _)
 have Ba:Bx w1 (w.heap.size + 1 + 1) 31 #[.int .i64 c.1,.int .i64 c.2]:=by rw[hW];exact (Bx.new0 _ _ _)
 replace hs:=hs.trans (hG.below0 hs.size)
 clear hW hG
 have Ci:=Ba.lt
 go_ret
 exact⟨rfl,hs⟩
theorem ue (n:Int) (w:World):
  Calls Tryz.prog 85 #[.int .i64 n] w (fj w (.int .i64 (sgZ n))):=by
 have hs:=Below.refl w.heap.size w
 go_enter Tryz.func85,Tryz.ntmps85
 by_cases q1:n < 0
 ·have q1d:(n < 0)=True:=eq_true (by omega)
  go_wp2
  go_ret
  exact⟨by rw[show sgZ n= -1 from if_pos (by omega)];rfl,hs⟩
 have q1d:(n < 0)=False:=eq_false (by omega)
 go_wp2
 go_ret
 exact⟨by rw[show sgZ n=min n 1 from by unfold sgZ;rw[if_neg (by omega)];split<;>omega];rfl,hs⟩
theorem r2_on (a b c:Pt) (w:World) (ha:WP 1048576 a) (hb:WP 1048576 b) (hc:WP 1048576 c):
  Calls Tryz.prog 53 #[.agg #[.int .i64 a.1,.int .i64 a.2],.agg #[.int .i64 b.1,.int .i64 b.2],.agg #[.int .i64 c.1,.int .i64 c.2]] w (fj w (.bool (onZ a b c))):=by
 have hs:=Below.refl w.heap.size w
 go_enter Tryz.func53,Tryz.ntmps53
 go_wp2_with fail
 refine Calls.abs ?_
 intro w1 hW
 have hG:Gr [] w w1:=by rw[hW];exact (Gr.refl _ _).alloc.alloc.alloc
 have Cj:=hs.size
 have B1:Bx w1 (w.heap.size) 31 #[.int .i64 a.1,.int .i64 a.2]:=by rw[hW];exact (((Bx.new0 _ _ _).alloc _).alloc _)
 have B0:Bx w1 (w.heap.size + 1) 31 #[.int .i64 b.1,.int .i64 b.2]:=by rw[hW];exact ((Bx.new0 _ _ _).alloc _)
 have Ba:Bx w1 (w.heap.size + 1 + 1) 31 #[.int .i64 c.1,.int .i64 c.2]:=by rw[hW];exact (Bx.new0 _ _ _)
 replace hs:=hs.trans (hG.below0 hs.size)
 clear hW hG
 have Ci:=Ba.lt
 with_reducible refine (kn a b c _ ha hb hc).mono ?_
 rintro e w2 ⟨rfl,hb⟩
 revert B1 B0 Ba;refine mS hs hb ?_;clear hs hb;intro hs B1 B0 Ba
 obtain⟨Cy,Bu⟩:∃s:Int,s=tnZ a b c:=⟨_,rfl⟩
 rw[←Bu]
 replace Bu:=ae Bu
 by_cases q2:Cy=0
 ·have q2b:(Cy == 0)=true:=beq_iff_eq.2 (by omega)
  have q2n:(Cy != 0)=false:=bne_eq_false_iff_eq.2 (by omega)
  have Bm:=ae q2
  clear q2
  by_cases q3:min a.1 b.1≤c.1
  ·have q3d:(min a.1 b.1≤c.1)=True:=eq_true (by omega)
   by_cases q4:c.1≤max a.1 b.1
   ·have q4d:(c.1≤max a.1 b.1)=True:=eq_true (by omega)
    by_cases q5:min a.2 b.2≤c.2
    ·have q5d:(min a.2 b.2≤c.2)=True:=eq_true (by omega)
     by_cases q6:c.2≤max a.2 b.2
     ·have q6d:(c.2≤max a.2 b.2)=True:=eq_true (by omega)
      try simp only[q6d]
      refine B1.k2l fun B4 B5 La=>?_
      refine B0.k2l fun B2 B3 Lb=>?_
      refine Ba.k2l fun B6 B7 Lc=>?_
      go_wp2
      clear B4 B5 B2 B3 B6 B7 La Lb Lc
      go_ret
      exact⟨by rw[show onZ a b c=true from by unfold onZ;rw[decide_eq_true (show (tnZ a b c=0) from (Bu.out.symm.trans Bm.out))];rw[decide_eq_true (show (min a.1 b.1≤c.1) from (by omega))];rw[decide_eq_true (show (c.1≤max a.1 b.1) from (by omega))];rw[decide_eq_true (show (min a.2 b.2≤c.2) from (by omega))];rw[decide_eq_true (show (c.2≤max a.2 b.2) from (by omega))];rfl];rfl,hs⟩
     have q6d:(c.2≤max a.2 b.2)=False:=eq_false (by omega)
     try simp only[q6d]
     refine B1.k2l fun B4 B5 La=>?_
     refine B0.k2l fun B2 B3 Lb=>?_
     refine Ba.k2l fun B6 B7 Lc=>?_
     go_wp2
     clear B4 B5 B2 B3 B6 B7 La Lb Lc
     go_ret
     exact⟨by rw[show onZ a b c=false from by unfold onZ;rw[decide_eq_true (show (tnZ a b c=0) from (Bu.out.symm.trans Bm.out))];rw[decide_eq_true (show (min a.1 b.1≤c.1) from (by omega))];rw[decide_eq_true (show (c.1≤max a.1 b.1) from (by omega))];rw[decide_eq_true (show (min a.2 b.2≤c.2) from (by omega))];rw[decide_eq_false (show ¬ (c.2≤max a.2 b.2) from (by omega))];simp];rfl,hs⟩
    have q5d:(min a.2 b.2≤c.2)=False:=eq_false (by omega)
    refine B1.k2l fun B4 B5 La=>?_
    refine B0.k2l fun B2 B3 Lb=>?_
    refine Ba.k2l fun B6 B7 Lc=>?_
    go_wp2
    clear B4 B5 B2 B3 B6 B7 La Lb Lc
    go_ret
    exact⟨by rw[show onZ a b c=false from by unfold onZ;rw[decide_eq_true (show (tnZ a b c=0) from (Bu.out.symm.trans Bm.out))];rw[decide_eq_true (show (min a.1 b.1≤c.1) from (by omega))];rw[decide_eq_true (show (c.1≤max a.1 b.1) from (by omega))];rw[decide_eq_false (show ¬ (min a.2 b.2≤c.2) from (by omega))];simp];rfl,hs⟩
   have q4d:(c.1≤max a.1 b.1)=False:=eq_false (by omega)
   refine B1.k2l fun B4 B5 La=>?_
   refine B0.k2l fun B2 B3 Lb=>?_
   refine Ba.k2l fun B6 B7 Lc=>?_
   go_wp2
   clear B4 B5 B2 B3 B6 B7 La Lb Lc
   go_ret
   exact⟨by rw[show onZ a b c=false from by unfold onZ;rw[decide_eq_true (show (tnZ a b c=0) from (Bu.out.symm.trans Bm.out))];rw[decide_eq_true (show (min a.1 b.1≤c.1) from (by omega))];rw[decide_eq_false (show ¬ (c.1≤max a.1 b.1) from (by omega))];simp];rfl,hs⟩
  have q3d:(min a.1 b.1≤c.1)=False:=eq_false (by omega)
  refine B1.k2l fun B4 B5 La=>?_
  refine B0.k2l fun B2 B3 Lb=>?_
  refine Ba.k2l fun B6 B7 Lc=>?_
  go_wp2
  clear B4 B5 B2 B3 B6 B7 La Lb Lc
  go_ret
  exact⟨by rw[show onZ a b c=false from by unfold onZ;rw[decide_eq_true (show (tnZ a b c=0) from (Bu.out.symm.trans Bm.out))];rw[decide_eq_false (show ¬ (min a.1 b.1≤c.1) from (by omega))];simp];rfl,hs⟩
 have q2b:(Cy == 0)=false:=beq_eq_false_iff_ne.2 (by omega)
 have q2n:(Cy != 0)=true:=bne_iff_ne.2 (by omega)
 have Bm:=ae q2
 clear q2
 go_wp2
 go_ret
 exact⟨by rw[show onZ a b c=false from by unfold onZ;rw[decide_eq_false (show ¬ (tnZ a b c=0) from (fun h=>Bm.out (Bu.out.trans h)))];simp];rfl,hs⟩
theorem r2_far (p q:Pt) (w:World) (hp:WP 1048576 p) (hq:WP 1048576 q):
  Calls Tryz.prog 95 #[.agg #[.int .i64 p.1,.int .i64 p.2],.agg #[.int .i64 q.1,.int .i64 q.2]] w (fj w (.int .i64 (frZ p q))):=by
 have hs:=Below.refl w.heap.size w
 go_enter Tryz.func95,Tryz.ntmps95
 have AX1:IntKind.i64.wrap (p.1 - q.1)=p.1 - q.1:=Wn.wsub hp.1 hq.1 (by decide)
 have AX2:IntKind.i64.wrap (p.1 - q.1)=p.1 - q.1:=Wn.wsub hp.1 hq.1 (by decide)
 have AX3:IntKind.i64.wrap ((p.1 - q.1) * (p.1 - q.1))=(p.1 - q.1) * (p.1 - q.1):=Wn.wmul (Wn.sub hp.1 hq.1) (Wn.sub hp.1 hq.1) (by decide)
 have AX4:IntKind.i64.wrap (p.2 - q.2)=p.2 - q.2:=Wn.wsub hp.2 hq.2 (by decide)
 have AX5:IntKind.i64.wrap (p.2 - q.2)=p.2 - q.2:=Wn.wsub hp.2 hq.2 (by decide)
 have AX6:IntKind.i64.wrap ((p.2 - q.2) * (p.2 - q.2))=(p.2 - q.2) * (p.2 - q.2):=Wn.wmul (Wn.sub hp.2 hq.2) (Wn.sub hp.2 hq.2) (by decide)
 have AX7:IntKind.i64.wrap ((p.1 - q.1) * (p.1 - q.1) + (p.2 - q.2) * (p.2 - q.2))=(p.1 - q.1) * (p.1 - q.1) + (p.2 - q.2) * (p.2 - q.2):=Wn.wadd (Wn.mul (Wn.sub hp.1 hq.1) (Wn.sub hp.1 hq.1)) (Wn.mul (Wn.sub hp.2 hq.2) (Wn.sub hp.2 hq.2)) (by decide)
 go_wp2
 refine bodyPost.abs ?_
 intro w1 hW
 have hG:Gr [] w w1:=by rw[hW];exact (Gr.refl _ _).alloc.alloc
 have Cj:=hs.size
 have Blp:Bx w1 (w.heap.size) 31 #[.int .i64 p.1,.int .i64 p.2]:=by rw[hW];exact ((Bx.new0 _ _ _).alloc _)
 have Bd:Bx w1 (w.heap.size + 1) 31 #[.int .i64 q.1,.int .i64 q.2]:=by rw[hW];exact (Bx.new0 _ _ _)
 replace hs:=hs.trans (hG.below0 hs.size)
 clear hW hG
 have Ci:=Bd.lt
 go_ret
 exact⟨by rw[fr_comm];rfl,hs⟩
theorem ud (a b q:Pt) (w:World) (ha:WP 1048576 a) (hb:WP 1048576 b) (hq:WP 1048576 q):
  Calls Tryz.prog 56 #[.agg #[.int .i64 a.1,.int .i64 a.2],.agg #[.int .i64 b.1,.int .i64 b.2],.agg #[.int .i64 q.1,.int .i64 q.2]] w (rx w (dsQ a b q)):=by
 have hs:=Below.refl w.heap.size w
 go_enter Tryz.func56,Tryz.ntmps56
 have AX1:IntKind.i64.wrap (q.1 - a.1)=q.1 - a.1:=Wn.wsub hq.1 ha.1 (by decide)
 have AX2:IntKind.i64.wrap (b.1 - a.1)=b.1 - a.1:=Wn.wsub hb.1 ha.1 (by decide)
 have AX3:IntKind.i64.wrap ((q.1 - a.1) * (b.1 - a.1))=(q.1 - a.1) * (b.1 - a.1):=Wn.wmul (Wn.sub hq.1 ha.1) (Wn.sub hb.1 ha.1) (by decide)
 have AX4:IntKind.i64.wrap (q.2 - a.2)=q.2 - a.2:=Wn.wsub hq.2 ha.2 (by decide)
 have AX5:IntKind.i64.wrap (b.2 - a.2)=b.2 - a.2:=Wn.wsub hb.2 ha.2 (by decide)
 have AX6:IntKind.i64.wrap ((q.2 - a.2) * (b.2 - a.2))=(q.2 - a.2) * (b.2 - a.2):=Wn.wmul (Wn.sub hq.2 ha.2) (Wn.sub hb.2 ha.2) (by decide)
 have AX7:IntKind.i64.wrap ((q.1 - a.1) * (b.1 - a.1) + (q.2 - a.2) * (b.2 - a.2))=(q.1 - a.1) * (b.1 - a.1) + (q.2 - a.2) * (b.2 - a.2):=Wn.wadd (Wn.mul (Wn.sub hq.1 ha.1) (Wn.sub hb.1 ha.1)) (Wn.mul (Wn.sub hq.2 ha.2) (Wn.sub hb.2 ha.2)) (by decide)
 by_cases q8:(q.1 - a.1) * (b.1 - a.1) + (q.2 - a.2) * (b.2 - a.2)≤0
 ·have q8d:((q.1 - a.1) * (b.1 - a.1) + (q.2 - a.2) * (b.2 - a.2)≤0)=True:=eq_true (by omega)
  go_wp2_with fail
  refine Calls.abs ?_
  intro w1 hW
  have hG:Gr [] w w1:=by rw[hW];exact (Gr.refl _ _).alloc.alloc.alloc.alloc
  have Cj:=hs.size
  have B1:Bx w1 (w.heap.size) 31 #[.int .i64 a.1,.int .i64 a.2]:=by rw[hW];exact ((((Bx.new0 _ _ _).alloc _).alloc _).alloc _)
  have B0:Bx w1 (w.heap.size + 1) 31 #[.int .i64 b.1,.int .i64 b.2]:=by rw[hW];exact (((Bx.new0 _ _ _).alloc _).alloc _)
  have Bd:Bx w1 (w.heap.size + 1 + 1) 31 #[.int .i64 q.1,.int .i64 q.2]:=by rw[hW];exact ((Bx.new0 _ _ _).alloc _)
  have Blk:Bx w1 (w.heap.size + 1 + 1 + 1) 53 #[.bool false,.slice none 0 0,.slice none 0 0]:=by rw[hW];exact (Bx.new0 _ _ _)
  replace hs:=hs.trans (hG.below0 hs.size)
  clear hW hG
  have Ci:=Blk.lt
  with_reducible refine (r2_far a q _ ha hq).mono ?_
  rintro e w2 ⟨rfl,hb⟩
  revert B1 B0 Bd Blk;refine mS hs hb ?_;clear hs hb;intro hs B1 B0 Bd Blk
  obtain⟨C4,Bk⟩:∃s:Int,s=frZ a q:=⟨_,rfl⟩
  rw[←Bk]
  replace Bk:=ae Bk
  go_wp2_with fail
  with_reducible refine (wy C4 _ ((show Wn 17592186044416 C4 from by rw[Bk.out];exact fr_wn ha hq).mono (by decide))).mono ?_
  rintro e w3 ⟨_,rfl,Dh,hb⟩
  obtain⟨De,D5,Db,D7,Cz,D3,D1,rfl⟩:=Dh.shape
  revert Blk;revert Bd;revert B0;revert B1;refine mS hs hb ?_;clear hs hb;intro hs B1 B0 Bd Blk
  refine Blk.k3fl fun Bp Bq Br fk Lk=>?_
  go_wp2
  clear Bp Bq Br fk Lk
  refine bodyPost.abs ?_
  intro w4 hW
  have hG:Gr [w.heap.size + 1 + 1 + 1] w3 w4:=by rw[hW];exact (Gr.refl _ _).set.set.set
  have Cw:=hs.size
  have lk:=Blk.lt
  have hk:=hG.keep ⟨⟨_,Blk.ty,by decide⟩,True.intro⟩
  have Bz:Bx w4 (w.heap.size + 1 + 1 + 1) 53 #[.bool De,.slice D5 Db D7,.slice Cz D3 D1]:=by rw[hW];exact Blk.set3
  replace hs:=hs.trans (hG.d1 hs.size)
  replace B1:=hG.b1 B1
  replace B0:=hG.b1 B0
  replace Bd:=hG.b1 Bd
  replace Blk:=Bz
  clear Bz
  replace Dh:=Dh.keep hk
  clear hW hG hk Cw lk
  refine Blk.k3 fun Bp Bq Br=>?_
  exact bodyPost_ret (v:=.agg #[.bool De,.slice D5 Db D7,.slice Cz D3 D1]) (by simp[results,Tryz.results56,go_sem,Bp,Bq,Br]) rfl ⟨_,rfl,Dh.of_eq (by rw[Bk.out];exact (ds_1 (show dtZ (mnZ q a) (mnZ b a)≤0 from by show (q.1 - a.1) * (b.1 - a.1) + (q.2 - a.2) * (b.2 - a.2)≤0;omega)).symm),hs⟩
 have q8d:((q.1 - a.1) * (b.1 - a.1) + (q.2 - a.2) * (b.2 - a.2)≤0)=False:=eq_false (by omega)
 go_wp2_with fail
 refine Calls.abs ?_
 intro w1 hW
 have hG:Gr [] w w1:=by rw[hW];exact (Gr.refl _ _).alloc.alloc.alloc.alloc
 have Cj:=hs.size
 have B1:Bx w1 (w.heap.size) 31 #[.int .i64 a.1,.int .i64 a.2]:=by rw[hW];exact ((((Bx.new0 _ _ _).alloc _).alloc _).alloc _)
 have B0:Bx w1 (w.heap.size + 1) 31 #[.int .i64 b.1,.int .i64 b.2]:=by rw[hW];exact (((Bx.new0 _ _ _).alloc _).alloc _)
 have Bd:Bx w1 (w.heap.size + 1 + 1) 31 #[.int .i64 q.1,.int .i64 q.2]:=by rw[hW];exact ((Bx.new0 _ _ _).alloc _)
 have Blk:Bx w1 (w.heap.size + 1 + 1 + 1) 53 #[.bool false,.slice none 0 0,.slice none 0 0]:=by rw[hW];exact (Bx.new0 _ _ _)
 replace hs:=hs.trans (hG.below0 hs.size)
 clear hW hG
 have Ci:=Blk.lt
 with_reducible refine (r2_far a b _ ha hb).mono ?_
 rintro e w2 ⟨rfl,hb⟩
 revert B1 B0 Bd Blk;refine mS hs hb ?_;clear hs hb;intro hs B1 B0 Bd Blk
 obtain⟨C4,Bk⟩:∃s:Int,s=frZ a b:=⟨_,rfl⟩
 rw[←Bk]
 replace Bk:=ae Bk
 by_cases q10:C4≤(q.1 - a.1) * (b.1 - a.1) + (q.2 - a.2) * (b.2 - a.2)
 ·have q10d:(C4≤(q.1 - a.1) * (b.1 - a.1) + (q.2 - a.2) * (b.2 - a.2))=True:=eq_true (by omega)
  refine B0.k2l fun B2 B3 Lb=>?_
  refine Bd.k2l fun D9 Da Lq=>?_
  go_wp2_with fail
  clear B2 B3 D9 Da Lb Lq
  with_reducible refine (r2_far b q _ hb hq).mono ?_
  rintro e w3 ⟨rfl,hb⟩
  revert B1 B0 Bd Blk;refine mS hs hb ?_;clear hs hb;intro hs B1 B0 Bd Blk
  obtain⟨Dj,Cd⟩:∃s:Int,s=frZ b q:=⟨_,rfl⟩
  rw[←Cd]
  replace Cd:=ae Cd
  go_wp2_with fail
  with_reducible refine (wy Dj _ ((show Wn 17592186044416 Dj from by rw[Cd.out];exact fr_wn hb hq).mono (by decide))).mono ?_
  rintro e w4 ⟨_,rfl,Bg,hb⟩
  obtain⟨C6,C2,C5,C3,By,C1,C0,rfl⟩:=Bg.shape
  revert Blk;revert Bd;revert B0;revert B1;refine mS hs hb ?_;clear hs hb;intro hs B1 B0 Bd Blk
  refine Blk.k3fl fun Bp Bq Br fk Lk=>?_
  go_wp2
  clear Bp Bq Br fk Lk
  refine bodyPost.abs ?_
  intro w5 hW
  have hG:Gr [w.heap.size + 1 + 1 + 1] w4 w5:=by rw[hW];exact (Gr.refl _ _).set.set.set
  have Cw:=hs.size
  have lk:=Blk.lt
  have hk:=hG.keep ⟨⟨_,Blk.ty,by decide⟩,True.intro⟩
  have Bz:Bx w5 (w.heap.size + 1 + 1 + 1) 53 #[.bool C6,.slice C2 C5 C3,.slice By C1 C0]:=by rw[hW];exact Blk.set3
  replace hs:=hs.trans (hG.d1 hs.size)
  replace B1:=hG.b1 B1
  replace B0:=hG.b1 B0
  replace Bd:=hG.b1 Bd
  replace Blk:=Bz
  clear Bz
  replace Bg:=Bg.keep hk
  clear hW hG hk Cw lk
  refine Blk.k3 fun Bp Bq Br=>?_
  exact bodyPost_ret (v:=.agg #[.bool C6,.slice C2 C5 C3,.slice By C1 C0]) (by simp[results,Tryz.results56,go_sem,Bp,Bq,Br]) rfl ⟨_,rfl,Bg.of_eq (by rw[Cd.out];exact (ds_2 (show ¬ dtZ (mnZ q a) (mnZ b a)≤0 from by show ¬ (q.1 - a.1) * (b.1 - a.1) + (q.2 - a.2) * (b.2 - a.2)≤0;omega) (show dtZ (mnZ b a) (mnZ b a)≤dtZ (mnZ q a) (mnZ b a) from by rw[←(show C4=dtZ (mnZ b a) (mnZ b a) from Bk.out)];show C4≤(q.1 - a.1) * (b.1 - a.1) + (q.2 - a.2) * (b.2 - a.2);omega)).symm),hs⟩
 have q10d:(C4≤(q.1 - a.1) * (b.1 - a.1) + (q.2 - a.2) * (b.2 - a.2))=False:=eq_false (by omega)
 refine B1.k2l fun B4 B5 La=>?_
 refine B0.k2l fun B2 B3 Lb=>?_
 refine Bd.k2l fun D9 Da Lq=>?_
 go_wp2_with fail
 clear B4 B5 B2 B3 D9 Da La Lb Lq
 with_reducible refine (kn a b q _ ha hb hq).mono ?_
 rintro e w3 ⟨rfl,hb⟩
 revert B1 B0 Bd Blk;refine mS hs hb ?_;clear hs hb;intro hs B1 B0 Bd Blk
 obtain⟨Bs,Be⟩:∃s:Int,s=tnZ a b q:=⟨_,rfl⟩
 rw[←Be]
 replace Be:=ae Be
 go_wp2_with fail
 with_reducible refine (wy Bs _ ((show Wn 17592186044416 Bs from by rw[Be.out];exact tn_wn ha hb hq).mono (by decide))).mono ?_
 rintro e w4 ⟨_,rfl,Bg,hb⟩
 obtain⟨C6,C2,C5,C3,By,C1,C0,rfl⟩:=Bg.shape
 revert Blk;revert Bd;revert B0;revert B1;refine mS hs hb ?_;clear hs hb;intro hs B1 B0 Bd Blk
 go_upto_region 7 with fail
 refine Code.abs ?_
 intro w5 hW
 have hG:Gr [] w4 w5:=by rw[hW];exact (Gr.refl _ _).alloc
 have sz_w5:=hs.size
 have na_w5:=B1.lt
 have nb_w5:=B0.lt
 have nq_w5:=Bd.lt
 have nk_w5:=Blk.lt
 have Bl:Bx w5 (w4.heap.size) 53 #[.bool C6,.slice C2 C5 C3,.slice By C1 C0]:=by rw[hW];exact (Bx.new0 _ _ _)
 replace hs:=hs.trans (hG.below0 hs.size)
 revert Bg B1 B0 Bd Blk;refine g0 hG ?_;intro Bg B1 B0 Bd Blk
 clear hW hG
 have hz_w5:=Bl.lt
 refine bw (S:=fun w'=>w'.cell? ⟨w4.heap.size,0,none⟩=some (.bool C6)∧w'.cell? ⟨w4.heap.size,1,none⟩=some (.slice C2 C5 C3)∧w'.cell? ⟨w4.heap.size,2,none⟩=some (.slice By C1 C0)∧w'.cell? ⟨w.heap.size,0,none⟩=some (.int .i64 a.1)∧w'.cell? ⟨w.heap.size,1,none⟩=some (.int .i64 a.2)∧w'.cell? ⟨w.heap.size + 1,0,none⟩=some (.int .i64 b.1)∧w'.cell? ⟨w.heap.size + 1,1,none⟩=some (.int .i64 b.2)) (by kernel_rfl) 8 ?_
 refine cq.abs ?_
 intro w6 hW
 have hb:Below w5.heap.size w5 w6:=by rw[hW];exact de _
 replace hs:=ar hs hb
 revert Bl Bg B1 B0 Bd Blk;refine mo hb ?_;intro Bl Bg B1 B0 Bd Blk
 clear hb hW
 refine Bl.k3 fun Bh Bi Bj=>?_
 refine B1.k2 fun B4 B5=>?_
 refine B0.k2 fun B2 B3=>?_
 have hH:=(show w6.cell? ⟨w4.heap.size,0,none⟩=some (.bool C6)∧w6.cell? ⟨w4.heap.size,1,none⟩=some (.slice C2 C5 C3)∧w6.cell? ⟨w4.heap.size,2,none⟩=some (.slice By C1 C0)∧w6.cell? ⟨w.heap.size,0,none⟩=some (.int .i64 a.1)∧w6.cell? ⟨w.heap.size,1,none⟩=some (.int .i64 a.2)∧w6.cell? ⟨w.heap.size + 1,0,none⟩=some (.int .i64 b.1)∧w6.cell? ⟨w.heap.size + 1,1,none⟩=some (.int .i64 b.2) from ⟨Bh,Bi,Bj,B4,B5,B2,B3⟩)
 refine cz 0 ?_ ?_ hH ?_
 rotate_left
 ·(intro w Bb;(try dsimp only at Bb);go_simp;try with_reducible rfl)
 try simp only[LY]
 refine cz 1 ?_ ?_ hH ?_
 rotate_left
 ·(intro w Bb;(try dsimp only at Bb);go_simp;try with_reducible rfl)
 try simp only[LY]
 refine cz 3 ?_ ?_ hH ?_
 rotate_left
 ·(intro w Bb;(try dsimp only at Bb);go_simp;try with_reducible rfl)
 try simp only[LY]
 refine cz 4 ?_ ?_ hH ?_
 rotate_left
 ·(intro w Bb;(try dsimp only at Bb);go_simp;try with_reducible rfl)
 try simp only[LY]
 clear hH
 refine U_on 2 fun K hK=>?_
 go_simp
 (with_reducible refine (rMul Bg Bg (SzQ.fit (qj ((show Wn 17592186044416 Bs from by rw[Be.out];exact tn_wn ha hb hq).mono (by decide)))) (SzQ.fit (qj ((show Wn 17592186044416 Bs from by rw[Be.out];exact tn_wn ha hb hq).mono (by decide))))).mono ?_)
 rintro e w7 ⟨_,rfl,Cb,hb⟩
 obtain⟨sh13,ah13,nh13,ch13,Ah13,Nh13,Ch13,rfl⟩:=Cb.shape
 replace hs:=ar hs hb
 revert Blk;revert Bd;revert B0;revert B1;revert Bg;revert Bl;refine mo hb ?_;intro Bl Bg B1 B0 Bd Blk
 replace Bh:=ah Bh hb
 replace Bi:=ah Bi hb
 replace Bj:=ah Bj hb
 replace B4:=ah B4 hb
 replace B5:=ah B5 hb
 replace B2:=ah B2 hb
 replace B3:=ah B3 hb
 clear hb
 try go_wp2_with fail
 refine hK.out _ _ ⟨Bh,Bi,Bj,B4,B5,B2,B3⟩ (fun hH=>?_)
 clear hK K
 try simp only[LY]
 clear hH
 refine U_on 5 fun K hK=>?_
 go_simp
 (with_reducible refine (r2_far a b _ ha hb).mono ?_)
 rintro e w8 ⟨rfl,hb⟩
 replace hs:=ar hs hb
 revert Cb Bl Bg B1 B0 Bd Blk;refine mo hb ?_;intro Cb Bl Bg B1 B0 Bd Blk
 replace Bh:=ah Bh hb
 replace Bi:=ah Bi hb
 replace Bj:=ah Bj hb
 replace B4:=ah B4 hb
 replace B5:=ah B5 hb
 replace B2:=ah B2 hb
 replace B3:=ah B3 hb
 clear hb
 obtain⟨Cm,Bt⟩:∃s:Int,s=frZ a b:=⟨_,rfl⟩
 rw[←Bt]
 replace Bt:=ae Bt
 try go_wp2_with fail
 refine hK.out _ _ ⟨Bh,Bi,Bj,B4,B5,B2,B3⟩ (fun hH=>?_)
 clear hK K
 try simp only[LY]
 clear hH
 refine U_on 6 fun K hK=>?_
 go_simp
 (with_reducible refine (wy Cm _ ((show Wn 17592186044416 Cm from by rw[Bt.out];exact fr_wn ha hb).mono (by decide))).mono ?_)
 rintro e w9 ⟨_,rfl,Co,hb⟩
 obtain⟨sh15,ah15,nh15,ch15,Ah15,Nh15,Ch15,rfl⟩:=Co.shape
 replace hs:=ar hs hb
 revert Blk;revert Bd;revert B0;revert B1;revert Bg;revert Bl;revert Cb;refine mo hb ?_;intro Cb Bl Bg B1 B0 Bd Blk
 replace Bh:=ah Bh hb
 replace Bi:=ah Bi hb
 replace Bj:=ah Bj hb
 replace B4:=ah B4 hb
 replace B5:=ah B5 hb
 replace B2:=ah B2 hb
 replace B3:=ah B3 hb
 clear hb
 try go_wp2_with fail
 refine hK.out _ _ ⟨Bh,Bi,Bj,B4,B5,B2,B3⟩ (fun hH=>?_)
 clear hK K
 try simp only[LY]
 clear hH
 refine U_on 7 fun K hK=>?_
 go_simp
 (with_reducible refine (r2_quotient _ _ _ _ _ Cb (SzQ.mid (SzQ.mul (qj ((show Wn 17592186044416 Bs from by rw[Be.out];exact tn_wn ha hb hq).mono (by decide))) (qj ((show Wn 17592186044416 Bs from by rw[Be.out];exact tn_wn ha hb hq).mono (by decide))))) Co (SzQ.mid (qj ((show Wn 17592186044416 Cm from by rw[Bt.out];exact fr_wn ha hb).mono (by decide)))) (fun e=>absurd (Rat.intCast_eq_zero_iff.1 e) (show ¬ Cm=0 from by have e:Cm=C4:=Bt.out.trans Bk.out.symm;omega))).mono ?_)
 rintro e Ck ⟨_,rfl,Di,hb⟩
 obtain⟨Df,D6,Dc,D8,D0,D4,D2,rfl⟩:=Di.shape
 replace hs:=ar hs hb
 revert Blk;revert Bd;revert B0;revert B1;revert Bg;revert Bl;revert Cb;revert Co;refine mo hb ?_;intro Co Cb Bl Bg B1 B0 Bd Blk
 replace Bh:=ah Bh hb
 replace Bi:=ah Bi hb
 replace Bj:=ah Bj hb
 replace B4:=ah B4 hb
 replace B5:=ah B5 hb
 replace B2:=ah B2 hb
 replace B3:=ah B3 hb
 clear hb
 try go_wp2_with fail
 refine hK.out _ _ ⟨Bh,Bi,Bj,B4,B5,B2,B3⟩ (fun hH=>?_)
 clear hK K
 try simp only[LY]
 clear hH
 refine Blk.k3fl fun Bp Bq Br fk Lk=>?_
 refine dr (by kernel_rfl) rfl (by kernel_rfl) (fun K hK=>?_)
 go_simp
 refine hK.out _ _ ?_
 clear hK K
 intro Cl hW
 have hG:Gr [w.heap.size + 1 + 1 + 1] Ck Cl:=by rw[hW];exact (Gr.refl _ _).set.set.set
 have Cw:=hs.size
 have lk:=Blk.lt
 have hk:=hG.keep ⟨⟨_,Blk.ty,by decide⟩,True.intro⟩
 have Bz:Bx Cl (w.heap.size + 1 + 1 + 1) 53 #[.bool Df,.slice D6 Dc D8,.slice D0 D4 D2]:=by rw[hW];exact Blk.set3
 replace hs:=hs.trans (hG.d1 hs.size)
 replace B1:=hG.b1 B1
 replace B0:=hG.b1 B0
 replace Bd:=hG.b1 Bd
 replace Bl:=hG.b1 Bl
 replace Blk:=Bz
 clear Bz
 revert Di Co Cb Bg;refine ke hk ?_;intro Di Co Cb Bg
 clear hW hG hk Cw lk
 try simp only[LY]
 clear Bh Bi Bj B4 B5 B2 B3
 go_wp2
 refine Blk.k3 fun Bp Bq Br=>?_
 exact bodyPost_ret (v:=.agg #[.bool Df,.slice D6 Dc D8,.slice D0 D4 D2]) (by simp[results,Tryz.results56,go_sem,Bp,Bq,Br]) rfl ⟨_,rfl,Di.of_eq (by rw[Be.out,Bt.out];exact (ds_3 (show ¬ dtZ (mnZ q a) (mnZ b a)≤0 from by show ¬ (q.1 - a.1) * (b.1 - a.1) + (q.2 - a.2) * (b.2 - a.2)≤0;omega) (show ¬ dtZ (mnZ b a) (mnZ b a)≤dtZ (mnZ q a) (mnZ b a) from by rw[←(show C4=dtZ (mnZ b a) (mnZ b a) from Bk.out)];show ¬ C4≤(q.1 - a.1) * (b.1 - a.1) + (q.2 - a.2) * (b.2 - a.2);omega)).symm),hs⟩
theorem r2_meet (a b c d:Pt) (w:World) (ha:WP 1048576 a) (hb:WP 1048576 b) (hc:WP 1048576 c) (hd:WP 1048576 d):
  Calls Tryz.prog 50 #[.agg #[.int .i64 a.1,.int .i64 a.2],.agg #[.int .i64 b.1,.int .i64 b.2],.agg #[.int .i64 c.1,.int .i64 c.2],.agg #[.int .i64 d.1,.int .i64 d.2]] w (fj w (.bool (mtZ a b c d))):=by
 have hs:=Below.refl w.heap.size w
 go_enter Tryz.func50,Tryz.ntmps50
 go_wp2_with fail
 refine Calls.abs ?_
 intro w1 hW
 have hG:Gr [] w w1:=by rw[hW];exact (Gr.refl _ _).alloc.alloc.alloc.alloc
 have Cj:=hs.size
 have B1:Bx w1 (w.heap.size) 31 #[.int .i64 a.1,.int .i64 a.2]:=by rw[hW];exact ((((Bx.new0 _ _ _).alloc _).alloc _).alloc _)
 have B0:Bx w1 (w.heap.size + 1) 31 #[.int .i64 b.1,.int .i64 b.2]:=by rw[hW];exact (((Bx.new0 _ _ _).alloc _).alloc _)
 have Ba:Bx w1 (w.heap.size + 1 + 1) 31 #[.int .i64 c.1,.int .i64 c.2]:=by rw[hW];exact ((Bx.new0 _ _ _).alloc _)
 have Bc:Bx w1 (w.heap.size + 1 + 1 + 1) 31 #[.int .i64 d.1,.int .i64 d.2]:=by rw[hW];exact (Bx.new0 _ _ _)
 replace hs:=hs.trans (hG.below0 hs.size)
 clear hW hG
 have Ci:=Bc.lt
 with_reducible refine (r2_on a b c _ ha hb hc).mono ?_
 rintro e w2 ⟨rfl,hb⟩
 revert B1 B0 Ba Bc;refine mS hs hb ?_;clear hs hb;intro hs B1 B0 Ba Bc
 obtain⟨b1,Cs⟩:∃zz:Bool,zz=onZ a b c:=⟨_,rfl⟩
 rw[←Cs]
 replace Cs:=ae Cs
 by_cases q2:onZ a b c=true
 ·obtain rfl:b1=true:=by rw[Cs.out];exact q2
  have Bm:=ae q2
  clear q2
  go_wp2
  go_ret
  exact⟨by rw[show mtZ a b c d=true from by unfold mtZ;rw[show onZ a b c=true from Bm.out];simp];rfl,hs⟩
 obtain rfl:b1=false:=by rw[Cs.out];simpa using q2
 have Bm:=ae q2
 clear q2
 refine B1.k2l fun B4 B5 La=>?_
 refine B0.k2l fun B2 B3 Lb=>?_
 refine Bc.k2l fun B8 B9 Ld=>?_
 go_wp2_with fail
 clear B4 B5 B2 B3 B8 B9 La Lb Ld
 with_reducible refine (r2_on a b d _ ha hb hd).mono ?_
 rintro e w3 ⟨rfl,hb⟩
 revert Bc;revert Ba;revert B0;revert B1;refine mS hs hb ?_;clear hs hb;intro hs B1 B0 Ba Bc
 obtain⟨b3,Ct⟩:∃zz:Bool,zz=onZ a b d:=⟨_,rfl⟩
 rw[←Ct]
 replace Ct:=ae Ct
 by_cases q4:onZ a b d=true
 ·obtain rfl:b3=true:=by rw[Ct.out];exact q4
  have Cn:=ae q4
  clear q4
  go_wp2
  go_ret
  exact⟨by rw[show mtZ a b c d=true from by unfold mtZ;rw[show onZ a b c=false from Bool.eq_false_iff.2 Bm.out];rw[show onZ a b d=true from Cn.out];simp];rfl,hs⟩
 obtain rfl:b3=false:=by rw[Ct.out];simpa using q4
 have Cn:=ae q4
 clear q4
 refine Ba.k2l fun B6 B7 Lc=>?_
 refine Bc.k2l fun B8 B9 Ld=>?_
 refine B1.k2l fun B4 B5 La=>?_
 go_wp2_with fail
 clear B6 B7 B8 B9 B4 B5 Lc Ld La
 with_reducible refine (r2_on c d a _ hc hd ha).mono ?_
 rintro e w4 ⟨rfl,hb⟩
 revert Bc;revert Ba;revert B0;revert B1;refine mS hs hb ?_;clear hs hb;intro hs B1 B0 Ba Bc
 obtain⟨b5,Cu⟩:∃zz:Bool,zz=onZ c d a:=⟨_,rfl⟩
 rw[←Cu]
 replace Cu:=ae Cu
 by_cases q6:onZ c d a=true
 ·obtain rfl:b5=true:=by rw[Cu.out];exact q6
  have Cp:=ae q6
  clear q6
  go_wp2
  go_ret
  exact⟨by rw[show mtZ a b c d=true from by unfold mtZ;rw[show onZ a b c=false from Bool.eq_false_iff.2 Bm.out];rw[show onZ a b d=false from Bool.eq_false_iff.2 Cn.out];rw[show onZ c d a=true from Cp.out];simp];rfl,hs⟩
 obtain rfl:b5=false:=by rw[Cu.out];simpa using q6
 have Cp:=ae q6
 clear q6
 refine Ba.k2l fun B6 B7 Lc=>?_
 refine Bc.k2l fun B8 B9 Ld=>?_
 refine B0.k2l fun B2 B3 Lb=>?_
 go_wp2_with fail
 clear B6 B7 B8 B9 B2 B3 Lc Ld Lb
 with_reducible refine (r2_on c d b _ hc hd hb).mono ?_
 rintro e w5 ⟨rfl,hb⟩
 revert Bc;revert Ba;revert B0;revert B1;refine mS hs hb ?_;clear hs hb;intro hs B1 B0 Ba Bc
 obtain⟨b7,Cv⟩:∃zz:Bool,zz=onZ c d b:=⟨_,rfl⟩
 rw[←Cv]
 replace Cv:=ae Cv
 by_cases q8:onZ c d b=true
 ·obtain rfl:b7=true:=by rw[Cv.out];exact q8
  have Cx:=ae q8
  clear q8
  go_wp2
  go_ret
  exact⟨by rw[show mtZ a b c d=true from by unfold mtZ;rw[show onZ a b c=false from Bool.eq_false_iff.2 Bm.out];rw[show onZ a b d=false from Bool.eq_false_iff.2 Cn.out];rw[show onZ c d a=false from Bool.eq_false_iff.2 Cp.out];rw[show onZ c d b=true from Cx.out];simp];rfl,hs⟩
 obtain rfl:b7=false:=by rw[Cv.out];simpa using q8
 have Cx:=ae q8
 clear q8
 go_upto_region 3 with fail
 obtain⟨tn9,Cc⟩:∃s:Int,s=tnZ a b c:=⟨_,rfl⟩
 replace Cc:=ae Cc
 obtain⟨Bv,Bn⟩:∃s:Int,s=sgZ tn9:=⟨_,rfl⟩
 replace Bn:=ae Bn
 obtain⟨Bs,Be⟩:∃s:Int,s=tnZ a b d:=⟨_,rfl⟩
 replace Be:=ae Be
 obtain⟨Bw,Bo⟩:∃s:Int,s=sgZ Bs:=⟨_,rfl⟩
 replace Bo:=ae Bo
 have AX13:IntKind.i64.wrap (Bv * Bw)=Bv * Bw:=Wn.wmul (show Wn 1 Bv from by rw[Bn.out];exact sg_wn _) (show Wn 1 Bw from by rw[Bo.out];exact sg_wn _) (by decide)
 by_cases q14:Bv * Bw < 0
 ·have q14d:(Bv * Bw < 0)=True:=eq_true (by omega)
  obtain⟨Dk,Ce⟩:∃s:Int,s=tnZ c d a:=⟨_,rfl⟩
  replace Ce:=ae Ce
  obtain⟨C7,C9⟩:∃s:Int,s=sgZ Dk:=⟨_,rfl⟩
  replace C9:=ae C9
  obtain⟨Dl,Cf⟩:∃s:Int,s=tnZ c d b:=⟨_,rfl⟩
  replace Cf:=ae Cf
  obtain⟨C8,Ca⟩:∃s:Int,s=sgZ Dl:=⟨_,rfl⟩
  replace Ca:=ae Ca
  have AX19:IntKind.i64.wrap (C7 * C8)=C7 * C8:=Wn.wmul (show Wn 1 C7 from by rw[C9.out];exact sg_wn _) (show Wn 1 C8 from by rw[Ca.out];exact sg_wn _) (by decide)
  refine bw (S:=fun w'=>w'.cell? ⟨w.heap.size,0,none⟩=some (.int .i64 a.1)∧w'.cell? ⟨w.heap.size,1,none⟩=some (.int .i64 a.2)∧w'.cell? ⟨w.heap.size + 1,0,none⟩=some (.int .i64 b.1)∧w'.cell? ⟨w.heap.size + 1,1,none⟩=some (.int .i64 b.2)∧w'.cell? ⟨w.heap.size + 1 + 1,0,none⟩=some (.int .i64 c.1)∧w'.cell? ⟨w.heap.size + 1 + 1,1,none⟩=some (.int .i64 c.2)∧w'.cell? ⟨w.heap.size + 1 + 1 + 1,0,none⟩=some (.int .i64 d.1)∧w'.cell? ⟨w.heap.size + 1 + 1 + 1,1,none⟩=some (.int .i64 d.2)) (by kernel_rfl) 27 ?_
  refine cq.abs ?_
  intro w6 hW
  have hb:Below w5.heap.size w5 w6:=by rw[hW];exact de _
  replace hs:=ar hs hb
  revert Bc;revert Ba;revert B0;revert B1;refine mo hb ?_;intro B1 B0 Ba Bc
  clear hb hW
  refine B1.k2 fun B4 B5=>?_
  refine B0.k2 fun B2 B3=>?_
  refine Ba.k2 fun B6 B7=>?_
  refine Bc.k2 fun B8 B9=>?_
  have hH:=(show w6.cell? ⟨w.heap.size,0,none⟩=some (.int .i64 a.1)∧w6.cell? ⟨w.heap.size,1,none⟩=some (.int .i64 a.2)∧w6.cell? ⟨w.heap.size + 1,0,none⟩=some (.int .i64 b.1)∧w6.cell? ⟨w.heap.size + 1,1,none⟩=some (.int .i64 b.2)∧w6.cell? ⟨w.heap.size + 1 + 1,0,none⟩=some (.int .i64 c.1)∧w6.cell? ⟨w.heap.size + 1 + 1,1,none⟩=some (.int .i64 c.2)∧w6.cell? ⟨w.heap.size + 1 + 1 + 1,0,none⟩=some (.int .i64 d.1)∧w6.cell? ⟨w.heap.size + 1 + 1 + 1,1,none⟩=some (.int .i64 d.2) from ⟨B4,B5,B2,B3,B6,B7,B8,B9⟩)
  refine U_tq 0 31 hH ?_
  refine U_tq 1 32 hH ?_
  refine U_tq 2 33 hH ?_
  refine U_tq 5 36 hH ?_
  refine U_tq 6 37 hH ?_
  refine U_tq 7 38 hH ?_
  clear hH
  refine U_on 3 fun K hK=>?_
  go_simp
  (with_reducible refine (kn a b c _ ha hb hc).mono ?_)
  rintro e w7 ⟨rfl,hb⟩
  replace hs:=ar hs hb
  revert B1 B0 Ba Bc;refine mo hb ?_;intro B1 B0 Ba Bc
  replace B4:=ah B4 hb
  replace B5:=ah B5 hb
  replace B2:=ah B2 hb
  replace B3:=ah B3 hb
  replace B6:=ah B6 hb
  replace B7:=ah B7 hb
  replace B8:=ah B8 hb
  replace B9:=ah B9 hb
  clear hb
  rw[←Cc.out]
  try go_wp2_with fail
  refine hK.out _ _ ⟨B4,B5,B2,B3,B6,B7,B8,B9⟩ (fun hH=>?_)
  clear hK K
  try simp only[LY]
  clear hH
  refine U_on 4 fun K hK=>?_
  go_simp
  (with_reducible refine (ue tn9 _).mono ?_)
  rintro e w8 ⟨rfl,hb⟩
  replace hs:=ar hs hb
  revert B1 B0 Ba Bc;refine mo hb ?_;intro B1 B0 Ba Bc
  replace B4:=ah B4 hb
  replace B5:=ah B5 hb
  replace B2:=ah B2 hb
  replace B3:=ah B3 hb
  replace B6:=ah B6 hb
  replace B7:=ah B7 hb
  replace B8:=ah B8 hb
  replace B9:=ah B9 hb
  clear hb
  rw[←Bn.out]
  try go_wp2_with fail
  refine hK.out _ _ ⟨B4,B5,B2,B3,B6,B7,B8,B9⟩ (fun hH=>?_)
  clear hK K
  try simp only[LY]
  clear hH
  refine U_on 8 fun K hK=>?_
  go_simp
  (with_reducible refine (kn a b d _ ha hb hd).mono ?_)
  rintro e w9 ⟨rfl,hb⟩
  replace hs:=ar hs hb
  revert B1 B0 Ba Bc;refine mo hb ?_;intro B1 B0 Ba Bc
  replace B4:=ah B4 hb
  replace B5:=ah B5 hb
  replace B2:=ah B2 hb
  replace B3:=ah B3 hb
  replace B6:=ah B6 hb
  replace B7:=ah B7 hb
  replace B8:=ah B8 hb
  replace B9:=ah B9 hb
  clear hb
  rw[←Be.out]
  try go_wp2_with fail
  refine hK.out _ _ ⟨B4,B5,B2,B3,B6,B7,B8,B9⟩ (fun hH=>?_)
  clear hK K
  try simp only[LY]
  clear hH
  refine U_on 9 fun K hK=>?_
  go_simp
  (with_reducible refine (ue Bs _).mono ?_)
  rintro e Ck ⟨rfl,hb⟩
  replace hs:=ar hs hb
  revert B1 B0 Ba Bc;refine mo hb ?_;intro B1 B0 Ba Bc
  replace B4:=ah B4 hb
  replace B5:=ah B5 hb
  replace B2:=ah B2 hb
  replace B3:=ah B3 hb
  replace B6:=ah B6 hb
  replace B7:=ah B7 hb
  replace B8:=ah B8 hb
  replace B9:=ah B9 hb
  clear hb
  rw[←Bo.out]
  try go_wp2_with fail
  refine hK.out _ _ ⟨B4,B5,B2,B3,B6,B7,B8,B9⟩ (fun hH=>?_)
  clear hK K
  try simp only[LY]
  refine U_tq 10 41 hH ?_
  refine U_tq 11 42 hH ?_
  refine U_tq 12 43 hH ?_
  refine U_tq 13 44 hH ?_
  refine U_tq 14 45 hH ?_
  refine U_tq 15 46 hH ?_
  refine U_tq 18 49 hH ?_
  refine U_tq 19 50 hH ?_
  refine U_tq 20 51 hH ?_
  clear hH
  refine U_on 16 fun K hK=>?_
  go_simp
  (with_reducible refine (kn c d a _ hc hd ha).mono ?_)
  rintro e Cl ⟨rfl,hb⟩
  replace hs:=ar hs hb
  revert B1 B0 Ba Bc;refine mo hb ?_;intro B1 B0 Ba Bc
  replace B4:=ah B4 hb
  replace B5:=ah B5 hb
  replace B2:=ah B2 hb
  replace B3:=ah B3 hb
  replace B6:=ah B6 hb
  replace B7:=ah B7 hb
  replace B8:=ah B8 hb
  replace B9:=ah B9 hb
  clear hb
  rw[←Ce.out]
  try go_wp2_with fail
  refine hK.out _ _ ⟨B4,B5,B2,B3,B6,B7,B8,B9⟩ (fun hH=>?_)
  clear hK K
  try simp only[LY]
  clear hH
  refine U_on 17 fun K hK=>?_
  go_simp
  (with_reducible refine (ue Dk _).mono ?_)
  rintro e w12 ⟨rfl,hb⟩
  replace hs:=ar hs hb
  revert B1 B0 Ba Bc;refine mo hb ?_;intro B1 B0 Ba Bc
  replace B4:=ah B4 hb
  replace B5:=ah B5 hb
  replace B2:=ah B2 hb
  replace B3:=ah B3 hb
  replace B6:=ah B6 hb
  replace B7:=ah B7 hb
  replace B8:=ah B8 hb
  replace B9:=ah B9 hb
  clear hb
  rw[←C9.out]
  try go_wp2_with fail
  refine hK.out _ _ ⟨B4,B5,B2,B3,B6,B7,B8,B9⟩ (fun hH=>?_)
  clear hK K
  try simp only[LY]
  clear hH
  refine U_on 21 fun K hK=>?_
  go_simp
  (with_reducible refine (kn c d b _ hc hd hb).mono ?_)
  rintro e w13 ⟨rfl,hb⟩
  replace hs:=ar hs hb
  revert B1 B0 Ba Bc;refine mo hb ?_;intro B1 B0 Ba Bc
  replace B4:=ah B4 hb
  replace B5:=ah B5 hb
  replace B2:=ah B2 hb
  replace B3:=ah B3 hb
  replace B6:=ah B6 hb
  replace B7:=ah B7 hb
  replace B8:=ah B8 hb
  replace B9:=ah B9 hb
  clear hb
  rw[←Cf.out]
  try go_wp2_with fail
  refine hK.out _ _ ⟨B4,B5,B2,B3,B6,B7,B8,B9⟩ (fun hH=>?_)
  clear hK K
  try simp only[LY]
  clear hH
  refine U_on 22 fun K hK=>?_
  go_simp
  (with_reducible refine (ue Dl _).mono ?_)
  rintro e w14 ⟨rfl,hb⟩
  replace hs:=ar hs hb
  revert B1 B0 Ba Bc;refine mo hb ?_;intro B1 B0 Ba Bc
  replace B4:=ah B4 hb
  replace B5:=ah B5 hb
  replace B2:=ah B2 hb
  replace B3:=ah B3 hb
  replace B6:=ah B6 hb
  replace B7:=ah B7 hb
  replace B8:=ah B8 hb
  replace B9:=ah B9 hb
  clear hb
  rw[←Ca.out]
  try go_wp2_with fail
  refine hK.out _ _ ⟨B4,B5,B2,B3,B6,B7,B8,B9⟩ (fun hH=>?_)
  clear hK K
  try simp only[LY]
  refine U_tq 23 54 hH ?_
  refine U_tq 24 55 hH ?_
  refine U_tq 25 56 hH ?_
  refine U_tq 26 8 hH ?_
  clear hH
  refine im (by kernel_rfl) ?_
  clear B4 B5 B2 B3 B6 B7 B8 B9
  by_cases q20:C7 * C8 < 0
  ·have Dd:(C7 * C8 < 0)=True:=eq_true (by omega)
   try simp only[Dd]
   go_wp2
   go_ret
   exact⟨by rw[show mtZ a b c d=true from by unfold mtZ;rw[show onZ a b c=false from Bool.eq_false_iff.2 Bm.out];rw[show onZ a b d=false from Bool.eq_false_iff.2 Cn.out];rw[show onZ c d a=false from Bool.eq_false_iff.2 Cp.out];rw[show onZ c d b=false from Bool.eq_false_iff.2 Cx.out];rw[decide_eq_true (show (sgZ (tnZ a b c) * sgZ (tnZ a b d) < 0) from by have Cg:Bv=sgZ (tnZ a b c):=(Bn.out.trans (congrArg sgZ Cc.out));have Ch:Bw=sgZ (tnZ a b d):=(Bo.out.trans (congrArg sgZ Be.out));simp only[←Cg,←Ch];omega)];rw[decide_eq_true (show (sgZ (tnZ c d a) * sgZ (tnZ c d b) < 0) from by have Cq:C7=sgZ (tnZ c d a):=(C9.out.trans (congrArg sgZ Ce.out));have Cr:C8=sgZ (tnZ c d b):=(Ca.out.trans (congrArg sgZ Cf.out));simp only[←Cq,←Cr];omega)];simp];rfl,hs⟩
  have Dd:(C7 * C8 < 0)=False:=eq_false (by omega)
  try simp only[Dd]
  go_wp2
  go_ret
  exact⟨by rw[show mtZ a b c d=false from by unfold mtZ;rw[show onZ a b c=false from Bool.eq_false_iff.2 Bm.out];rw[show onZ a b d=false from Bool.eq_false_iff.2 Cn.out];rw[show onZ c d a=false from Bool.eq_false_iff.2 Cp.out];rw[show onZ c d b=false from Bool.eq_false_iff.2 Cx.out];rw[decide_eq_true (show (sgZ (tnZ a b c) * sgZ (tnZ a b d) < 0) from by have Cg:Bv=sgZ (tnZ a b c):=(Bn.out.trans (congrArg sgZ Cc.out));have Ch:Bw=sgZ (tnZ a b d):=(Bo.out.trans (congrArg sgZ Be.out));simp only[←Cg,←Ch];omega)];rw[decide_eq_false (show ¬ (sgZ (tnZ c d a) * sgZ (tnZ c d b) < 0) from by have Cq:C7=sgZ (tnZ c d a):=(C9.out.trans (congrArg sgZ Ce.out));have Cr:C8=sgZ (tnZ c d b):=(Ca.out.trans (congrArg sgZ Cf.out));simp only[←Cq,←Cr];omega)];simp];rfl,hs⟩
 have q14d:(Bv * Bw < 0)=False:=eq_false (by omega)
 refine bw (S:=fun w'=>w'.cell? ⟨w.heap.size,0,none⟩=some (.int .i64 a.1)∧w'.cell? ⟨w.heap.size,1,none⟩=some (.int .i64 a.2)∧w'.cell? ⟨w.heap.size + 1,0,none⟩=some (.int .i64 b.1)∧w'.cell? ⟨w.heap.size + 1,1,none⟩=some (.int .i64 b.2)∧w'.cell? ⟨w.heap.size + 1 + 1,0,none⟩=some (.int .i64 c.1)∧w'.cell? ⟨w.heap.size + 1 + 1,1,none⟩=some (.int .i64 c.2)∧w'.cell? ⟨w.heap.size + 1 + 1 + 1,0,none⟩=some (.int .i64 d.1)∧w'.cell? ⟨w.heap.size + 1 + 1 + 1,1,none⟩=some (.int .i64 d.2)) (by kernel_rfl) 27 ?_
 refine cq.abs ?_
 intro w6 hW
 have hb:Below w5.heap.size w5 w6:=by rw[hW];exact de _
 replace hs:=ar hs hb
 revert Bc;revert Ba;revert B0;revert B1;refine mo hb ?_;intro B1 B0 Ba Bc
 clear hb hW
 refine B1.k2 fun B4 B5=>?_
 refine B0.k2 fun B2 B3=>?_
 refine Ba.k2 fun B6 B7=>?_
 refine Bc.k2 fun B8 B9=>?_
 have hH:=(show w6.cell? ⟨w.heap.size,0,none⟩=some (.int .i64 a.1)∧w6.cell? ⟨w.heap.size,1,none⟩=some (.int .i64 a.2)∧w6.cell? ⟨w.heap.size + 1,0,none⟩=some (.int .i64 b.1)∧w6.cell? ⟨w.heap.size + 1,1,none⟩=some (.int .i64 b.2)∧w6.cell? ⟨w.heap.size + 1 + 1,0,none⟩=some (.int .i64 c.1)∧w6.cell? ⟨w.heap.size + 1 + 1,1,none⟩=some (.int .i64 c.2)∧w6.cell? ⟨w.heap.size + 1 + 1 + 1,0,none⟩=some (.int .i64 d.1)∧w6.cell? ⟨w.heap.size + 1 + 1 + 1,1,none⟩=some (.int .i64 d.2) from ⟨B4,B5,B2,B3,B6,B7,B8,B9⟩)
 refine U_tq 0 31 hH ?_
 refine U_tq 1 32 hH ?_
 refine U_tq 2 33 hH ?_
 refine U_tq 5 36 hH ?_
 refine U_tq 6 37 hH ?_
 refine U_tq 7 38 hH ?_
 clear hH
 refine U_on 3 fun K hK=>?_
 go_simp
 (with_reducible refine (kn a b c _ ha hb hc).mono ?_)
 rintro e w7 ⟨rfl,hb⟩
 replace hs:=ar hs hb
 revert B1 B0 Ba Bc;refine mo hb ?_;intro B1 B0 Ba Bc
 replace B4:=ah B4 hb
 replace B5:=ah B5 hb
 replace B2:=ah B2 hb
 replace B3:=ah B3 hb
 replace B6:=ah B6 hb
 replace B7:=ah B7 hb
 replace B8:=ah B8 hb
 replace B9:=ah B9 hb
 clear hb
 rw[←Cc.out]
 try go_wp2_with fail
 refine hK.out _ _ ⟨B4,B5,B2,B3,B6,B7,B8,B9⟩ (fun hH=>?_)
 clear hK K
 try simp only[LY]
 clear hH
 refine U_on 4 fun K hK=>?_
 go_simp
 (with_reducible refine (ue tn9 _).mono ?_)
 rintro e w8 ⟨rfl,hb⟩
 replace hs:=ar hs hb
 revert B1 B0 Ba Bc;refine mo hb ?_;intro B1 B0 Ba Bc
 replace B4:=ah B4 hb
 replace B5:=ah B5 hb
 replace B2:=ah B2 hb
 replace B3:=ah B3 hb
 replace B6:=ah B6 hb
 replace B7:=ah B7 hb
 replace B8:=ah B8 hb
 replace B9:=ah B9 hb
 clear hb
 rw[←Bn.out]
 try go_wp2_with fail
 refine hK.out _ _ ⟨B4,B5,B2,B3,B6,B7,B8,B9⟩ (fun hH=>?_)
 clear hK K
 try simp only[LY]
 clear hH
 refine U_on 8 fun K hK=>?_
 go_simp
 (with_reducible refine (kn a b d _ ha hb hd).mono ?_)
 rintro e w9 ⟨rfl,hb⟩
 replace hs:=ar hs hb
 revert B1 B0 Ba Bc;refine mo hb ?_;intro B1 B0 Ba Bc
 replace B4:=ah B4 hb
 replace B5:=ah B5 hb
 replace B2:=ah B2 hb
 replace B3:=ah B3 hb
 replace B6:=ah B6 hb
 replace B7:=ah B7 hb
 replace B8:=ah B8 hb
 replace B9:=ah B9 hb
 clear hb
 rw[←Be.out]
 try go_wp2_with fail
 refine hK.out _ _ ⟨B4,B5,B2,B3,B6,B7,B8,B9⟩ (fun hH=>?_)
 clear hK K
 try simp only[LY]
 clear hH
 refine U_on 9 fun K hK=>?_
 go_simp
 (with_reducible refine (ue Bs _).mono ?_)
 rintro e Ck ⟨rfl,hb⟩
 replace hs:=ar hs hb
 revert B1 B0 Ba Bc;refine mo hb ?_;intro B1 B0 Ba Bc
 replace B4:=ah B4 hb
 replace B5:=ah B5 hb
 replace B2:=ah B2 hb
 replace B3:=ah B3 hb
 replace B6:=ah B6 hb
 replace B7:=ah B7 hb
 replace B8:=ah B8 hb
 replace B9:=ah B9 hb
 clear hb
 rw[←Bo.out]
 try go_wp2_with fail
 refine hK.out _ _ ⟨B4,B5,B2,B3,B6,B7,B8,B9⟩ (fun hH=>?_)
 clear hK K
 try simp only[LY]
 refine U_tq 10 41 hH ?_
 refine U_tq 11 42 hH ?_
 refine U_tq 12 43 hH ?_
 refine ff 13 44 hH ?_
 simp only[LY]
 refine ff 14 45 hH ?_
 simp only[LY]
 refine ff 15 46 hH ?_
 simp only[LY]
 refine ff 18 49 hH ?_
 simp only[LY]
 refine ff 19 50 hH ?_
 simp only[LY]
 refine ff 20 51 hH ?_
 simp only[LY]
 clear hH
 refine U_on 16 fun K hK=>?_
 go_simp
 refine hK.out _ _ ⟨B4,B5,B2,B3,B6,B7,B8,B9⟩ (fun hH=>?_)
 clear hK K
 try simp only[LY]
 clear hH
 refine U_on 17 fun K hK=>?_
 go_simp
 refine hK.out _ _ ⟨B4,B5,B2,B3,B6,B7,B8,B9⟩ (fun hH=>?_)
 clear hK K
 try simp only[LY]
 clear hH
 refine U_on 21 fun K hK=>?_
 go_simp
 refine hK.out _ _ ⟨B4,B5,B2,B3,B6,B7,B8,B9⟩ (fun hH=>?_)
 clear hK K
 try simp only[LY]
 clear hH
 refine U_on 22 fun K hK=>?_
 go_simp
 refine hK.out _ _ ⟨B4,B5,B2,B3,B6,B7,B8,B9⟩ (fun hH=>?_)
 clear hK K
 try simp only[LY]
 refine ff 23 54 hH ?_
 simp only[LY]
 refine ff 24 55 hH ?_
 simp only[LY]
 refine U_tq 25 56 hH ?_
 refine U_tq 26 8 hH ?_
 clear hH
 refine im (by kernel_rfl) ?_
 clear B4 B5 B2 B3 B6 B7 B8 B9
 go_wp2
 go_ret
 exact⟨by rw[show mtZ a b c d=false from by unfold mtZ;rw[show onZ a b c=false from Bool.eq_false_iff.2 Bm.out];rw[show onZ a b d=false from Bool.eq_false_iff.2 Cn.out];rw[show onZ c d a=false from Bool.eq_false_iff.2 Cp.out];rw[show onZ c d b=false from Bool.eq_false_iff.2 Cx.out];rw[decide_eq_false (show ¬ (sgZ (tnZ a b c) * sgZ (tnZ a b d) < 0) from by have Cg:Bv=sgZ (tnZ a b c):=(Bn.out.trans (congrArg sgZ Cc.out));have Ch:Bw=sgZ (tnZ a b d):=(Bo.out.trans (congrArg sgZ Be.out));simp only[←Cg,←Ch];omega)];simp];rfl,hs⟩
end Go.Proofs.YtbnomdlojmgigaaGreat
