/-
  plane: vectors, products, comparisons: the contracts of small functions.
-/
import Derived.Test.YtidmjdmmpajooaaGreatPkV2N
import Derived.Test.YtidmjdmmpajooaaGreatPkV3N
import Derived.Test.YtidmjdmmpajooaaGreatPkV12N
set_option linter.unusedSimpArgs false
set_option linter.unusedVariables false
set_option maxRecDepth 100000
set_option maxHeartbeats 4000000
namespace Go.Proofs.YtidmjdmmpajooaaGreat
open Go.RowKit Dg
attribute [local go_sem ↓] Go.wp_at_zero Go.wp_at_succ
def cmZ (a b:Int):Int:=if a < b then -1 else if b < a then 1 else 0
theorem cm_nan (a:Int) (w:World):Calls Tryz.prog 119 #[.int .i64 a] w (fj w (.bool false)):=by
 have hs:=Below.refl w.heap.size w
 have hb:(a != a)=false:=bne_self_eq_false _
 go_enter Tryz.func119,Tryz.ntmps119
 go_wp2
 go_ret
 exact⟨rfl,hs⟩
theorem cm_Compare (a b:Int) (w:World):Calls Tryz.prog 87 #[.int .i64 a,.int .i64 b] w (fj w (.int .i64 (cmZ a b))):=by
 have hs:=Below.refl w.heap.size w
 go_enter Tryz.func87,Tryz.ntmps87
 go_wp2_with fail
 refine (cm_nan _ _).mono ?_
 rintro e w1 ⟨rfl,hb⟩
 replace hs:=ar hs hb
 clear hb
 go_wp2_with fail
 refine (cm_nan _ _).mono ?_
 rintro e w2 ⟨rfl,hb⟩
 replace hs:=ar hs hb
 clear hb
 by_cases h1:a < b
 ·have e1:(a < b)=True:=eq_true h1
  have hr:=ae (show cmZ a b= -1 by unfold cmZ;rw[if_pos h1])
  go_wp2
  go_ret
  exact⟨by rw[hr.out];rfl,hs⟩
 have e1:(a < b)=False:=eq_false h1
 by_cases h2:b < a
 ·have e2:(b < a)=True:=eq_true h2
  have hr:=ae (show cmZ a b=1 by unfold cmZ;rw[if_neg h1,if_pos h2])
  go_wp2
  go_ret
  exact⟨by rw[hr.out];rfl,hs⟩
 have e2:(b < a)=False:=eq_false h2
 have hr:=ae (show cmZ a b=0 by unfold cmZ;rw[if_neg h1,if_neg h2])
 go_wp2
 go_ret
 exact⟨by rw[hr.out];rfl,hs⟩
theorem sd_wn (a b c:Pt):Wn 1 (sdZ a b c):=by unfold sdZ sgZ Wn;split<;>(try split)<;>omega
theorem di (a1 a2 b1 b2:Int) (w:World) (h1:IntKind.i64.wrap (a1 - b1)=a1 - b1) (h2:IntKind.i64.wrap (a2 - b2)=a2 - b2):
  Calls Tryz.prog 38 #[.agg #[.int .i64 a1,.int .i64 a2],.agg #[.int .i64 b1,.int .i64 b2]] w (fj w (.agg #[.int .i64 (a1 - b1),.int .i64 (a2 - b2)])):=by
 have hs:=Below.refl w.heap.size w
 go_enter Tryz.func38,Tryz.ntmps38
 go_wp2
 refine bodyPost.abs ?_
 intro w1 hW
 have hG:Gr [] w w1:=by rw[hW];exact (Gr.refl _ _).alloc.alloc.alloc
 have C2:=hs.size
 have Bh:Bx w1 (w.heap.size) 24 #[.int .i64 a1,.int .i64 a2]:=by rw[hW];exact (((Bx.new0 _ _ _).alloc _).alloc _)
 have Bf:Bx w1 (w.heap.size + 1) 24 #[.int .i64 b1,.int .i64 b2]:=by rw[hW];exact ((Bx.new0 _ _ _).alloc _)
 have Blk:Bx w1 (w.heap.size + 1 + 1) 24 #[.int .i64 (a1 - b1),.int .i64 (a2 - b2)]:=by rw[hW];exact (Bx.new0 _ _ _)
 replace hs:=hs.trans (hG.below0 hs.size)
 clear hW hG
 have C1:=Blk.lt
 refine Blk.k2 fun Cg Ch=>?_
 exact bodyPost_ret (v:=.agg #[.int .i64 (a1 - b1),.int .i64 (a2 - b2)]) (by simp[results,Tryz.results38,go_sem,Cg,Ch]) rfl ⟨rfl,hs⟩
theorem pg (a1 a2 b1 b2:Int) (w:World) (h1:IntKind.i64.wrap (a1 * b2)=a1 * b2) (h2:IntKind.i64.wrap (a2 * b1)=a2 * b1) (h3:IntKind.i64.wrap (a1 * b2 - a2 * b1)=a1 * b2 - a2 * b1):
  Calls Tryz.prog 39 #[.agg #[.int .i64 a1,.int .i64 a2],.agg #[.int .i64 b1,.int .i64 b2]] w (fj w (.int .i64 (a1 * b2 - a2 * b1))):=by
 have hs:=Below.refl w.heap.size w
 go_enter Tryz.func39,Tryz.ntmps39
 go_wp2
 refine bodyPost.abs ?_
 intro w1 hW
 have hG:Gr [] w w1:=by rw[hW];exact (Gr.refl _ _).alloc.alloc
 have C2:=hs.size
 have Bh:Bx w1 (w.heap.size) 24 #[.int .i64 a1,.int .i64 a2]:=by rw[hW];exact ((Bx.new0 _ _ _).alloc _)
 have Bf:Bx w1 (w.heap.size + 1) 24 #[.int .i64 b1,.int .i64 b2]:=by rw[hW];exact (Bx.new0 _ _ _)
 replace hs:=hs.trans (hG.below0 hs.size)
 clear hW hG
 have C1:=Bf.lt
 go_ret
 exact⟨rfl,hs⟩
theorem pl_dot (a1 a2 b1 b2:Int) (w:World) (h1:IntKind.i64.wrap (a1 * b1)=a1 * b1) (h2:IntKind.i64.wrap (a2 * b2)=a2 * b2) (h3:IntKind.i64.wrap (a1 * b1 + a2 * b2)=a1 * b1 + a2 * b2):
  Calls Tryz.prog 40 #[.agg #[.int .i64 a1,.int .i64 a2],.agg #[.int .i64 b1,.int .i64 b2]] w (fj w (.int .i64 (a1 * b1 + a2 * b2))):=by
 have hs:=Below.refl w.heap.size w
 go_enter Tryz.func40,Tryz.ntmps40
 go_wp2
 refine bodyPost.abs ?_
 intro w1 hW
 have hG:Gr [] w w1:=by rw[hW];exact (Gr.refl _ _).alloc.alloc
 have C2:=hs.size
 have Bh:Bx w1 (w.heap.size) 24 #[.int .i64 a1,.int .i64 a2]:=by rw[hW];exact ((Bx.new0 _ _ _).alloc _)
 have Bf:Bx w1 (w.heap.size + 1) 24 #[.int .i64 b1,.int .i64 b2]:=by rw[hW];exact (Bx.new0 _ _ _)
 replace hs:=hs.trans (hG.below0 hs.size)
 clear hW hG
 have C1:=Bf.lt
 go_ret
 exact⟨rfl,hs⟩
theorem mc (a b c:Pt) (w:World) (ha:WP 268435456 a) (hb:WP 268435456 b) (hc:WP 268435456 c):
  Calls Tryz.prog 67 #[.agg #[.int .i64 a.1,.int .i64 a.2],.agg #[.int .i64 b.1,.int .i64 b.2],.agg #[.int .i64 c.1,.int .i64 c.2]] w (fj w (.int .i64 (sdZ a b c))):=by
 have hs:=Below.refl w.heap.size w
 go_enter Tryz.func67,Tryz.ntmps67
 go_upto_region 1 with fail
 refine Code.abs ?_
 intro w1 hW
 have hG:Gr [] w w1:=by rw[hW];exact (Gr.refl _ _).alloc.alloc.alloc
 have C2:=hs.size
 have Bh:Bx w1 (w.heap.size) 24 #[.int .i64 a.1,.int .i64 a.2]:=by rw[hW];exact (((Bx.new0 _ _ _).alloc _).alloc _)
 have Bf:Bx w1 (w.heap.size + 1) 24 #[.int .i64 b.1,.int .i64 b.2]:=by rw[hW];exact ((Bx.new0 _ _ _).alloc _)
 have Bs:Bx w1 (w.heap.size + 1 + 1) 24 #[.int .i64 c.1,.int .i64 c.2]:=by rw[hW];exact (Bx.new0 _ _ _)
 replace hs:=hs.trans (hG.below0 hs.size)
 clear hW hG
 have C1:=Bs.lt
 have hb:=de w1
 revert Bh Bf Bs;refine mS hs hb ?_;clear hs hb;intro hs Bh Bf Bs
 refine Bf.k2 fun Bk Bl=>?_
 refine Bh.k2 fun Bi Bj=>?_
 refine Bs.k2 fun Bm Bn=>?_
 go_region_held3 (fun w'=>w'.cell? ⟨w.heap.size + 1,0,none⟩=some (.int .i64 b.1)∧w'.cell? ⟨w.heap.size + 1,1,none⟩=some (.int .i64 b.2)∧w'.cell? ⟨w.heap.size,0,none⟩=some (.int .i64 a.1)∧w'.cell? ⟨w.heap.size,1,none⟩=some (.int .i64 a.2)∧w'.cell? ⟨w.heap.size + 1 + 1,0,none⟩=some (.int .i64 c.1)∧w'.cell? ⟨w.heap.size + 1 + 1,1,none⟩=some (.int .i64 c.2))
  (first|exact⟨Bk,Bl,Bi,Bj,Bm,Bn⟩|exact⟨dh Bk _,dh Bl _,dh Bi _,dh Bj _,dh Bm _,dh Bn _⟩|go_keep)
  (first
   | (go_at_call 38;(with_reducible refine (di b.1 b.2 a.1 a.2 _ (Wn.wsub hb.1 ha.1 (by decide)) (Wn.wsub hb.2 ha.2 (by decide))).mono ?_);rintro e w2 ⟨rfl,hb⟩;replace hs:=ar hs hb;replace Bh:=Bh.mono hb;replace Bf:=Bf.mono hb;replace Bs:=Bs.mono hb;replace Bk:=ah Bk hb;replace Bl:=ah Bl hb;replace Bi:=ah Bi hb;replace Bj:=ah Bj hb;replace Bm:=ah Bm hb;replace Bn:=ah Bn hb;clear hb)
   | (go_at_call 38;(with_reducible refine (di c.1 c.2 a.1 a.2 _ (Wn.wsub hc.1 ha.1 (by decide)) (Wn.wsub hc.2 ha.2 (by decide))).mono ?_);rintro e w3 ⟨rfl,hb⟩;replace hs:=ar hs hb;replace Bh:=Bh.mono hb;replace Bf:=Bf.mono hb;replace Bs:=Bs.mono hb;replace Bk:=ah Bk hb;replace Bl:=ah Bl hb;replace Bi:=ah Bi hb;replace Bj:=ah Bj hb;replace Bm:=ah Bm hb;replace Bn:=ah Bn hb;clear hb)
   | (go_at_call 39;(with_reducible refine (pg (b.1 - a.1) (b.2 - a.2) (c.1 - a.1) (c.2 - a.2) _ (Wn.wmul (Wn.sub hb.1 ha.1) (Wn.sub hc.2 ha.2) (by decide)) (Wn.wmul (Wn.sub hb.2 ha.2) (Wn.sub hc.1 ha.1) (by decide)) (Wn.wsub (Wn.mul (Wn.sub hb.1 ha.1) (Wn.sub hc.2 ha.2)) (Wn.mul (Wn.sub hb.2 ha.2) (Wn.sub hc.1 ha.1)) (by decide))).mono ?_);rintro e w4 ⟨rfl,hb⟩;replace hs:=ar hs hb;replace Bh:=Bh.mono hb;replace Bf:=Bf.mono hb;replace Bs:=Bs.mono hb;replace Bk:=ah Bk hb;replace Bl:=ah Bl hb;replace Bi:=ah Bi hb;replace Bj:=ah Bj hb;replace Bm:=ah Bm hb;replace Bn:=ah Bn hb;clear hb)
   | (go_at_call 87;(with_reducible refine (cm_Compare ((b.1 - a.1) * (c.2 - a.2) - (b.2 - a.2) * (c.1 - a.1)) 0 _).mono ?_);rintro e w5 ⟨rfl,hb⟩;replace hs:=ar hs hb;replace Bh:=Bh.mono hb;replace Bf:=Bf.mono hb;replace Bs:=Bs.mono hb;replace Bk:=ah Bk hb;replace Bl:=ah Bl hb;replace Bi:=ah Bi hb;replace Bj:=ah Bj hb;replace Bm:=ah Bm hb;replace Bn:=ah Bn hb;clear hb))
 clear Bk Bl Bi Bj Bm Bn
 go_wp2
 go_ret
 exact⟨rfl,hs⟩
theorem hs_ff {a b q:Pt} (h:¬ sdZ a b q=0):hsZ a b q=false:=by unfold hsZ;rw[decide_eq_false h];rfl
theorem hs_tt {a b q:Pt} (h:sdZ a b q=0):hsZ a b q=decide (dtZ (mnZ a q) (mnZ b q)≤0):=by unfold hsZ;rw[decide_eq_true h];rfl
theorem ed_has (a b q:Pt) (w:World) (ha:WP 268435456 a) (hb:WP 268435456 b) (hq:WP 268435456 q):
  Calls Tryz.prog 66 #[.agg #[.int .i64 a.1,.int .i64 a.2,.int .i64 b.1,.int .i64 b.2],.agg #[.int .i64 q.1,.int .i64 q.2]] w (fj w (.bool (hsZ a b q))):=by
 have hs:=Below.refl w.heap.size w
 go_enter Tryz.func66,Tryz.ntmps66
 go_upto_region 1 with fail
 refine Code.abs ?_
 intro w1 hW
 have hG:Gr [] w w1:=by rw[hW];exact (Gr.refl _ _).alloc.alloc
 have C2:=hs.size
 have B0:Bx w1 (w.heap.size) 69 #[.int .i64 a.1,.int .i64 a.2,.int .i64 b.1,.int .i64 b.2]:=by rw[hW];exact ((Bx.new0 _ _ _).alloc _)
 have Be:Bx w1 (w.heap.size + 1) 24 #[.int .i64 q.1,.int .i64 q.2]:=by rw[hW];exact (Bx.new0 _ _ _)
 replace hs:=hs.trans (hG.below0 hs.size)
 clear hW hG
 have C1:=Be.lt
 obtain⟨C6,Bw⟩:∃s:Int,s=sdZ a b q:=⟨_,rfl⟩
 have Wsg1:Wn 1 C6:=by rw[Bw];exact sd_wn _ _ _
 replace Bw:=ae Bw
 by_cases q2:C6=0
 ·have q2b:(C6 == 0)=true:=beq_iff_eq.2 (by omega)
  have q2n:(C6 != 0)=false:=bne_eq_false_iff_eq.2 (by omega)
  have Bo:=ae q2
  clear q2
  obtain⟨C9,C5⟩:∃s:Int,s=(a.1 - q.1) * (b.1 - q.1) + (a.2 - q.2) * (b.2 - q.2):=⟨_,rfl⟩
  replace C5:=ae C5
  have hb:=de w1
  revert B0 Be;refine mS hs hb ?_;clear hs hb;intro hs B0 Be
  refine B0.k4 fun B1 B2 B3 B4=>?_
  refine Be.k2 fun Bb Bc=>?_
  go_region_held3 (fun w'=>w'.cell? ⟨w.heap.size,0,none⟩=some (.int .i64 a.1)∧w'.cell? ⟨w.heap.size,1,none⟩=some (.int .i64 a.2)∧w'.cell? ⟨w.heap.size,2,none⟩=some (.int .i64 b.1)∧w'.cell? ⟨w.heap.size,3,none⟩=some (.int .i64 b.2)∧w'.cell? ⟨w.heap.size + 1,0,none⟩=some (.int .i64 q.1)∧w'.cell? ⟨w.heap.size + 1,1,none⟩=some (.int .i64 q.2))
   (first|exact⟨B1,B2,B3,B4,Bb,Bc⟩|exact⟨dh B1 _,dh B2 _,dh B3 _,dh B4 _,dh Bb _,dh Bc _⟩|go_keep)
   (first
    | (go_at_call 67;(with_reducible refine (mc a b q _ ⟨ha.1.mono (by decide),ha.2.mono (by decide)⟩ ⟨hb.1.mono (by decide),hb.2.mono (by decide)⟩ ⟨hq.1.mono (by decide),hq.2.mono (by decide)⟩).mono ?_);rintro e w2 ⟨rfl,hb⟩;replace hs:=ar hs hb;replace B0:=B0.mono hb;replace Be:=Be.mono hb;replace B1:=ah B1 hb;replace B2:=ah B2 hb;replace B3:=ah B3 hb;replace B4:=ah B4 hb;replace Bb:=ah Bb hb;replace Bc:=ah Bc hb;clear hb;rw[←Bw.out])
    | (go_at_call 38;(with_reducible refine (di a.1 a.2 q.1 q.2 _ (Wn.wsub ha.1 hq.1 (by decide)) (Wn.wsub ha.2 hq.2 (by decide))).mono ?_);rintro e w3 ⟨rfl,hb⟩;replace hs:=ar hs hb;replace B0:=B0.mono hb;replace Be:=Be.mono hb;replace B1:=ah B1 hb;replace B2:=ah B2 hb;replace B3:=ah B3 hb;replace B4:=ah B4 hb;replace Bb:=ah Bb hb;replace Bc:=ah Bc hb;clear hb)
    | (go_at_call 38;(with_reducible refine (di b.1 b.2 q.1 q.2 _ (Wn.wsub hb.1 hq.1 (by decide)) (Wn.wsub hb.2 hq.2 (by decide))).mono ?_);rintro e w4 ⟨rfl,hb⟩;replace hs:=ar hs hb;replace B0:=B0.mono hb;replace Be:=Be.mono hb;replace B1:=ah B1 hb;replace B2:=ah B2 hb;replace B3:=ah B3 hb;replace B4:=ah B4 hb;replace Bb:=ah Bb hb;replace Bc:=ah Bc hb;clear hb)
    | (go_at_call 40;(with_reducible refine (pl_dot (a.1 - q.1) (a.2 - q.2) (b.1 - q.1) (b.2 - q.2) _ (Wn.wmul (Wn.sub ha.1 hq.1) (Wn.sub hb.1 hq.1) (by decide)) (Wn.wmul (Wn.sub ha.2 hq.2) (Wn.sub hb.2 hq.2) (by decide)) (Wn.wadd (Wn.mul (Wn.sub ha.1 hq.1) (Wn.sub hb.1 hq.1)) (Wn.mul (Wn.sub ha.2 hq.2) (Wn.sub hb.2 hq.2)) (by decide))).mono ?_);rintro e w5 ⟨rfl,hb⟩;replace hs:=ar hs hb;replace B0:=B0.mono hb;replace Be:=Be.mono hb;replace B1:=ah B1 hb;replace B2:=ah B2 hb;replace B3:=ah B3 hb;replace B4:=ah B4 hb;replace Bb:=ah Bb hb;replace Bc:=ah Bc hb;clear hb;rw[←C5.out]))
  clear B1 B2 B3 B4 Bb Bc
  by_cases q4:C9≤0
  ·have q4d:(C9≤0)=True:=eq_true (by omega)
   try simp only[q4d]
   go_wp2
   go_ret
   exact⟨(by rw[show hsZ a b q=true from by rw[hs_tt (by rw[←Bw.out];exact Bo.out)];exact decide_eq_true (show (dtZ (mnZ a q) (mnZ b q)≤0) from by rw[show dtZ (mnZ a q) (mnZ b q)=C9 from C5.out.symm];omega)];rfl),hs⟩
  have q4d:(C9≤0)=False:=eq_false (by omega)
  try simp only[q4d]
  go_wp2
  go_ret
  exact⟨(by rw[show hsZ a b q=false from by rw[hs_tt (by rw[←Bw.out];exact Bo.out)];exact decide_eq_false (show ¬ (dtZ (mnZ a q) (mnZ b q)≤0) from by rw[show dtZ (mnZ a q) (mnZ b q)=C9 from C5.out.symm];omega)];rfl),hs⟩
 have q2b:(C6 == 0)=false:=beq_eq_false_iff_ne.2 (by omega)
 have q2n:(C6 != 0)=true:=bne_iff_ne.2 (by omega)
 have Bo:=ae q2
 clear q2
 refine bw (S:=fun w'=>w'.cell? ⟨w.heap.size,0,none⟩=some (.int .i64 a.1)∧w'.cell? ⟨w.heap.size,1,none⟩=some (.int .i64 a.2)∧w'.cell? ⟨w.heap.size,2,none⟩=some (.int .i64 b.1)∧w'.cell? ⟨w.heap.size,3,none⟩=some (.int .i64 b.2)∧w'.cell? ⟨w.heap.size + 1,0,none⟩=some (.int .i64 q.1)∧w'.cell? ⟨w.heap.size + 1,1,none⟩=some (.int .i64 q.2)) (by kernel_rfl) 20 ?_
 refine cq.abs ?_
 intro w2 hW
 have hb:Below w1.heap.size w1 w2:=by rw[hW];exact de _
 replace hs:=ar hs hb
 revert B0 Be;refine mo hb ?_;intro B0 Be
 clear hb hW
 refine B0.k4 fun B1 B2 B3 B4=>?_
 refine Be.k2 fun Bb Bc=>?_
 have hH:=(show w2.cell? ⟨w.heap.size,0,none⟩=some (.int .i64 a.1)∧w2.cell? ⟨w.heap.size,1,none⟩=some (.int .i64 a.2)∧w2.cell? ⟨w.heap.size,2,none⟩=some (.int .i64 b.1)∧w2.cell? ⟨w.heap.size,3,none⟩=some (.int .i64 b.2)∧w2.cell? ⟨w.heap.size + 1,0,none⟩=some (.int .i64 q.1)∧w2.cell? ⟨w.heap.size + 1,1,none⟩=some (.int .i64 q.2) from ⟨B1,B2,B3,B4,Bb,Bc⟩)
 refine U_tq 0 5 hH ?_
 refine U_tq 1 6 hH ?_
 refine U_tq 2 7 hH ?_
 refine U_tq 3 8 hH ?_
 refine U_tq 4 9 hH ?_
 clear hH
 refine U_on 5 fun K hK=>?_
 go_simp
 (with_reducible refine (mc a b q _ ⟨ha.1.mono (by decide),ha.2.mono (by decide)⟩ ⟨hb.1.mono (by decide),hb.2.mono (by decide)⟩ ⟨hq.1.mono (by decide),hq.2.mono (by decide)⟩).mono ?_)
 rintro e w3 ⟨rfl,hb⟩
 replace hs:=ar hs hb
 revert B0 Be;refine mo hb ?_;intro B0 Be
 replace B1:=ah B1 hb
 replace B2:=ah B2 hb
 replace B3:=ah B3 hb
 replace B4:=ah B4 hb
 replace Bb:=ah Bb hb
 replace Bc:=ah Bc hb
 clear hb
 rw[←Bw.out]
 try go_wp2_with fail
 refine hK.out _ _ ⟨B1,B2,B3,B4,Bb,Bc⟩ (fun hH=>?_)
 clear hK K
 try simp only[LY]
 refine U_tq 6 11 hH ?_
 refine U_tq 7 12 hH ?_
 refine ff 8 13 hH ?_
 simp only[LY]
 refine ff 9 14 hH ?_
 simp only[LY]
 refine ff 10 15 hH ?_
 simp only[LY]
 refine ff 12 17 hH ?_
 simp only[LY]
 refine ff 13 18 hH ?_
 simp only[LY]
 refine ff 14 19 hH ?_
 simp only[LY]
 clear hH
 refine U_on 11 fun K hK=>?_
 go_simp
 refine hK.out _ _ ⟨B1,B2,B3,B4,Bb,Bc⟩ (fun hH=>?_)
 clear hK K
 try simp only[LY]
 clear hH
 refine U_on 15 fun K hK=>?_
 go_simp
 refine hK.out _ _ ⟨B1,B2,B3,B4,Bb,Bc⟩ (fun hH=>?_)
 clear hK K
 try simp only[LY]
 clear hH
 refine U_on 16 fun K hK=>?_
 go_simp
 refine hK.out _ _ ⟨B1,B2,B3,B4,Bb,Bc⟩ (fun hH=>?_)
 clear hK K
 try simp only[LY]
 refine ff 17 22 hH ?_
 simp only[LY]
 refine U_tq 18 23 hH ?_
 refine U_tq 19 4 hH ?_
 clear hH
 refine im (by kernel_rfl) ?_
 clear B1 B2 B3 B4 Bb Bc
 go_wp2
 go_ret
 exact⟨(by rw[show hsZ a b q=false from hs_ff (by rw[←Bw.out];exact Bo.out)];rfl),hs⟩
theorem me_no {a b c d:Pt} (h1:hsZ a b c=false) (h2:hsZ a b d=false) (h3:hsZ c d a=false) (h4:hsZ c d b=false):meZ a b c d=(decide (sdZ a b c * sdZ a b d < 0) && decide (sdZ c d a * sdZ c d b < 0)):=by
 unfold meZ
 rw[h1,h2,h3,h4];rfl
theorem vi (a b c d:Pt) (w:World) (ha:WP 268435456 a) (hb:WP 268435456 b) (hc:WP 268435456 c) (hd:WP 268435456 d):
  Calls Tryz.prog 41 #[.agg #[.int .i64 a.1,.int .i64 a.2,.int .i64 b.1,.int .i64 b.2],.agg #[.int .i64 c.1,.int .i64 c.2,.int .i64 d.1,.int .i64 d.2]] w (fj w (.bool (meZ a b c d))):=by
 have hs:=Below.refl w.heap.size w
 go_enter Tryz.func41,Tryz.ntmps41
 go_wp2_with fail
 refine Calls.abs ?_
 intro w1 hW
 have hG:Gr [] w w1:=by rw[hW];exact (Gr.refl _ _).alloc.alloc
 have C2:=hs.size
 have B0:Bx w1 (w.heap.size) 69 #[.int .i64 a.1,.int .i64 a.2,.int .i64 b.1,.int .i64 b.2]:=by rw[hW];exact ((Bx.new0 _ _ _).alloc _)
 have B6:Bx w1 (w.heap.size + 1) 69 #[.int .i64 c.1,.int .i64 c.2,.int .i64 d.1,.int .i64 d.2]:=by rw[hW];exact (Bx.new0 _ _ _)
 replace hs:=hs.trans (hG.below0 hs.size)
 clear hW hG
 have C1:=B6.lt
 with_reducible refine (ed_has a b c _ ⟨ha.1.mono (by decide),ha.2.mono (by decide)⟩ ⟨hb.1.mono (by decide),hb.2.mono (by decide)⟩ ⟨hc.1.mono (by decide),hc.2.mono (by decide)⟩).mono ?_
 rintro e w2 ⟨rfl,hb⟩
 revert B0 B6;refine mS hs hb ?_;clear hs hb;intro hs B0 B6
 obtain⟨b1,Bu⟩:∃zz:Bool,zz=hsZ a b c:=⟨_,rfl⟩
 rw[←Bu]
 replace Bu:=ae Bu
 by_cases q2:hsZ a b c=true
 ·obtain rfl:b1=true:=by rw[Bu.out];exact q2
  have Bo:=ae q2
  clear q2
  go_wp2
  go_ret
  exact⟨(by rw[show meZ a b c d=true from by unfold meZ;rw[Bo.out];simp];rfl),hs⟩
 obtain rfl:b1=false:=by rw[Bu.out];simpa using q2
 have Bo:=ae q2
 clear q2
 refine B0.k4l fun B1 B2 B3 B4 Le=>?_
 refine B6.k4l fun B7 B8 B9 Ba Lf=>?_
 go_wp2_with fail
 clear B1 B2 B3 B4 B7 B8 B9 Ba Le Lf
 with_reducible refine (ed_has a b d _ ⟨ha.1.mono (by decide),ha.2.mono (by decide)⟩ ⟨hb.1.mono (by decide),hb.2.mono (by decide)⟩ ⟨hd.1.mono (by decide),hd.2.mono (by decide)⟩).mono ?_
 rintro e w3 ⟨rfl,hb⟩
 revert B6;revert B0;refine mS hs hb ?_;clear hs hb;intro hs B0 B6
 obtain⟨b3,Bv⟩:∃zz:Bool,zz=hsZ a b d:=⟨_,rfl⟩
 rw[←Bv]
 replace Bv:=ae Bv
 by_cases q4:hsZ a b d=true
 ·obtain rfl:b3=true:=by rw[Bv.out];exact q4
  have C3:=ae q4
  clear q4
  go_wp2
  go_ret
  exact⟨(by rw[show meZ a b c d=true from by unfold meZ;rw[C3.out];simp];rfl),hs⟩
 obtain rfl:b3=false:=by rw[Bv.out];simpa using q4
 have C3:=ae q4
 clear q4
 refine B6.k4l fun B7 B8 B9 Ba Lf=>?_
 refine B0.k4l fun B1 B2 B3 B4 Le=>?_
 go_wp2_with fail
 clear B7 B8 B9 Ba B1 B2 B3 B4 Lf Le
 with_reducible refine (ed_has c d a _ ⟨hc.1.mono (by decide),hc.2.mono (by decide)⟩ ⟨hd.1.mono (by decide),hd.2.mono (by decide)⟩ ⟨ha.1.mono (by decide),ha.2.mono (by decide)⟩).mono ?_
 rintro e w4 ⟨rfl,hb⟩
 revert B6;revert B0;refine mS hs hb ?_;clear hs hb;intro hs B0 B6
 obtain⟨b5,C7⟩:∃zz:Bool,zz=hsZ c d a:=⟨_,rfl⟩
 rw[←C7]
 replace C7:=ae C7
 by_cases q6:hsZ c d a=true
 ·obtain rfl:b5=true:=by rw[C7.out];exact q6
  have Ca:=ae q6
  clear q6
  go_wp2
  go_ret
  exact⟨(by rw[show meZ a b c d=true from by unfold meZ;rw[Ca.out];simp];rfl),hs⟩
 obtain rfl:b5=false:=by rw[C7.out];simpa using q6
 have Ca:=ae q6
 clear q6
 refine B6.k4l fun B7 B8 B9 Ba Lf=>?_
 refine B0.k4l fun B1 B2 B3 B4 Le=>?_
 go_wp2_with fail
 clear B7 B8 B9 Ba B1 B2 B3 B4 Lf Le
 with_reducible refine (ed_has c d b _ ⟨hc.1.mono (by decide),hc.2.mono (by decide)⟩ ⟨hd.1.mono (by decide),hd.2.mono (by decide)⟩ ⟨hb.1.mono (by decide),hb.2.mono (by decide)⟩).mono ?_
 rintro e w5 ⟨rfl,hb⟩
 revert B6;revert B0;refine mS hs hb ?_;clear hs hb;intro hs B0 B6
 obtain⟨b7,C8⟩:∃zz:Bool,zz=hsZ c d b:=⟨_,rfl⟩
 rw[←C8]
 replace C8:=ae C8
 by_cases q8:hsZ c d b=true
 ·obtain rfl:b7=true:=by rw[C8.out];exact q8
  have Cb:=ae q8
  clear q8
  go_wp2
  go_ret
  exact⟨(by rw[show meZ a b c d=true from by unfold meZ;rw[Cb.out];simp];rfl),hs⟩
 obtain rfl:b7=false:=by rw[C8.out];simpa using q8
 have Cb:=ae q8
 clear q8
 go_upto_region 3 with fail
 obtain⟨Bt,By⟩:∃s:Int,s=sdZ a b c:=⟨_,rfl⟩
 have Wsg9:Wn 1 Bt:=by rw[By];exact sd_wn _ _ _
 replace By:=ae By
 obtain⟨Bg,Bp⟩:∃s:Int,s=sdZ a b d:=⟨_,rfl⟩
 have Cd:Wn 1 Bg:=by rw[Bp];exact sd_wn _ _ _
 replace Bp:=ae Bp
 have MW11:IntKind.i64.wrap (Bt * Bg)=Bt * Bg:=Wn.wmul Wsg9 Cd (by decide)
 by_cases q12:Bt * Bg < 0
 ·have q12d:(Bt * Bg < 0)=True:=eq_true (by omega)
  obtain⟨Bq,Bz⟩:∃s:Int,s=sdZ c d a:=⟨_,rfl⟩
  have Ce:Wn 1 Bq:=by rw[Bz];exact sd_wn _ _ _
  replace Bz:=ae Bz
  obtain⟨Br,C0⟩:∃s:Int,s=sdZ c d b:=⟨_,rfl⟩
  have Cf:Wn 1 Br:=by rw[C0];exact sd_wn _ _ _
  replace C0:=ae C0
  have MW15:IntKind.i64.wrap (Bq * Br)=Bq * Br:=Wn.wmul Ce Cf (by decide)
  have hb:=de w5
  revert B6;revert B0;refine mS hs hb ?_;clear hs hb;intro hs B0 B6
  refine B0.k4 fun B1 B2 B3 B4=>?_
  refine B6.k4 fun B7 B8 B9 Ba=>?_
  go_region_held3 (fun w'=>w'.cell? ⟨w.heap.size,0,none⟩=some (.int .i64 a.1)∧w'.cell? ⟨w.heap.size,1,none⟩=some (.int .i64 a.2)∧w'.cell? ⟨w.heap.size,2,none⟩=some (.int .i64 b.1)∧w'.cell? ⟨w.heap.size,3,none⟩=some (.int .i64 b.2)∧w'.cell? ⟨w.heap.size + 1,0,none⟩=some (.int .i64 c.1)∧w'.cell? ⟨w.heap.size + 1,1,none⟩=some (.int .i64 c.2)∧w'.cell? ⟨w.heap.size + 1,2,none⟩=some (.int .i64 d.1)∧w'.cell? ⟨w.heap.size + 1,3,none⟩=some (.int .i64 d.2))
   (first|exact⟨B1,B2,B3,B4,B7,B8,B9,Ba⟩|exact⟨dh B1 _,dh B2 _,dh B3 _,dh B4 _,dh B7 _,dh B8 _,dh B9 _,dh Ba _⟩|go_keep)
   (first
    | (go_at_call 67;(with_reducible refine (mc a b c _ ⟨ha.1.mono (by decide),ha.2.mono (by decide)⟩ ⟨hb.1.mono (by decide),hb.2.mono (by decide)⟩ ⟨hc.1.mono (by decide),hc.2.mono (by decide)⟩).mono ?_);rintro e w6 ⟨rfl,hb⟩;replace hs:=ar hs hb;replace B0:=B0.mono hb;replace B6:=B6.mono hb;replace B1:=ah B1 hb;replace B2:=ah B2 hb;replace B3:=ah B3 hb;replace B4:=ah B4 hb;replace B7:=ah B7 hb;replace B8:=ah B8 hb;replace B9:=ah B9 hb;replace Ba:=ah Ba hb;clear hb;rw[←By.out])
    | (go_at_call 67;(with_reducible refine (mc a b d _ ⟨ha.1.mono (by decide),ha.2.mono (by decide)⟩ ⟨hb.1.mono (by decide),hb.2.mono (by decide)⟩ ⟨hd.1.mono (by decide),hd.2.mono (by decide)⟩).mono ?_);rintro e w7 ⟨rfl,hb⟩;replace hs:=ar hs hb;replace B0:=B0.mono hb;replace B6:=B6.mono hb;replace B1:=ah B1 hb;replace B2:=ah B2 hb;replace B3:=ah B3 hb;replace B4:=ah B4 hb;replace B7:=ah B7 hb;replace B8:=ah B8 hb;replace B9:=ah B9 hb;replace Ba:=ah Ba hb;clear hb;rw[←Bp.out])
    | (go_at_call 67;(with_reducible refine (mc c d a _ ⟨hc.1.mono (by decide),hc.2.mono (by decide)⟩ ⟨hd.1.mono (by decide),hd.2.mono (by decide)⟩ ⟨ha.1.mono (by decide),ha.2.mono (by decide)⟩).mono ?_);rintro e w8 ⟨rfl,hb⟩;replace hs:=ar hs hb;replace B0:=B0.mono hb;replace B6:=B6.mono hb;replace B1:=ah B1 hb;replace B2:=ah B2 hb;replace B3:=ah B3 hb;replace B4:=ah B4 hb;replace B7:=ah B7 hb;replace B8:=ah B8 hb;replace B9:=ah B9 hb;replace Ba:=ah Ba hb;clear hb;rw[←Bz.out])
    | (go_at_call 67;(with_reducible refine (mc c d b _ ⟨hc.1.mono (by decide),hc.2.mono (by decide)⟩ ⟨hd.1.mono (by decide),hd.2.mono (by decide)⟩ ⟨hb.1.mono (by decide),hb.2.mono (by decide)⟩).mono ?_);rintro e w9 ⟨rfl,hb⟩;replace hs:=ar hs hb;replace B0:=B0.mono hb;replace B6:=B6.mono hb;replace B1:=ah B1 hb;replace B2:=ah B2 hb;replace B3:=ah B3 hb;replace B4:=ah B4 hb;replace B7:=ah B7 hb;replace B8:=ah B8 hb;replace B9:=ah B9 hb;replace Ba:=ah Ba hb;clear hb;rw[←C0.out]))
  clear B1 B2 B3 B4 B7 B8 B9 Ba
  by_cases q16:Bq * Br < 0
  ·have Cc:(Bq * Br < 0)=True:=eq_true (by omega)
   try simp only[Cc]
   go_wp2
   go_ret
   exact⟨(by rw[show meZ a b c d=true from by rw[me_no (by have h:=Bo.out;simpa using h) (by have h:=C3.out;simpa using h) (by have h:=Ca.out;simpa using h) (by have h:=Cb.out;simpa using h)];rw[show sdZ a b c * sdZ a b d=Bt * Bg from by rw[←By.out,←Bp.out],decide_eq_true (show (Bt * Bg < 0) by omega)];rw[show sdZ c d a * sdZ c d b=Bq * Br from by rw[←Bz.out,←C0.out],decide_eq_true (show (Bq * Br < 0) by omega)];rfl];rfl),hs⟩
  have Cc:(Bq * Br < 0)=False:=eq_false (by omega)
  try simp only[Cc]
  go_wp2
  go_ret
  exact⟨(by rw[show meZ a b c d=false from by rw[me_no (by have h:=Bo.out;simpa using h) (by have h:=C3.out;simpa using h) (by have h:=Ca.out;simpa using h) (by have h:=Cb.out;simpa using h)];rw[show sdZ a b c * sdZ a b d=Bt * Bg from by rw[←By.out,←Bp.out],decide_eq_true (show (Bt * Bg < 0) by omega)];rw[show sdZ c d a * sdZ c d b=Bq * Br from by rw[←Bz.out,←C0.out],decide_eq_false (show ¬ (Bq * Br < 0) by omega)];rfl];rfl),hs⟩
 have q12d:(Bt * Bg < 0)=False:=eq_false (by omega)
 refine bw (S:=fun w'=>w'.cell? ⟨w.heap.size,0,none⟩=some (.int .i64 a.1)∧w'.cell? ⟨w.heap.size,1,none⟩=some (.int .i64 a.2)∧w'.cell? ⟨w.heap.size,2,none⟩=some (.int .i64 b.1)∧w'.cell? ⟨w.heap.size,3,none⟩=some (.int .i64 b.2)∧w'.cell? ⟨w.heap.size + 1,0,none⟩=some (.int .i64 c.1)∧w'.cell? ⟨w.heap.size + 1,1,none⟩=some (.int .i64 c.2)∧w'.cell? ⟨w.heap.size + 1,2,none⟩=some (.int .i64 d.1)∧w'.cell? ⟨w.heap.size + 1,3,none⟩=some (.int .i64 d.2)) (by kernel_rfl) 35 ?_
 refine cq.abs ?_
 intro w6 hW
 have hb:Below w5.heap.size w5 w6:=by rw[hW];exact de _
 replace hs:=ar hs hb
 revert B6;revert B0;refine mo hb ?_;intro B0 B6
 clear hb hW
 refine B0.k4 fun B1 B2 B3 B4=>?_
 refine B6.k4 fun B7 B8 B9 Ba=>?_
 have hH:=(show w6.cell? ⟨w.heap.size,0,none⟩=some (.int .i64 a.1)∧w6.cell? ⟨w.heap.size,1,none⟩=some (.int .i64 a.2)∧w6.cell? ⟨w.heap.size,2,none⟩=some (.int .i64 b.1)∧w6.cell? ⟨w.heap.size,3,none⟩=some (.int .i64 b.2)∧w6.cell? ⟨w.heap.size + 1,0,none⟩=some (.int .i64 c.1)∧w6.cell? ⟨w.heap.size + 1,1,none⟩=some (.int .i64 c.2)∧w6.cell? ⟨w.heap.size + 1,2,none⟩=some (.int .i64 d.1)∧w6.cell? ⟨w.heap.size + 1,3,none⟩=some (.int .i64 d.2) from ⟨B1,B2,B3,B4,B7,B8,B9,Ba⟩)
 refine U_tq 0 27 hH ?_
 refine U_tq 1 28 hH ?_
 refine U_tq 2 29 hH ?_
 refine U_tq 3 30 hH ?_
 refine U_tq 4 31 hH ?_
 refine U_tq 5 32 hH ?_
 refine U_tq 7 34 hH ?_
 refine U_tq 8 35 hH ?_
 refine U_tq 9 36 hH ?_
 refine U_tq 10 37 hH ?_
 refine U_tq 11 38 hH ?_
 refine U_tq 12 39 hH ?_
 clear hH
 refine U_on 6 fun K hK=>?_
 go_simp
 (with_reducible refine (mc a b c _ ⟨ha.1.mono (by decide),ha.2.mono (by decide)⟩ ⟨hb.1.mono (by decide),hb.2.mono (by decide)⟩ ⟨hc.1.mono (by decide),hc.2.mono (by decide)⟩).mono ?_)
 rintro e w7 ⟨rfl,hb⟩
 replace hs:=ar hs hb
 revert B0 B6;refine mo hb ?_;intro B0 B6
 replace B1:=ah B1 hb
 replace B2:=ah B2 hb
 replace B3:=ah B3 hb
 replace B4:=ah B4 hb
 replace B7:=ah B7 hb
 replace B8:=ah B8 hb
 replace B9:=ah B9 hb
 replace Ba:=ah Ba hb
 clear hb
 rw[←By.out]
 try go_wp2_with fail
 refine hK.out _ _ ⟨B1,B2,B3,B4,B7,B8,B9,Ba⟩ (fun hH=>?_)
 clear hK K
 try simp only[LY]
 clear hH
 refine U_on 13 fun K hK=>?_
 go_simp
 (with_reducible refine (mc a b d _ ⟨ha.1.mono (by decide),ha.2.mono (by decide)⟩ ⟨hb.1.mono (by decide),hb.2.mono (by decide)⟩ ⟨hd.1.mono (by decide),hd.2.mono (by decide)⟩).mono ?_)
 rintro e w8 ⟨rfl,hb⟩
 replace hs:=ar hs hb
 revert B0 B6;refine mo hb ?_;intro B0 B6
 replace B1:=ah B1 hb
 replace B2:=ah B2 hb
 replace B3:=ah B3 hb
 replace B4:=ah B4 hb
 replace B7:=ah B7 hb
 replace B8:=ah B8 hb
 replace B9:=ah B9 hb
 replace Ba:=ah Ba hb
 clear hb
 rw[←Bp.out]
 try go_wp2_with fail
 refine hK.out _ _ ⟨B1,B2,B3,B4,B7,B8,B9,Ba⟩ (fun hH=>?_)
 clear hK K
 try simp only[LY]
 refine U_tq 14 41 hH ?_
 refine U_tq 15 42 hH ?_
 refine U_tq 16 43 hH ?_
 refine ff 17 44 hH ?_
 simp only[LY]
 refine ff 18 45 hH ?_
 simp only[LY]
 refine ff 19 46 hH ?_
 simp only[LY]
 refine ff 20 47 hH ?_
 simp only[LY]
 refine ff 21 48 hH ?_
 simp only[LY]
 refine ff 22 49 hH ?_
 simp only[LY]
 refine ff 24 51 hH ?_
 simp only[LY]
 refine ff 25 52 hH ?_
 simp only[LY]
 refine ff 26 53 hH ?_
 simp only[LY]
 refine ff 27 54 hH ?_
 simp only[LY]
 refine ff 28 55 hH ?_
 simp only[LY]
 refine ff 29 56 hH ?_
 simp only[LY]
 clear hH
 refine U_on 23 fun K hK=>?_
 go_simp
 refine hK.out _ _ ⟨B1,B2,B3,B4,B7,B8,B9,Ba⟩ (fun hH=>?_)
 clear hK K
 try simp only[LY]
 clear hH
 refine U_on 30 fun K hK=>?_
 go_simp
 refine hK.out _ _ ⟨B1,B2,B3,B4,B7,B8,B9,Ba⟩ (fun hH=>?_)
 clear hK K
 try simp only[LY]
 refine ff 31 58 hH ?_
 simp only[LY]
 refine ff 32 59 hH ?_
 simp only[LY]
 refine U_tq 33 60 hH ?_
 refine U_tq 34 4 hH ?_
 clear hH
 refine im (by kernel_rfl) ?_
 clear B1 B2 B3 B4 B7 B8 B9 Ba
 go_wp2
 go_ret
 exact⟨(by rw[show meZ a b c d=false from by rw[me_no (by have h:=Bo.out;simpa using h) (by have h:=C3.out;simpa using h) (by have h:=Ca.out;simpa using h) (by have h:=Cb.out;simpa using h)];rw[show sdZ a b c * sdZ a b d=Bt * Bg from by rw[←By.out,←Bp.out],decide_eq_false (show ¬ (Bt * Bg < 0) by omega)];rfl];rfl),hs⟩
def inB (x:Int):Bool:=decide (-1048576≤x) && decide (x≤1048576)
theorem rt_in (p:Pt):rtB p=(inB p.1 && inB p.2):=rfl
theorem pl_in (x:Int) (w:World):
  Calls Tryz.prog 64 #[.int .i64 x] w (fj w (.bool (inB x))):=by
 have hs:=Below.refl w.heap.size w
 go_enter Tryz.func64,Tryz.ntmps64
 by_cases q1: -1048576≤x
 ·have q1d:(-1048576≤x)=True:=eq_true (by omega)
  by_cases q2:x≤1048576
  ·have q2d:(x≤1048576)=True:=eq_true (by omega)
   try simp only[q2d]
   go_wp2
   go_ret
   exact⟨(by rw[show inB x=true from by unfold inB;rw[decide_eq_true (show (-1048576≤x) by omega)];rw[decide_eq_true (show (x≤1048576) by omega)];rfl];rfl),hs⟩
  have q2d:(x≤1048576)=False:=eq_false (by omega)
  try simp only[q2d]
  go_wp2
  go_ret
  exact⟨(by rw[show inB x=false from by unfold inB;rw[decide_eq_true (show (-1048576≤x) by omega)];rw[decide_eq_false (show ¬ (x≤1048576) by omega)];rfl];rfl),hs⟩
 have q1d:(-1048576≤x)=False:=eq_false (by omega)
 go_wp2
 go_ret
 exact⟨(by rw[show inB x=false from by unfold inB;rw[decide_eq_false (show ¬ (-1048576≤x) by omega)];rfl];rfl),hs⟩
theorem je3 (p:Pt) (w:World):
  Calls Tryz.prog 36 #[.agg #[.int .i64 p.1,.int .i64 p.2]] w (fj w (.bool (rtB p))):=by
 have hs:=Below.refl w.heap.size w
 go_enter Tryz.func36,Tryz.ntmps36
 go_wp2_with fail
 refine Calls.abs ?_
 intro w1 hW
 have hG:Gr [] w w1:=by rw[hW];exact (Gr.refl _ _).alloc
 have C2:=hs.size
 have C4:Bx w1 (w.heap.size) 24 #[.int .i64 p.1,.int .i64 p.2]:=by rw[hW];exact (Bx.new0 _ _ _)
 replace hs:=hs.trans (hG.below0 hs.size)
 clear hW hG
 have C1:=C4.lt
 with_reducible refine (pl_in p.1 _).mono ?_
 rintro e w2 ⟨rfl,hb⟩
 revert C4;refine mS hs hb ?_;clear hs hb;intro hs C4
 obtain⟨b1,Bu⟩:∃zz:Bool,zz=inB p.1:=⟨_,rfl⟩
 rw[←Bu]
 replace Bu:=ae Bu
 by_cases q2:inB p.1=true
 ·obtain rfl:b1=true:=by rw[Bu.out];exact q2
  have Bo:=ae q2
  clear q2
  refine C4.k2l fun Ci Cj Lp=>?_
  go_wp2_with fail
  clear Ci Cj Lp
  with_reducible refine (pl_in p.2 _).mono ?_
  rintro e w3 ⟨rfl,hb⟩
  revert C4;refine mS hs hb ?_;clear hs hb;intro hs C4
  obtain⟨b3,Bv⟩:∃zz:Bool,zz=inB p.2:=⟨_,rfl⟩
  rw[←Bv]
  replace Bv:=ae Bv
  by_cases q4:inB p.2=true
  ·obtain rfl:b3=true:=by rw[Bv.out];exact q4
   have C3:=ae q4
   clear q4
   go_wp2
   go_ret
   exact⟨(by rw[show rtB p=true from by rw[rt_in,show inB p.1=true from (by have h:=Bo.out;exact h),show inB p.2=true from (by have h:=C3.out;exact h)];rfl];rfl),hs⟩
  obtain rfl:b3=false:=by rw[Bv.out];simpa using q4
  have C3:=ae q4
  clear q4
  go_wp2
  go_ret
  exact⟨(by rw[show rtB p=false from by rw[rt_in,show inB p.1=true from (by have h:=Bo.out;exact h),show inB p.2=false from (by have h:=C3.out;simpa using h)];rfl];rfl),hs⟩
 obtain rfl:b1=false:=by rw[Bu.out];simpa using q2
 have Bo:=ae q2
 clear q2
 go_wp2
 go_ret
 exact⟨(by rw[show rtB p=false from by rw[rt_in,show inB p.1=false from (by have h:=Bo.out;simpa using h)];rfl];rfl),hs⟩
end Go.Proofs.YtidmjdmmpajooaaGreat
