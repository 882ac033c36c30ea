/-
  A box that moves along a path: when it runs into an obstacle: plain.
-/
import Derived.Test.YtbnomdlojmgigaaGreatPkP14P
import Derived.Test.YtbnomdlojmgigaaGreatPkP17P
import Derived.Test.YtbnomdlojmgigaaGreatPkP2P
set_option linter.unusedSimpArgs false
set_option linter.unusedVariables false
set_option maxRecDepth 100000
set_option maxHeartbeats 4000000
namespace Go.Proofs.YtbnomdlojmgigaaGreat
def tmL (a d lo hi:Int):Rat:=if d=0 then -1 else if d < 0 then ((hi - a:Int):Rat) / (d:Rat) else ((lo - a:Int):Rat) / (d:Rat)
def tmH (a d lo hi:Int):Rat:=if d=0 then 2 else if d < 0 then ((lo - a:Int):Rat) / (d:Rat) else ((hi - a:Int):Rat) / (d:Rat)
def tmB (a d lo hi:Int):Bool:=!decide (d=0) || (decide (lo < a) && decide (a < hi))
def mxR (x y:Rat):Rat:=if x < y then y else x
def mnR (x y:Rat):Rat:=if y < x then y else x
abbrev Bxx:=Pt × Pt
def hitL (a b:Pt) (w h:Int) (o:Bxx):Rat:=mxR (tmL a.1 (b.1 - a.1) (o.1.1 - w) (o.2.1 + w)) (tmL a.2 (b.2 - a.2) (o.1.2 - h) (o.2.2 + h))
def hitH (a b:Pt) (w h:Int) (o:Bxx):Rat:=mnR (tmH a.1 (b.1 - a.1) (o.1.1 - w) (o.2.1 + w)) (tmH a.2 (b.2 - a.2) (o.1.2 - h) (o.2.2 + h))
def hitB (a b:Pt) (w h:Int) (o:Bxx):Bool:=
 tmB a.1 (b.1 - a.1) (o.1.1 - w) (o.2.1 + w) && (tmB a.2 (b.2 - a.2) (o.1.2 - h) (o.2.2 + h) && (decide (hitL a b w h o < hitH a b w h o) && (decide (hitL a b w h o < 1) && decide (0 < hitH a b w h o))))
end Go.Proofs.YtbnomdlojmgigaaGreat
namespace Go.Proofs.YtbnomdlojmgigaaGreat
def bxZ (l:List Bxx) (i:Nat):Bxx:=l.getD i ((0,0),(0,0))
def hitN (path:List Pt) (w h:Int) (obs:List Bxx) (i k:Nat):Bool:=hitB (ptZ path i) (ptZ path (i + 1)) w h (bxZ obs k)
def SwR (path:List Pt) (w h:Int) (obs:List Bxx) (i k:Int):Prop:=
 (i= -1∧k= -1∧∀a b,a + 1 < path.length→b < obs.length→hitN path w h obs a b=false)∨
 ∃a b:Nat,i=a∧k=b∧a + 1 < path.length∧b < obs.length∧hitN path w h obs a b=true∧(∀c d,c < a→d < obs.length→hitN path w h obs c d=false)∧∀d,d < b→hitN path w h obs a d=false
theorem SwR.neg {path:List Pt} {w h:Int} {obs:List Bxx} {i k:Int} (h1:SwR path w h obs i k):(i < 0↔k < 0)∧(i < 0↔∀a b,a + 1 < path.length→b < obs.length→hitN path w h obs a b=false)∧(0 < path.length→i < path.length - 1)∧k < obs.length:=by
 rcases h1 with ⟨rfl,rfl,h1⟩|⟨a,b,rfl,rfl,ha,hb,hh,hf,ho⟩
 ·exact⟨by omega,⟨fun _=>h1,fun _=>by omega⟩,fun _=>by omega,by omega⟩
 ·refine⟨by omega,⟨fun h=>by omega,fun h=>?_⟩,fun _=>by omega,by omega⟩
  rw[h a b ha hb] at hh;cases hh
end Go.Proofs.YtbnomdlojmgigaaGreat
namespace Go.Proofs.YtbnomdlojmgigaaGreat
open Go.RowKit Dg
attribute [local go_sem ↓] Go.wp_at_zero Go.wp_at_succ
theorem r2_Right (p:Pt) (w:World):
  Calls Tryz.prog 16 #[.agg #[.int .i64 p.1,.int .i64 p.2]] w (fj w (.bool (rtB p))):=by
 have hs:=Below.refl w.heap.size w
 go_enter Tryz.func16,Tryz.ntmps16
 by_cases q1: -1048576≤p.1
 ·have q1d:(-1048576≤p.1)=True:=eq_true (by omega)
  by_cases q2:p.1≤1048576
  ·have q2d:(p.1≤1048576)=True:=eq_true (by omega)
   by_cases q3: -1048576≤p.2
   ·have q3d:(-1048576≤p.2)=True:=eq_true (by omega)
    by_cases q4:p.2≤1048576
    ·have q4d:(p.2≤1048576)=True:=eq_true (by omega)
     try simp only[q4d]
     go_wp2
     refine bodyPost.abs ?_
     intro w1 hW
     have hG:Gr [] w w1:=by rw[hW];exact (Gr.refl _ _).alloc
     have B3:=hs.size
     have B1:Bx w1 (w.heap.size) 31 #[.int .i64 p.1,.int .i64 p.2]:=by rw[hW];exact (Bx.new0 _ _ _)
     replace hs:=hs.trans (hG.below0 hs.size)
     clear hW hG
     have B2:=B1.lt
     go_ret
     exact⟨(by rw[show rtB p=true from by unfold rtB;rw[decide_eq_true (show (-1048576≤p.1) by omega)];rw[decide_eq_true (show (p.1≤1048576) by omega)];rw[decide_eq_true (show (-1048576≤p.2) by omega)];rw[decide_eq_true (show (p.2≤1048576) by omega)];rfl];rfl),hs⟩
    have q4d:(p.2≤1048576)=False:=eq_false (by omega)
    try simp only[q4d]
    go_wp2
    refine bodyPost.abs ?_
    intro w1 hW
    have hG:Gr [] w w1:=by rw[hW];exact (Gr.refl _ _).alloc
    have B3:=hs.size
    have B1:Bx w1 (w.heap.size) 31 #[.int .i64 p.1,.int .i64 p.2]:=by rw[hW];exact (Bx.new0 _ _ _)
    replace hs:=hs.trans (hG.below0 hs.size)
    clear hW hG
    have B2:=B1.lt
    go_ret
    exact⟨(by rw[show rtB p=false from by unfold rtB;rw[decide_eq_true (show (-1048576≤p.1) by omega)];rw[decide_eq_true (show (p.1≤1048576) by omega)];rw[decide_eq_true (show (-1048576≤p.2) by omega)];rw[decide_eq_false (show ¬ (p.2≤1048576) by omega)];simp];rfl),hs⟩
   have q3d:(-1048576≤p.2)=False:=eq_false (by omega)
   go_wp2
   refine bodyPost.abs ?_
   intro w1 hW
   have hG:Gr [] w w1:=by rw[hW];exact (Gr.refl _ _).alloc
   have B3:=hs.size
   have B1:Bx w1 (w.heap.size) 31 #[.int .i64 p.1,.int .i64 p.2]:=by rw[hW];exact (Bx.new0 _ _ _)
   replace hs:=hs.trans (hG.below0 hs.size)
   clear hW hG
   have B2:=B1.lt
   go_ret
   exact⟨(by rw[show rtB p=false from by unfold rtB;rw[decide_eq_true (show (-1048576≤p.1) by omega)];rw[decide_eq_true (show (p.1≤1048576) by omega)];rw[decide_eq_false (show ¬ (-1048576≤p.2) by omega)];simp];rfl),hs⟩
  have q2d:(p.1≤1048576)=False:=eq_false (by omega)
  go_wp2
  refine bodyPost.abs ?_
  intro w1 hW
  have hG:Gr [] w w1:=by rw[hW];exact (Gr.refl _ _).alloc
  have B3:=hs.size
  have B1:Bx w1 (w.heap.size) 31 #[.int .i64 p.1,.int .i64 p.2]:=by rw[hW];exact (Bx.new0 _ _ _)
  replace hs:=hs.trans (hG.below0 hs.size)
  clear hW hG
  have B2:=B1.lt
  go_ret
  exact⟨(by rw[show rtB p=false from by unfold rtB;rw[decide_eq_true (show (-1048576≤p.1) by omega)];rw[decide_eq_false (show ¬ (p.1≤1048576) by omega)];simp];rfl),hs⟩
 have q1d:(-1048576≤p.1)=False:=eq_false (by omega)
 go_wp2
 refine bodyPost.abs ?_
 intro w1 hW
 have hG:Gr [] w w1:=by rw[hW];exact (Gr.refl _ _).alloc
 have B3:=hs.size
 have B1:Bx w1 (w.heap.size) 31 #[.int .i64 p.1,.int .i64 p.2]:=by rw[hW];exact (Bx.new0 _ _ _)
 replace hs:=hs.trans (hG.below0 hs.size)
 clear hW hG
 have B2:=B1.lt
 go_ret
 exact⟨(by rw[show rtB p=false from by unfold rtB;rw[decide_eq_false (show ¬ (-1048576≤p.1) by omega)];simp];rfl),hs⟩
end Go.Proofs.YtbnomdlojmgigaaGreat
namespace Go.Proofs.YtbnomdlojmgigaaGreat
open Go.RowKit Dg
attribute [local go_sem ↓] Go.wp_at_zero Go.wp_at_succ
def hf1 (al:Bool) (L f:Rat):Rat:=if al=true then f else mxR f L
def hg1 (al:Bool) (H t:Rat):Rat:=if al=true then t else mnR t H
end Go.Proofs.YtbnomdlojmgigaaGreat
namespace Go.Proofs.YtbnomdlojmgigaaGreat
open Go.RowKit Dg
attribute [local go_sem ↓] Go.wp_at_zero Go.wp_at_succ
end Go.Proofs.YtbnomdlojmgigaaGreat
namespace Go.Proofs.YtbnomdlojmgigaaGreat
end Go.Proofs.YtbnomdlojmgigaaGreat
