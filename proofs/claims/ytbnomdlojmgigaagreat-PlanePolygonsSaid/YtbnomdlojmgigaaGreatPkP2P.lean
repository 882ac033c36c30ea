/-
  Points and edges in memory: structs of integers; integers within bounds.
-/
import Derived.Test.YtbnomdlojmgigaaGreatPkP1P
import Derived.RangeFuncOwn
import Derived.Deep.RegionHeld3
import Derived.Below
import Derived.OrdersIn
import Derived.TacticsIn
import Derived.RangeFuncNested
import Derived.RangeFuncCalls
import Derived.RangeFuncLeaves
import Derived.RangeFuncRecord
set_option linter.unusedSimpArgs false
set_option linter.unusedVariables false
namespace Go.Proofs.YtbnomdlojmgigaaGreat
open Go.RowKit Dg
def IP (_:World) (cs:List Value) (x:Pt):Prop:=cs=[.int .i64 x.1,.int .i64 x.2]
def IE (_:World) (cs:List Value) (x:Pt × Pt):Prop:=cs=[.int .i64 x.1.1,.int .i64 x.1.2,.int .i64 x.2.1,.int .i64 x.2.2]
theorem IP.kept:ir IP:=fun _ _ _ _ h _=>h
theorem IE.kept:ir IE:=fun _ _ _ _ h _=>h
abbrev Pts (w:World) (v:Value) (l:List Pt):Prop:=be 2 IP w v l
abbrev Bxs (w:World) (v:Value) (l:List (Pt × Pt)):Prop:=be 4 IE w v l
theorem jb0 {l:List Pt} {k:Nat} (h:k < l.length):l[k]?=some (ptZ l k):=by
 unfold ptZ;rw[List.getD_eq_getElem?_getD,List.getElem?_eq_getElem h];rfl
theorem lt_cell {w:World} {a:Addr} {v:Value} (h:w.cell? a=some v):a.block < w.heap.size:=by
 obtain⟨o,ho,_⟩:=cells_of_cell h
 exact (Array.getElem?_eq_some_iff.1 ho).1
theorem ep {α:Type} {size:Nat} {R:World→List Value→α→Prop} {w:World} {v:Value} {l:List α} (h:be size R w v l) (hl:0 < l.length):∃b o c,v=.slice (some ⟨b,o,none⟩) l.length c∧l.length≤c∧c≤9223372036854775807:=by
 obtain⟨ao,c,e,h1,h2,h3⟩:=h.slice
 obtain⟨b',o',c',cs,e',_⟩:=h.get (List.getElem?_eq_getElem hl)
 subst e
 injection e' with e1 _ _
 subst e1
 exact⟨b',o',c,rfl,h1,h2⟩
theorem ij {w:World} {b o n c:Nat} {l:List Pt} (h:Pts w (.slice (some ⟨b,o,none⟩) n c) l) {k:Nat} (hk:k < l.length):
  w.cell? ⟨b,o + k * 2,none⟩=some (.int .i64 (ptZ l k).1)∧w.cell? ⟨b,o + k * 2 + 1,none⟩=some (.int .i64 (ptZ l k).2)∧b < w.heap.size:=by
 obtain⟨b',o',c',cs,e,hlen,hat,rfl⟩:=h.get (jb0 hk)
 injection e with e1 _ _
 injection e1 with e1
 injection e1 with e2 e3 _
 subst e2 e3
 have h0:=hat 0 _ rfl
 exact⟨h0,hat 1 _ rfl,lt_cell h0⟩
theorem jf0 {w:World} {b o n c:Nat} {l:List (Pt × Pt)} (h:Bxs w (.slice (some ⟨b,o,none⟩) n c) l) {k:Nat} (hk:k < l.length):
  w.cell? ⟨b,o + k * 4,none⟩=some (.int .i64 (l.getD k ((0,0),(0,0))).1.1)∧w.cell? ⟨b,o + k * 4 + 1,none⟩=some (.int .i64 (l.getD k ((0,0),(0,0))).1.2)∧w.cell? ⟨b,o + k * 4 + 2,none⟩=some (.int .i64 (l.getD k ((0,0),(0,0))).2.1)∧
   w.cell? ⟨b,o + k * 4 + 3,none⟩=some (.int .i64 (l.getD k ((0,0),(0,0))).2.2)∧b < w.heap.size:=by
 have hx:l[k]?=some (l.getD k ((0,0),(0,0))):=by rw[List.getD_eq_getElem?_getD,List.getElem?_eq_getElem hk];rfl
 obtain⟨b',o',c',cs,e,hlen,hat,rfl⟩:=h.get hx
 injection e with e1 _ _
 injection e1 with e1
 injection e1 with e2 e3 _
 subst e2 e3
 have h0:=hat 0 _ rfl
 exact⟨h0,hat 1 _ rfl,hat 2 _ rfl,hat 3 _ rfl,lt_cell h0⟩
def Wn (B x:Int):Prop:= -B≤x∧x≤B
theorem Wn.lit {B x:Int} (h: -B≤x) (k:x≤B):Wn B x:=⟨h,k⟩
theorem Wn.mono {A B x:Int} (h:Wn A x) (hb:A≤B):Wn B x:=⟨by have:=h.1;omega,by have:=h.2;omega⟩
theorem Wn.add {A B x y:Int} (h:Wn A x) (k:Wn B y):Wn (A + B) (x + y):=⟨by have:=h.1;have:=k.1;omega,by have:=h.2;have:=k.2;omega⟩
theorem Wn.sub {A B x y:Int} (h:Wn A x) (k:Wn B y):Wn (A + B) (x - y):=⟨by have:=h.1;have:=k.2;omega,by have:=h.2;have:=k.1;omega⟩
theorem Wn.neg {A x:Int} (h:Wn A x):Wn A (-x):=⟨by have:=h.2;omega,by have:=h.1;omega⟩
theorem Wn.nn {A x:Int} (h:Wn A x):0≤A:=by have:=h.1;have:=h.2;omega
theorem Wn.abs {A x:Int} (h:Wn A x):(x.natAbs:Int)≤A:=by have:=h.1;have:=h.2;omega
theorem Wn.of_abs {A x:Int} (h:(x.natAbs:Int)≤A):Wn A x:=⟨by omega,by omega⟩
theorem Wn.mul {A B x y:Int} (h:Wn A x) (k:Wn B y):Wn (A * B) (x * y):=by
 refine Wn.of_abs ?_
 rw[Int.natAbs_mul,Int.natCast_mul]
 exact Int.mul_le_mul h.abs k.abs (Int.natCast_nonneg _) h.nn
theorem Wn.min {A x y:Int} (h:Wn A x) (k:Wn A y):Wn A (Min.min x y):=⟨by have:=h.1;have:=k.1;omega,by have:=h.2;have:=k.2;omega⟩
theorem Wn.max {A x y:Int} (h:Wn A x) (k:Wn A y):Wn A (Max.max x y):=⟨by have:=h.1;have:=k.1;omega,by have:=h.2;have:=k.2;omega⟩
theorem Wn.wrap {A x:Int} (h:Wn A x) (hA:A≤9223372036854775807):IntKind.i64.wrap x=x:=IntWalk.i64_in x (by have:=h.1;have:=h.2;omega)
theorem Wn.wsub {A B x y:Int} (h:Wn A x) (k:Wn B y) (hA:A + B≤9223372036854775807):IntKind.i64.wrap (x - y)=x - y:=(h.sub k).wrap hA
theorem Wn.wadd {A B x y:Int} (h:Wn A x) (k:Wn B y) (hA:A + B≤9223372036854775807):IntKind.i64.wrap (x + y)=x + y:=(h.add k).wrap hA
theorem Wn.wmul {A B x y:Int} (h:Wn A x) (k:Wn B y) (hA:A * B≤9223372036854775807):IntKind.i64.wrap (x * y)=x * y:=(h.mul k).wrap hA
theorem Wn.lo {A B x:Int} (h:Wn A x) (hA:A≤B): -B≤x:=by have:=h.1;omega
theorem Wn.lo64 {A x:Int} (h:Wn A x) (hA:A≤9223372036854775807): -9223372036854775808≤x:=by have:=h.1;omega
theorem Wn.hi {A B x:Int} (h:Wn A x) (hA:A≤B):x≤B:=by have:=h.2;omega
theorem Wn.out {A x:Int} (h:Wn A x): -A≤x∧x≤A:=h
abbrev WP (B:Int) (p:Pt):Prop:=Wn B p.1∧Wn B p.2
theorem WP.mono {A B:Int} {p:Pt} (h:WP A p) (hb:A≤B):WP B p:=⟨h.1.mono hb,h.2.mono hb⟩
theorem WP.mn {A B:Int} {p q:Pt} (h:WP A p) (k:WP B q):WP (A + B) (mnZ p q):=⟨h.1.sub k.1,h.2.sub k.2⟩
theorem WP.cr {A B:Int} {p q:Pt} (h:WP A p) (k:WP B q):Wn (A * B + A * B) (crZ p q):=(h.1.mul k.2).sub (h.2.mul k.1)
theorem jm {p:Pt} (h:rtB p=true):WP 1048576 p:=by
 unfold rtB at h
 simp only[Bool.and_eq_true,decide_eq_true_eq] at h
 exact⟨h.1,h.2⟩
theorem WP.pt {B:Int} (hB:0≤B) {l:List Pt} (h:∀p∈l,WP B p) (k:Nat):WP B (ptZ l k):=by
 by_cases hk:k < l.length
 ·exact h _ (List.mem_of_getElem? (jb0 hk))
 ·unfold ptZ;rw[List.getD_eq_getElem?_getD,List.getElem?_eq_none (by omega)];exact⟨⟨show -B≤(0:Int) by omega,show (0:Int)≤B by omega⟩,⟨show -B≤(0:Int) by omega,show (0:Int)≤B by omega⟩⟩
theorem Bx.set2 {w:World} {g:Nat} {t:TypeId} {a b x y:Value} (h:Bx w g t #[a,b]):Bx ((w.setCell ⟨g,0,none⟩ x).setCell ⟨g,1,none⟩ y) g t #[x,y]:=(h.set 0 _ rfl).set 1 _ rfl
end Go.Proofs.YtbnomdlojmgigaaGreat
namespace Go.Proofs.YtbnomdlojmgigaaGreat
open Go
section
variable {P:Program} {ops:Array Oper} {Q:Exit→Act→World→Prop} {md:Region.Mode} {S:World→Prop} {m:Nat}
def cq (P:Program) (md:Region.Mode) (ops:Array Oper) (Q:Exit→Act→World→Prop) (S:World→Prop) (m:Nat):Nat→Array Bool→Act→World→Prop
 | 0,listed,a,w=>Region.ready md ops listed=[]∧Q .normal a w
 | fuel + 1,listed,a,w=>
  (Region.ready md ops listed=[]→Q .normal a w)∧
  ∀i∈Region.ready md ops listed,wpOp P ops Q i (fun a' w'=>(i=m∨S w')∧cq P md ops Q S m fuel (listed.setIfInBounds i true) a' w') a w
theorem cq.abs {fuel:Nat} {listed:Array Bool} {a:Act} {w:World} (h:∀w',w'=w→cq P md ops Q S m fuel listed a w'):cq P md ops Q S m fuel listed a w:=h w rfl
theorem jb7:∀(fuel:Nat) (listed:Array Bool) (a:Act) (w:World),cq P md ops Q S m fuel listed a w→wpAny P md ops Q fuel listed a w
 | 0,_,_,_,h=>h
 | fuel + 1,_,_,_,h=>⟨h.1,fun i hi=>wpOp_mono (fun a' w' h'=>jb7 fuel _ a' w' h'.2) (h.2 i hi)⟩
def ml (md:Region.Mode) (ops:Array Oper) (m i:Nat):Bool:=((ops[m]?).map fun o=>o.after.any fun e=>Region.binds md e && e.on == i).getD false
theorem ow {listed:Array Bool} {i:Nat} (hw:ml md ops m i=true) (hi:i∈Region.ready md ops listed):¬ m∈Region.ready md ops listed:=by
 intro hm
 obtain⟨_,om,hom,hall⟩:=mem_ready.1 hm
 unfold ml at hw
 rw[hom] at hw
 simp only[Option.map_some,Option.getD_some,Array.any_eq_true,Bool.and_eq_true,beq_iff_eq] at hw
 obtain⟨k,hk,hb,he⟩:=hw
 have h1:=hall _ (Array.getElem_mem hk) hb
 have h0:=(mem_ready.1 hi).1
 rw[he] at h1
 rcases Nat.lt_or_ge i listed.size with h'|h'
 ·simp[h'] at h0 h1;rw[h0] at h1;cases h1
 ·simp[Array.getElem?_eq_none h'] at h1
theorem U_first {i:Nat} {oi:Oper} {v:Value} (hi:ops[i]?=some oi) (hwt:ml md ops m i=true) (hsel:∀(j:Nat) (o:Oper) cs b,ops[j]?=some o→o.op≠.select cs b)
  (hQ:∀c a w,Q (.panic c) (a.put oi.dst v) w→Q (.panic c) a w):
  ∀(fuel:Nat) (listed:Array Bool) (a:Act) (w:World),
   (∀j oj,ops[j]?=some oj→j≠i→listed.getD j true=false→(∀e∈oj.after,Region.binds md e=true→e.on≠i)→oi.apart ops oj=true)→
   i∈Region.ready md ops listed→YieldsIf P ops S oi v a→S w→
   cq P md ops Q S m fuel (listed.setIfInBounds i true) (a.put oi.dst v) w→cq P md ops Q S m (fuel + 1) listed a w:=by
 intro fuel
 induction fuel with
 | zero=>
  intro listed a w _ hr hy hS H
  refine⟨fun h=>(by rw[h] at hr;cases hr),fun j hj=>?_⟩
  by_cases hji:j=i
  ·subst hji;exact hy.wpOp hi hS ⟨.inr hS,H⟩
  ·have:=ready_mono hj hji
   rw[H.1] at this
   cases this
 | succ fuel ih=>
  intro listed a w hfree hr hy hS H
  refine⟨fun h=>(by rw[h] at hr;cases hr),fun j hj=>?_⟩
  by_cases hji:j=i
  ·subst hji;exact hy.wpOp hi hS ⟨.inr hS,H⟩
  ·have hjm:j≠m:=fun e=>ow hwt hr (e ▸ hj)
   have h1:=H.2 j (ready_mono hj hji)
   obtain⟨hjun,oj,hoj,hall⟩:=mem_ready.1 hj
   have hnot:∀e∈oj.after,Region.binds md e=true→e.on≠i:=fun e he hb heq=>by
    have h1:=hall e he hb
    have h0:=(mem_ready.1 hr).1
    rw[heq] at h1
    rcases Nat.lt_or_ge i listed.size with h'|h'
    ·simp[h'] at h0 h1;rw[h0] at h1;cases h1
    ·simp[Array.getElem?_eq_none h'] at h1
   have h2:=wpOp_putIf hoj (hfree j oj hoj hji hjun hnot) (fun cs b=>hsel i oi cs b hi) (fun cs b=>hsel j oj cs b hoj) hQ hy h1
   have hfree':∀k ok,ops[k]?=some ok→k≠i→(listed.setIfInBounds j true).getD k true=false→
     (∀e∈ok.after,Region.binds md e=true→e.on≠i)→oi.apart ops ok=true:=fun k ok hk hki hun hno=>by
    refine hfree k ok hk hki ?_ hno
    by_cases hjk:j=k
    ·subst hjk;exact hjun
    ·rw[getD_set_ne true hjk] at hun;exact hun
   refine wpOp_mono (fun a' w' h3=>⟨.inr (h3.2.1.resolve_left hjm),ih (listed.setIfInBounds j true) a' w' hfree' (ready_mono hr (Ne.symm hji)) h3.1 (h3.2.1.resolve_left hjm) ?_⟩) h2
   rw[Array.setIfInBounds_comm _ _ hji]
   exact h3.2.2
theorem U_take {i:Nat} {oi:Oper} {v:Value} {fuel:Nat} {listed:Array Bool} {a:Act} {w:World} (hi:ops[i]?=some oi) (hwt:ml md ops m i=true)
  (hs:Region.noSelect ops=true) (hf:Region.free md ops listed i=true) (hr:(Region.ready md ops listed).contains i=true)
  (hQ:∀c a w,Q (.panic c) (a.put oi.dst v) w→Q (.panic c) a w) (hy:YieldsIf P ops S oi v a) (hS:S w)
  (h:cq P md ops Q S m fuel (listed.setIfInBounds i true) (a.put oi.dst v) w):cq P md ops Q S m (fuel + 1) listed a w:=
 U_first hi hwt (Region.noSelect_spec hs) hQ fuel listed a w (Region.free_spec hi hf) (by simpa using hr) hy hS h
theorem U_one {i:Nat} {o:Oper} {fuel:Nat} {listed:Array Bool} {a:Act} {w:World} (hr:Region.ready md ops listed=[i]) (ho:ops[i]?=some o)
  (h:∀K':Act→World→Prop,Shut (∀a w,S w→(S w→cq P md ops Q S m fuel (listed.setIfInBounds i true) a w)→K' a w)→if Region.wanted o (yielded ops a.tmps)=true then Oper.wp P o a w K' Q else K' (a.put o.dst undef) w):
  cq P md ops Q S m (fuel + 1) listed a w:=by
 refine⟨fun h0=>(by rw[h0] at hr;cases hr),fun j hj=>?_⟩
 rw[hr] at hj
 simp only[List.mem_singleton] at hj
 subst hj
 exact wpOp_step ho (fun K' hK=>h K' (fun a w hS hW=>hK a w ⟨.inr hS,hW hS⟩))
theorem dq {i j:Nat} {oi oj:Oper} {fuel:Nat} {listed:Array Bool} {a:Act} {w:World} (hr:Region.ready md ops listed=[i,j]) (hi:ops[i]?=some oi) (hj:ops[j]?=some oj)
  (h1:∀K':Act→World→Prop,Shut (∀a w,S w→(S w→cq P md ops Q S m fuel (listed.setIfInBounds i true) a w)→K' a w)→if Region.wanted oi (yielded ops a.tmps)=true then Oper.wp P oi a w K' Q else K' (a.put oi.dst undef) w)
  (h2:∀K':Act→World→Prop,Shut (∀a w,S w→(S w→cq P md ops Q S m fuel (listed.setIfInBounds j true) a w)→K' a w)→if Region.wanted oj (yielded ops a.tmps)=true then Oper.wp P oj a w K' Q else K' (a.put oj.dst undef) w):
  cq P md ops Q S m (fuel + 1) listed a w:=by
 refine⟨fun h0=>(by rw[h0] at hr;cases hr),fun k hk=>?_⟩
 rw[hr] at hk
 simp only[List.mem_cons,List.mem_nil_iff,or_false] at hk
 rcases hk with rfl|rfl
 ·exact wpOp_step hi (fun K' hK=>h1 K' (fun a w hS hW=>hK a w ⟨.inr hS,hW hS⟩))
 ·exact wpOp_step hj (fun K' hK=>h2 K' (fun a w hS hW=>hK a w ⟨.inr hS,hW hS⟩))
theorem dr {o:Oper} {fuel:Nat} {listed:Array Bool} {a:Act} {w:World} (hr:Region.ready md ops listed=[m]) (ho:ops[m]?=some o)
  (hr':Region.ready md ops (listed.setIfInBounds m true)=[])
  (h:∀K':Act→World→Prop,Shut (∀a w,(∀w',w'=w→Q .normal a w')→K' a w)→if Region.wanted o (yielded ops a.tmps)=true then Oper.wp P o a w K' Q else K' (a.put o.dst undef) w):
  cq P md ops Q S m (fuel + 1) listed a w:=by
 refine⟨fun h0=>(by rw[h0] at hr;cases hr),fun j hj=>?_⟩
 rw[hr] at hj
 simp only[List.mem_singleton] at hj
 subst hj
 refine wpOp_step ho (fun K' hK=>h K' (fun a w hq=>hK a w ⟨.inl rfl,?_⟩))
 have hq:=hq w rfl
 cases fuel with
 | zero=>exact⟨hr',hq⟩
 | succ n=>exact⟨fun _=>hq,by rw[hr'];simp⟩
theorem bw {id:Nat} {a:Act} {w:World} (hm:P.follows .mixedOrders=true) (m:Nat)
  (h:cq P .any ops Q S m ops.size (Array.replicate ops.size false) a w.drew):(Code.region id ops true).wp P Q a w:=
 wp_region_any hm (jb7 _ _ _ _ h)
end
end Go.Proofs.YtbnomdlojmgigaaGreat
namespace Go.Proofs.YtbnomdlojmgigaaGreat
open Go.RowKit Dg
structure Gr (gs:List Nat) (w w':World):Prop where
 os:w'.os=w.os
 tape:w'.tape=w.tape
 output:w'.output=w.output
 size:w.heap.size≤w'.heap.size
 block:∀k,k < w.heap.size→k ∉ gs→w'.heap[k]?=w.heap[k]?
def NoD (w:World):List Nat→Prop
 | []=>True
 | g ::r=>(∃T,TyB T w g∧(T≠108∧T≠150))∧NoD w r
theorem NoD.get {w:World}:∀{gs:List Nat},NoD w gs→∀g∈gs,∃T,TyB T w g∧(T≠108∧T≠150)
 | _ ::_,h,g,hg=>by
  rcases List.mem_cons.1 hg with rfl|hg
  ·exact h.1
  ·exact NoD.get h.2 g hg
section
variable {gs:List Nat} {a w:World}
theorem Gr.refl (gs:List Nat) (w:World):Gr gs w w:=⟨rfl,rfl,rfl,ag _,fun _ _ _=>rfl⟩
theorem Gr.set (h:Gr gs a w) {p:Addr} {u:Value} (hp:p.block∈gs:=by first|exact .head _|exact .tail _ (.head _)|exact .tail _ (.tail _ (.head _))):Gr gs a (w.setCell p u):=
 ⟨h.os,h.tape,h.output,by simpa [World.setCell] using h.size,fun k hk hn=>(Below.heap_setCell _ _ _ _ (fun e=>hn (by rw[e];exact hp))).trans (h.block k hk hn)⟩
theorem Gr.alloc (h:Gr gs a w) {o:Obj}:Gr gs a (w.alloc o):=
 ⟨h.os,h.tape,h.output,by have:=h.size;simp;omega,fun k hk hn=>(Below.heap_alloc _ _ _ (by have:=h.size;omega)).trans (h.block k hk hn)⟩
theorem Gr.drew (h:Gr gs a w):Gr gs a w.drew:=⟨h.os,h.tape,h.output,h.size,h.block⟩
theorem Gr.below {B:Nat} (h:Gr gs a w) (hB:B≤a.heap.size) (hg:∀g∈gs,B≤g):Below B a w:=
 ⟨h.os,h.tape,h.output,h.size,fun k hk=>h.block k (by omega) (fun hm=>by have:=hg k hm;omega)⟩
theorem Gr.below0 {B:Nat} (h:Gr [] a w) (hB:B≤a.heap.size):Below B a w:=h.below hB (fun _ hg=>by cases hg)
theorem Gr.below1 {B g:Nat} (h:Gr [g] a w) (hB:B≤a.heap.size) (h1:B≤g):Below B a w:=h.below hB (fun x hx=>by cases hx with|head=>exact h1|tail _ h=>cases h)
theorem Gr.keep (h:Gr gs a w) (hd:NoD a gs):aw a w:=
 ⟨h.size,fun k t hk ht=>h.block k hk.lt (fun hm=>by
  obtain⟨T,hT,h1,h2⟩:=hd.get k hm
  rcases ht with rfl|rfl
  ·exact TyB.ne hT hk h1 rfl
  ·exact TyB.ne hT hk h2 rfl)⟩
theorem Gr.bx {g:Nat} {t:TypeId} {cs:Array Value} (h:Gr gs a w) (hx:Bx a g t cs) (hn:g ∉ gs):Bx w g t cs:=(h.block g hx.lt hn).trans hx
theorem Gr.cell {p:Addr} {v:Value} (h:Gr gs a w) (hc:a.cell? p=some v) (hn:p.block ∉ gs):w.cell? p=some v:=(World.cell?_of_block (h.block p.block (jw hc) hn)).trans hc
theorem Gr.onlyT {T:TypeId} (h:Gr gs a w) (hg:∀g∈gs,TyB T a g):dg T a w:=⟨h.size,fun k hk hn=>h.block k hk (fun hm=>hn (hg k hm))⟩
theorem wh {k:Nat}:k ∉ ([]:List Nat):=fun h=>by cases h
theorem az {k g:Nat} (h:k≠g):k ∉ [g]:=fun hm=>by cases hm with|head=>exact h rfl|tail _ h=>cases h
end
theorem Bx.set3 {w:World} {g:Nat} {t:TypeId} {a b c x y z:Value} (h:Bx w g t #[a,b,c]):Bx (((w.setCell ⟨g,0,none⟩ x).setCell ⟨g,1,none⟩ y).setCell ⟨g,2,none⟩ z) g t #[x,y,z]:=((h.set 0 _ rfl).set 1 _ rfl).set 2 _ rfl
theorem Bx.new0 (w:World) (t:TypeId) (cs:Array Value) {g:Nat} (hg:g=w.heap.size:=by first|rfl|(simp;done)):Bx (w.alloc (.cells cs t)) g t cs:=Bx.new' w t cs g hg
class Mg (A:Prop) (w w':World) (B:outParam Prop):Prop where
  mv:Gr [] w w'→A→B
class MgS (A:Prop) (w w':World) (B:outParam Prop):Prop where
  mv:Gr [] w w'→B→A
section
variable {w w':World}
instance {g:Nat} {t:TypeId} {c:Array Value}:Mg (Bx w g t c) w w' (Bx w' g t c):=⟨fun hb h=>hb.bx h wh⟩
instance {v:Value} {q:Rat}:Mg (PV w v q) w w' (PV w' v q):=⟨fun hb h=>h.keep (hb.keep True.intro)⟩
instance {v:Value} {q:Rat}:Mg (RV w v q) w w' (RV w' v q):=⟨fun hb h=>h.keep (hb.keep True.intro)⟩
instance (priority:=low) {G:Prop}:MgS G w w' G:=⟨fun _ h=>h⟩
instance {A B X Y:Prop} [Mg A w w' B] [MgS X w w' Y]:MgS (A→X) w w' (B→Y):=⟨fun hb h a=>MgS.mv hb (h (Mg.mv hb a))⟩
theorem Gr.b1 {a w:World} {k g:Nat} {t:TypeId} {cs:Array Value} (h:Gr [k] a w) (hx:Bx a g t cs) (hn:g≠k:=by omega):Bx w g t cs:=h.bx hx (az hn)
theorem Gr.c1 {a w:World} {k:Nat} {p:Addr} {v:Value} (h:Gr [k] a w) (hc:a.cell? p=some v) (hn:p.block≠k:=by (dsimp only;omega)):w.cell? p=some v:=h.cell hc (az hn)
theorem Gr.d1 {a w:World} {B g:Nat} (h:Gr [g] a w) (hB:B≤a.heap.size) (h1:B≤g:=by first|omega|assumption):Below B a w:=h.below1 hB h1
theorem g0 {X Y:Prop} [MgS X w w' Y] (hG:Gr [] w w') (h:Y):X:=MgS.mv hG h
end
end Go.Proofs.YtbnomdlojmgigaaGreat
namespace Go.Proofs.YtbnomdlojmgigaaGreat
open Go
theorem put_mk (l:List Value) (ds:List Deferred) (d:Nat) (v:Value):Act.put ⟨l.toArray,ds⟩ (some d) v=⟨(l.set d v).toArray,ds⟩:=by
 simp only[Act.put,List.setIfInBounds_toArray]
theorem LY:(∀(l:List Value) (ds:List Deferred) (d:Nat) (v:Value),Act.put ⟨l.toArray,ds⟩ (some d) v=⟨(l.set d v).toArray,ds⟩)∧(∀(x v:Value) (l:List Value),(x ::l).set 0 v=v ::l)∧(∀(x v:Value) (l:List Value) (n:Nat),(x ::l).set (n + 1) v=x ::l.set n v):=
 ⟨put_mk,fun _ _ _=>rfl,fun _ _ _ _=>rfl⟩
theorem aq {B:Nat} {w0 W:World} {t:TypeId} {cs:Array Value} {p:World→Prop} (hs:RowKit.Below B w0 W) (h:∀W1,RowKit.Below W.heap.size W W1→Bx W1 W.heap.size t cs→w0.heap.size≤W.heap.size→p W1):p (W.alloc (.cells cs t)):=
 h _ ((RowKit.Below.refl _ _).alloc (ag _) _) (Bx.new _ _ _) hs.size
section
variable {P:Program} {ops:Array Oper} {Q:Exit→Act→World→Prop} {md:Region.Mode} {S:World→Prop} {m:Nat}
theorem jv {i j k:Nat} {oi oj ok:Oper} {fuel:Nat} {listed:Array Bool} {a:Act} {w:World} (hr:Region.ready md ops listed=[i,j,k]) (hi:ops[i]?=some oi) (hj:ops[j]?=some oj) (hk:ops[k]?=some ok)
  (h1:∀K':Act→World→Prop,Shut (∀a w,S w→(S w→cq P md ops Q S m fuel (listed.setIfInBounds i true) a w)→K' a w)→if Region.wanted oi (yielded ops a.tmps)=true then Oper.wp P oi a w K' Q else K' (a.put oi.dst undef) w)
  (h2:∀K':Act→World→Prop,Shut (∀a w,S w→(S w→cq P md ops Q S m fuel (listed.setIfInBounds j true) a w)→K' a w)→if Region.wanted oj (yielded ops a.tmps)=true then Oper.wp P oj a w K' Q else K' (a.put oj.dst undef) w)
  (h3:∀K':Act→World→Prop,Shut (∀a w,S w→(S w→cq P md ops Q S m fuel (listed.setIfInBounds k true) a w)→K' a w)→if Region.wanted ok (yielded ops a.tmps)=true then Oper.wp P ok a w K' Q else K' (a.put ok.dst undef) w):
  cq P md ops Q S m (fuel + 1) listed a w:=by
 refine⟨fun h0=>(by rw[h0] at hr;cases hr),fun x hx=>?_⟩
 rw[hr] at hx
 simp only[List.mem_cons,List.mem_nil_iff,or_false] at hx
 rcases hx with rfl|rfl|rfl
 ·exact wpOp_step hi (fun K' hK=>h1 K' (fun a w hS hW=>hK a w ⟨.inr hS,hW hS⟩))
 ·exact wpOp_step hj (fun K' hK=>h2 K' (fun a w hS hW=>hK a w ⟨.inr hS,hW hS⟩))
 ·exact wpOp_step hk (fun K' hK=>h3 K' (fun a w hS hW=>hK a w ⟨.inr hS,hW hS⟩))
theorem U_takeD {i d:Nat} {oi:Oper} {v:Value} {fuel:Nat} {listed:Array Bool} {l:List Value} {ds:List Deferred} {w:World} (hi:ops[i]?=some oi) (hd:oi.dst=some d) (hwt:ml md ops m i=true)
  (hs:Region.noSelect ops=true) (hf:Region.free md ops listed i=true) (hr:(Region.ready md ops listed).contains i=true)
  (hQ:∀c a w,Q (.panic c) (a.put oi.dst v) w→Q (.panic c) a w) (hy:YieldsIf P ops S oi v ⟨l.toArray,ds⟩) (hS:S w)
  (h:cq P md ops Q S m fuel (listed.setIfInBounds i true) ⟨(l.set d v).toArray,ds⟩ w):cq P md ops Q S m (fuel + 1) listed ⟨l.toArray,ds⟩ w:=
 U_take hi hwt hs hf hr hQ hy hS (by rw[hd,put_mk];exact h)
theorem ks {fuel:Nat} {listed:Array Bool} {a:Act} {w:World} (h:∀(X:Nat→Array Bool→Act→World→Prop) (a0:Act),RowKit.Hid (cq P md ops Q S m=X)→RowKit.Hid (a=a0)→X fuel listed a0 w):cq P md ops Q S m fuel listed a w:=
 h _ _ (ae rfl) (ae rfl)
theorem U_at {f f':Nat} {l l':Array Bool} {a:Act} {w:World} (hf:f=f') (hl:l=l') (h:cq P md ops Q S m f' l' a w):cq P md ops Q S m f l a w:=by subst hf hl;exact h
end
end Go.Proofs.YtbnomdlojmgigaaGreat
namespace Go.Proofs.YtbnomdlojmgigaaGreat
open Go
section
variable {P:Program} {ops:Array Oper} {Q:Exit→Act→World→Prop} {md:Region.Mode} {S:World→Prop} {m:Nat}
theorem U_firstN {i:Nat} {oi:Oper} {v:Value} (hi:ops[i]?=some oi) (hm:ops[m]?=none) (hsel:∀(j:Nat) (o:Oper) cs b,ops[j]?=some o→o.op≠.select cs b)
  (hQ:∀c a w,Q (.panic c) (a.put oi.dst v) w→Q (.panic c) a w):
  ∀(fuel:Nat) (listed:Array Bool) (a:Act) (w:World),
   (∀j oj,ops[j]?=some oj→j≠i→listed.getD j true=false→(∀e∈oj.after,Region.binds md e=true→e.on≠i)→oi.apart ops oj=true)→
   i∈Region.ready md ops listed→YieldsIf P ops S oi v a→S w→
   cq P md ops Q S m fuel (listed.setIfInBounds i true) (a.put oi.dst v) w→cq P md ops Q S m (fuel + 1) listed a w:=by
 intro fuel
 induction fuel with
 | zero=>
  intro listed a w _ hr hy hS H
  refine⟨fun h=>(by rw[h] at hr;cases hr),fun j hj=>?_⟩
  by_cases hji:j=i
  ·subst hji;exact hy.wpOp hi hS ⟨.inr hS,H⟩
  ·have:=ready_mono hj hji
   rw[H.1] at this
   cases this
 | succ fuel ih=>
  intro listed a w hfree hr hy hS H
  refine⟨fun h=>(by rw[h] at hr;cases hr),fun j hj=>?_⟩
  by_cases hji:j=i
  ·subst hji;exact hy.wpOp hi hS ⟨.inr hS,H⟩
  ·have h1:=H.2 j (ready_mono hj hji)
   obtain⟨hjun,oj,hoj,hall⟩:=mem_ready.1 hj
   have hjm:j≠m:=fun e=>by subst e;rw[hm] at hoj;cases hoj
   have hnot:∀e∈oj.after,Region.binds md e=true→e.on≠i:=fun e he hb heq=>by
    have h1:=hall e he hb
    have h0:=(mem_ready.1 hr).1
    rw[heq] at h1
    rcases Nat.lt_or_ge i listed.size with h'|h'
    ·simp[h'] at h0 h1;rw[h0] at h1;cases h1
    ·simp[Array.getElem?_eq_none h'] at h1
   have h2:=wpOp_putIf hoj (hfree j oj hoj hji hjun hnot) (fun cs b=>hsel i oi cs b hi) (fun cs b=>hsel j oj cs b hoj) hQ hy h1
   have hfree':∀k ok,ops[k]?=some ok→k≠i→(listed.setIfInBounds j true).getD k true=false→
     (∀e∈ok.after,Region.binds md e=true→e.on≠i)→oi.apart ops ok=true:=fun k ok hk hki hun hno=>by
    refine hfree k ok hk hki ?_ hno
    by_cases hjk:j=k
    ·subst hjk;exact hjun
    ·rw[getD_set_ne true hjk] at hun;exact hun
   refine wpOp_mono (fun a' w' h3=>⟨.inr (h3.2.1.resolve_left hjm),ih (listed.setIfInBounds j true) a' w' hfree' (ready_mono hr (Ne.symm hji)) h3.1 (h3.2.1.resolve_left hjm) ?_⟩) h2
   rw[Array.setIfInBounds_comm _ _ hji]
   exact h3.2.2
theorem U_takeN {i d:Nat} {oi:Oper} {v:Value} {fuel:Nat} {listed:Array Bool} {l:List Value} {ds:List Deferred} {w:World} (hi:ops[i]?=some oi) (hd:oi.dst=some d) (hm:ops[m]?=none)
  (hs:Region.noSelect ops=true) (hf:Region.free md ops listed i=true) (hr:(Region.ready md ops listed).contains i=true)
  (hQ:∀c a w,Q (.panic c) (a.put oi.dst v) w→Q (.panic c) a w) (hy:YieldsIf P ops S oi v ⟨l.toArray,ds⟩) (hS:S w)
  (h:cq P md ops Q S m fuel (listed.setIfInBounds i true) ⟨(l.set d v).toArray,ds⟩ w):cq P md ops Q S m (fuel + 1) listed ⟨l.toArray,ds⟩ w:=
 U_firstN hi hm (Region.noSelect_spec hs) hQ fuel listed _ w (Region.free_spec hi hf) (by simpa using hr) hy hS (by rw[hd,put_mk];exact h)
theorem U_tk (i d:Nat) (v:Value) {oi:Oper} {fuel:Nat} {listed:Array Bool} {l:List Value} {ds:List Deferred} {w:World} (hy:∀w,S w→(execOp (Act.eval ⟨l.toArray,ds⟩) oi).run P w=.ok (.value v) w) (hS:S w)
  (h:cq P md ops Q S m fuel (listed.setIfInBounds i true) ⟨(l.set d v).toArray,ds⟩ w) (hi:ops[i]?=some oi:=by rfl) (hd:oi.dst=some d:=by rfl) (hm:ops[m]?=none:=by rfl)
  (hs:Region.noSelect ops=true:=by kernel_rfl) (hf:Region.free md ops listed i=true:=by kernel_rfl) (hr:(Region.ready md ops listed).contains i=true:=by kernel_rfl)
  (hQ:∀c a w,Q (.panic c) (a.put oi.dst v) w→Q (.panic c) a w:=by exact fun _ _ _ h=>h) (hw:Region.wanted oi (yielded ops l.toArray)=true:=by rfl):cq P md ops Q S m (fuel + 1) listed ⟨l.toArray,ds⟩ w:=
 U_takeN hi hd hm hs hf hr hQ (.inl ⟨hw,hy⟩) hS h
def LB (n m:Nat):Array Bool:=((List.range n).map m.testBit).toArray
theorem bf {X:Nat→Array Bool→Act→World→Prop} {a1 a0:Act} (HX:RowKit.Hid (cq P md ops Q S m=X)) (HA:RowKit.Hid (a1=a0)) {f f':Nat} {l l':Array Bool} {a a2:Act} {w:World}
    (h:X f' l' a2 w) (hf:f=f':=by kernel_rfl) (hl:l=l':=by kernel_rfl) (ha:a=a2:=by (rw[←HA.out];simp only[LY])):cq P md ops Q S m f l a w:=by
  have e:=HX.out
  subst hf hl e ha
  exact h
theorem U_td (i d:Nat) {v:Value} {oi:Oper} {fuel:Nat} {listed:Array Bool} {l l':List Value} {ds:List Deferred} {w:World} (hS:S w)
    (h:cq P md ops Q S m fuel (listed.setIfInBounds i true) ⟨l'.toArray,ds⟩ w) (hi:ops[i]?=some oi:=by rfl) (hy:∀w,S w→(execOp (Act.eval ⟨l.toArray,ds⟩) oi).run P w=.ok (.value v) w:=by (intro w h;(try dsimp only at h);go_simp;try with_reducible rfl)) (hL:l.set d v=l':=by (simp only[LY];try rfl)) (hd:oi.dst=some d:=by rfl) (hwt:ml md ops m i=true:=by kernel_rfl)
    (hs:Region.noSelect ops=true:=by kernel_rfl) (hf:Region.free md ops listed i=true:=by kernel_rfl) (hr:(Region.ready md ops listed).contains i=true:=by kernel_rfl)
    (hQ:∀c a w,Q (.panic c) (a.put oi.dst v) w→Q (.panic c) a w:=by exact fun _ _ _ h=>h) (hw:Region.wanted oi (yielded ops l.toArray)=true:=by rfl):cq P md ops Q S m (fuel + 1) listed ⟨l.toArray,ds⟩ w:=U_takeD hi hd hwt hs hf hr hQ (.inl ⟨hw,hy⟩) hS (by subst hL;exact h)
theorem U_on (i:Nat) {o:Oper} {fuel:Nat} {listed:Array Bool} {a:Act} {w:World}
    (h:∀K':Act→World→Prop,Shut (∀a w,S w→(S w→cq P md ops Q S m fuel (listed.setIfInBounds i true) a w)→K' a w)→if Region.wanted o (yielded ops a.tmps)=true then Oper.wp P o a w K' Q else K' (a.put o.dst undef) w) (hr:Region.ready md ops listed=[i]:=by kernel_rfl) (ho:ops[i]?=some o:=by rfl):
    cq P md ops Q S m (fuel + 1) listed a w:=U_one hr ho h
theorem U_tq (i d:Nat) {v:Value} {oi:Oper} {fuel:Nat} {listed:Array Bool} {l l':List Value} {ds:List Deferred} {w:World} (hS:S w)
    (h:cq P md ops Q S m fuel (listed.setIfInBounds i true) ⟨l'.toArray,ds⟩ w) (hi:ops[i]?=some oi:=by rfl) (hy:∀w,S w→(execOp (Act.eval ⟨l.toArray,ds⟩) oi).run P w=.ok (.value v) w:=by (intro w h;(try dsimp only at h);go_simp;try with_reducible rfl)) (hL:l.set d v=l':=by (simp only[LY];try rfl)) (hd:oi.dst=some d:=by rfl) (hm:ops[m]?=none:=by rfl)
    (hs:Region.noSelect ops=true:=by kernel_rfl) (hf:Region.free md ops listed i=true:=by kernel_rfl) (hr:(Region.ready md ops listed).contains i=true:=by kernel_rfl)
    (hQ:∀c a w,Q (.panic c) (a.put oi.dst v) w→Q (.panic c) a w:=by exact fun _ _ _ h=>h) (hw:Region.wanted oi (yielded ops l.toArray)=true:=by rfl):cq P md ops Q S m (fuel + 1) listed ⟨l.toArray,ds⟩ w:=U_tk i d v hy hS (by subst hL;exact h) hi hd hm hs hf hr hQ hw
theorem ff (i d:Nat) {oi:Oper} {fuel:Nat} {listed:Array Bool} {l:List Value} {ds:List Deferred} {w:World} (hS:S w)
  (h:cq P md ops Q S m fuel (listed.setIfInBounds i true) ⟨(l.set d undef).toArray,ds⟩ w) (hi:ops[i]?=some oi:=by rfl) (hd:oi.dst=some d:=by rfl) (hm:ops[m]?=none:=by rfl)
  (hs:Region.noSelect ops=true:=by kernel_rfl) (hf:Region.free md ops listed i=true:=by kernel_rfl) (hr:(Region.ready md ops listed).contains i=true:=by kernel_rfl)
  (hQ:∀c a w,Q (.panic c) (a.put oi.dst undef) w→Q (.panic c) a w:=by exact fun _ _ _ h=>h) (hw:Region.wanted oi (yielded ops l.toArray)=false:=by rfl):cq P md ops Q S m (fuel + 1) listed ⟨l.toArray,ds⟩ w:=
 U_takeN hi hd hm hs hf hr hQ (.inr ⟨hw,rfl⟩) hS h
theorem cz (i:Nat) (v:Value) {oi:Oper} {fuel:Nat} {listed:Array Bool} {a:Act} {w:World} (hy:∀w,S w→(execOp a.eval oi).run P w=.ok (.value v) w) (hS:S w)
  (h:cq P md ops Q S m fuel (listed.setIfInBounds i true) (a.put oi.dst v) w) (hi:ops[i]?=some oi:=by rfl) (hwt:ml md ops m i=true:=by kernel_rfl)
  (hs:Region.noSelect ops=true:=by kernel_rfl) (hf:Region.free md ops listed i=true:=by kernel_rfl) (hr:(Region.ready md ops listed).contains i=true:=by kernel_rfl)
  (hQ:∀c a w,Q (.panic c) (a.put oi.dst v) w→Q (.panic c) a w:=by exact fun _ _ _ h=>h) (hw:Region.wanted oi (yielded ops a.tmps)=true:=by rfl):cq P md ops Q S m (fuel + 1) listed a w:=
 U_take hi hwt hs hf hr hQ (.inl ⟨hw,hy⟩) hS h
theorem im {fuel:Nat} {listed:Array Bool} {a:Act} {w:World} (hr:Region.ready md ops listed=[]) (h:Q .normal a w):cq P md ops Q S m fuel listed a w:=by
 cases fuel with
 | zero=>exact⟨hr,h⟩
 | succ n=>exact⟨fun _=>h,by rw[hr];simp⟩
end
end Go.Proofs.YtbnomdlojmgigaaGreat
namespace Go.Proofs.YtbnomdlojmgigaaGreat
open Go
def ua (ops:Array Oper):Bool:=ops.all fun o=>match o.op with | .defer _=>false|_=>true
theorem nc {ops:Array Oper} (h:ua ops=true) {j:Nat} {o:Oper} (hj:ops[j]?=some o):∀c,o.op≠.defer c:=by
 intro c e
 obtain⟨hlt,rfl⟩:=Array.getElem?_eq_some_iff.1 hj
 have:=Array.all_eq_true.1 h j hlt
 rw[e] at this
 cases this
section
variable {F:Fence} {n:Nat} {P:Program} {ops:Array Oper} {Q:Exit→Act→World→Prop} {md:Region.Mode} {S:World→Prop} {m:Nat}
def ic (P:Program) (ops:Array Oper) (S:World→Prop) (o:Oper) (v:Value) (a:Act):Prop:=YieldsIf P ops S o v a∧∀w,o.about P w a.eval=none
theorem ic.wpOpIn {i:Nat} {o:Oper} {v:Value} {a:Act} (hd:∀c,o.op≠.defer c) (hi:ops[i]?=some o) (hy:ic P ops S o v a)
  {K:Act→World→Prop} {w:World} (hS:S w) (h:K (a.put o.dst v) w):wpOpIn F n P ops Q i K a w:=by
 unfold Go.wpOpIn
 simp only[hi]
 have hab:∀f,o.about P w a.eval=some f→F.fn f:=fun f hf=>by rw[hy.2 w] at hf;cases hf
 rcases hy.1 with ⟨hw,hv⟩|⟨hw,rfl⟩
 ·simp only[hw,if_true,Oper.wpIn,Oper.semAt_eq F.round a.eval o hd,hv w hS,Oper.uponIn];exact⟨hab,h⟩
 ·simp only[hw,Bool.false_eq_true,if_false];exact⟨hab,h⟩
theorem ic.of_same {o:Oper} {v:Value} {a a':Act} (hy:ic P ops S o v a) (he:execOp a'.eval o=execOp a.eval o)
  (hw:Region.wanted o (yielded ops a'.tmps)=Region.wanted o (yielded ops a.tmps)) (hb:∀w,o.about P w a'.eval=o.about P w a.eval):ic P ops S o v a':=
 ⟨hy.1.of_same he hw,fun w=>by rw[hb w];exact hy.2 w⟩
theorem wpOpIn_putU {j:Nat} {oi oj:Oper} {v:Value} (hdj:∀c,oj.op≠.defer c) (hj:ops[j]?=some oj) (hap:oi.apart ops oj=true)
  (hsi:∀cs b,oi.op≠.select cs b) (hsj:∀cs b,oj.op≠.select cs b)
  (hQ:∀c a w,Q (.panic c) (a.put oi.dst v) w→Q (.panic c) a w) {K:Act→World→Prop} {a:Act} {w:World}
  (hy:ic P ops S oi v a) (h:wpOpIn F n P ops Q j K (a.put oi.dst v) w):
  wpOpIn F n P ops Q j (fun a' w'=>ic P ops S oi v a'∧K (a'.put oi.dst v) w') a w:=by
 obtain⟨h1,h2,h3⟩:=Oper.apart_spec hap
 have keep:∀(a:Act),ic P ops S oi v a→∀u,ic P ops S oi v (a.put oj.dst u):=fun a hy u=>
  hy.of_same (execOp_put oi hsi a oj.dst u h3) (wanted_put oi a oj.dst u h3) (fun w=>about_put oi w a oj.dst u h3)
 have keepD:∀d,ic P ops S oi v {a with defers:=d ::a.defers}:=fun d=>hy.of_same rfl rfl (fun _=>rfl)
 unfold wpOpIn at *
 simp only[hj] at *
 rw[wanted_put oj a oi.dst v h1,about_put oj w a oi.dst v h1] at h
 split
 ·rename_i hw
  simp only[hw,if_true] at h
  unfold Oper.wpIn at *
  rw[about_put oj w a oi.dst v h1] at h
  refine⟨h.1,?_⟩
  have h:=h.2
  rw[Oper.semAt_eq _ _ _ hdj,execOp_put oj hsj a oi.dst v h1] at h
  rw[Oper.semAt_eq _ _ _ hdj]
  generalize (execOp a.eval oj).run P w=r at *
  cases r with
  | ok x w'=>
   cases x<;>simp only[Oper.uponIn] at h ⊢
   case value u=>exact⟨keep a hy u,by rw[←Act.put_comm a v u h2];exact h⟩
   case skip=>exact⟨keep a hy _,by rw[←Act.put_comm a v undef h2];exact h⟩
   case defer d=>
    refine⟨keep _ (keepD d) _,?_⟩
    rw[←Act.put_comm _ v undef h2,←Act.put_defers]
    exact h
   case enter f args=>
    refine⟨h.1,CallsIn.mono h.2 fun e w'' he=>?_⟩
    cases e with
    | returned u=>exact⟨keep a hy u,by rw[←Act.put_comm a v u h2];exact he⟩
    | panicked c=>exact hQ _ _ _ he
    | outgrown=>exact he
   case row row args=>exact⟨h.1,RowsIn.mono h.2 fun u w'' he=>⟨keep a hy u,by rw[←Act.put_comm a v u h2];exact he⟩⟩
   case round l f tmps assign body=>
    refine⟨h.1,RoundIn.mono h.2 fun e w'' he=>?_⟩
    cases e with
    | returned u=>exact⟨keep a hy u,by rw[←Act.put_comm a v u h2];exact he⟩
    | panicked c=>exact hQ _ _ _ he
    | outgrown=>exact he
  | halt x w'=>
   cases x<;>simp only[Oper.uponIn] at h ⊢
   case panic u=>exact hQ _ _ _ h
 ·rename_i hw
  simp only[hw] at h
  exact⟨h.1,keep a hy _,by rw[←Act.put_comm a v undef h2];exact h.2⟩
def jb3 (md:Region.Mode) (ops:Array Oper) (m i:Nat):Bool:=ml md ops m i || decide (ops.size≤m)
theorem te {listed:Array Bool} {i:Nat} (hw:jb3 md ops m i=true) (hi:i∈Region.ready md ops listed):¬ m∈Region.ready md ops listed:=by
 unfold jb3 at hw
 rw[Bool.or_eq_true] at hw
 rcases hw with hw|hw
 ·exact ow hw hi
 ·intro hm
  obtain⟨_,om,hom,_⟩:=mem_ready.1 hm
  have h1:=(Array.getElem?_eq_some_iff.1 hom).1
  have h2:=of_decide_eq_true hw
  omega
def pq (F:Fence) (n:Nat) (P:Program) (md:Region.Mode) (ops:Array Oper) (Q:Exit→Act→World→Prop) (S:World→Prop) (m:Nat):Nat→Array Bool→Act→World→Prop
 | 0,listed,a,w=>Region.ready md ops listed=[]∧Q .normal a w
 | fuel + 1,listed,a,w=>
  (Region.ready md ops listed=[]→Q .normal a w)∧
  ∀i∈Region.ready md ops listed,wpOpIn F n P ops Q i (fun a' w'=>(i=m∨S w')∧pq F n P md ops Q S m fuel (listed.setIfInBounds i true) a' w') a w
theorem pq.abs {fuel:Nat} {listed:Array Bool} {a:Act} {w:World} (h:∀w',w'=w→pq F n P md ops Q S m fuel listed a w'):pq F n P md ops Q S m fuel listed a w:=h w rfl
theorem any_of_UI:∀(fuel:Nat) (listed:Array Bool) (a:Act) (w:World),pq F n P md ops Q S m fuel listed a w→wpAnyIn F n P md ops Q fuel listed a w
 | 0,_,_,_,h=>h
 | fuel + 1,_,_,_,h=>⟨h.1,fun i hi=>wpOpIn_mono (fun a' w' h'=>any_of_UI fuel _ a' w' h'.2) (h.2 i hi)⟩
theorem UI_first {i:Nat} {oi:Oper} {v:Value} (hnd:ua ops=true) (hi:ops[i]?=some oi) (hwt:jb3 md ops m i=true) (hsel:∀(j:Nat) (o:Oper) cs b,ops[j]?=some o→o.op≠.select cs b)
  (hQ:∀c a w,Q (.panic c) (a.put oi.dst v) w→Q (.panic c) a w):
  ∀(fuel:Nat) (listed:Array Bool) (a:Act) (w:World),
   (∀j oj,ops[j]?=some oj→j≠i→listed.getD j true=false→(∀e∈oj.after,Region.binds md e=true→e.on≠i)→oi.apart ops oj=true)→
   i∈Region.ready md ops listed→ic P ops S oi v a→S w→
   pq F n P md ops Q S m fuel (listed.setIfInBounds i true) (a.put oi.dst v) w→pq F n P md ops Q S m (fuel + 1) listed a w:=by
 intro fuel
 induction fuel with
 | zero=>
  intro listed a w _ hr hy hS H
  refine⟨fun h=>(by rw[h] at hr;cases hr),fun j hj=>?_⟩
  by_cases hji:j=i
  ·subst hji;exact hy.wpOpIn (nc hnd hi) hi hS ⟨.inr hS,H⟩
  ·have:=ready_mono hj hji
   rw[H.1] at this
   cases this
 | succ fuel ih=>
  intro listed a w hfree hr hy hS H
  refine⟨fun h=>(by rw[h] at hr;cases hr),fun j hj=>?_⟩
  by_cases hji:j=i
  ·subst hji;exact hy.wpOpIn (nc hnd hi) hi hS ⟨.inr hS,H⟩
  ·have hjm:j≠m:=fun e=>te hwt hr (e ▸ hj)
   have h1:=H.2 j (ready_mono hj hji)
   obtain⟨hjun,oj,hoj,hall⟩:=mem_ready.1 hj
   have hnot:∀e∈oj.after,Region.binds md e=true→e.on≠i:=fun e he hb heq=>by
    have h1:=hall e he hb
    have h0:=(mem_ready.1 hr).1
    rw[heq] at h1
    rcases Nat.lt_or_ge i listed.size with h'|h'
    ·simp[h'] at h0 h1;rw[h0] at h1;cases h1
    ·simp[Array.getElem?_eq_none h'] at h1
   have h2:=wpOpIn_putU (nc hnd hoj) hoj (hfree j oj hoj hji hjun hnot) (fun cs b=>hsel i oi cs b hi) (fun cs b=>hsel j oj cs b hoj) hQ hy h1
   have hfree':∀k ok,ops[k]?=some ok→k≠i→(listed.setIfInBounds j true).getD k true=false→
     (∀e∈ok.after,Region.binds md e=true→e.on≠i)→oi.apart ops ok=true:=fun k ok hk hki hun hno=>by
    refine hfree k ok hk hki ?_ hno
    by_cases hjk:j=k
    ·subst hjk;exact hjun
    ·rw[getD_set_ne true hjk] at hun;exact hun
   refine wpOpIn_mono (fun a' w' h3=>⟨.inr (h3.2.1.resolve_left hjm),ih (listed.setIfInBounds j true) a' w' hfree' (ready_mono hr (Ne.symm hji)) h3.1 (h3.2.1.resolve_left hjm) ?_⟩) h2
   rw[Array.setIfInBounds_comm _ _ hji]
   exact h3.2.2
theorem jq {i:Nat} {oi:Oper} {v:Value} {fuel:Nat} {listed:Array Bool} {a:Act} {w:World} (hnd:ua ops=true) (hi:ops[i]?=some oi) (hwt:jb3 md ops m i=true)
  (hs:Region.noSelect ops=true) (hf:Region.free md ops listed i=true) (hr:(Region.ready md ops listed).contains i=true)
  (hQ:∀c a w,Q (.panic c) (a.put oi.dst v) w→Q (.panic c) a w) (hy:YieldsIf P ops S oi v a) (hab:∀w,oi.about P w a.eval=none) (hS:S w)
  (h:pq F n P md ops Q S m fuel (listed.setIfInBounds i true) (a.put oi.dst v) w):pq F n P md ops Q S m (fuel + 1) listed a w:=
 UI_first hnd hi hwt (Region.noSelect_spec hs) hQ fuel listed a w (Region.free_spec hi hf) (by simpa using hr) ⟨hy,hab⟩ hS h
theorem wpOpIn_one {i:Nat} {o:Oper} {a:Act} {w:World} {K:Act→World→Prop} (ho:ops[i]?=some o)
  (h:∀K':Act→World→Prop,(∀a w,K a w→K' a w)→if Region.wanted o (yielded ops a.tmps)=true then o.wpIn F n P a w K' Q else (∀f,o.about P w a.eval=some f→F.fn f)∧K' (a.put o.dst undef) w):wpOpIn F n P ops Q i K a w:=by
 unfold wpOpIn
 simp only[ho]
 exact h K (fun _ _ h=>h)
theorem UI_one {i:Nat} {o:Oper} {fuel:Nat} {listed:Array Bool} {a:Act} {w:World} (hr:Region.ready md ops listed=[i]) (ho:ops[i]?=some o)
  (h:∀K':Act→World→Prop,Shut (∀a w,S w→(S w→pq F n P md ops Q S m fuel (listed.setIfInBounds i true) a w)→K' a w)→if Region.wanted o (yielded ops a.tmps)=true then o.wpIn F n P a w K' Q else (∀f,o.about P w a.eval=some f→F.fn f)∧K' (a.put o.dst undef) w):
  pq F n P md ops Q S m (fuel + 1) listed a w:=by
 refine⟨fun h0=>(by rw[h0] at hr;cases hr),fun j hj=>?_⟩
 rw[hr] at hj
 simp only[List.mem_singleton] at hj
 subst hj
 exact wpOpIn_one ho (fun K' hK=>h K' (fun a w hS hW=>hK a w ⟨.inr hS,hW hS⟩))
theorem UI_end {fuel:Nat} {listed:Array Bool} {a:Act} {w:World} (hr:Region.ready md ops listed=[]) (h:Q .normal a w):pq F n P md ops Q S m fuel listed a w:=by
 cases fuel with
 | zero=>exact⟨hr,h⟩
 | succ n=>exact⟨fun _=>h,by rw[hr];simp⟩
theorem UI_region {id:Nat} {a:Act} {w:World} (hm:P.follows .mixedOrders=true) (m:Nat)
  (h:pq F n P .any ops Q S m ops.size (Array.replicate ops.size false) a w.drew):(Code.region id ops true).wpIn F n P Q a w:=
 wpIn_region_any hm (any_of_UI _ _ _ _ h)
end
end Go.Proofs.YtbnomdlojmgigaaGreat
namespace Go.Proofs.YtbnomdlojmgigaaGreat
open Go Go.RowKit
section
variable {F:Fence} {n:Nat} {P:Program}
end
section
variable {P:Program} {ops:Array Oper} {Q:Exit→Act→World→Prop} {md:Region.Mode} {S:World→Prop} {m l n:Nat}
theorem rows_wide {row:String} {args:Array Value} {w:World} {R:Value→World→Prop} (h:_root_.Go.Rows P row args w R):RowsIn (Fence.wide.inRound l) n P row args w R:=
 by
 intro c cs _
 obtain⟨v,w',r,s⟩:=h c cs
 exact⟨v,w',r,stepsIn_wide.2 s⟩
theorem upon_in {o:Oper} {a:Act} {next:Act→World→Prop} {r:Result Next} (h:o.upon P a next Q r):o.uponIn (Fence.wide.inRound l) n P a next Q r:=by
 cases r with
 | ok x w'=>
  cases x
  case value v=>exact h
  case skip=>exact h
  case defer d=>exact h
  case enter f args=>exact⟨fun e=>(by cases e),(callsIn_wide.2 h).inRound l⟩
  case row row args=>exact⟨fun e=>(by cases e),rows_wide h⟩
  all_goals exact h.elim
 | halt x w'=>cases x<;>exact h
theorem wpOp_in (hd:ua ops=true) (hQ:∀a w,¬ Q .outgrown a w) {i:Nat} {K:Act→World→Prop} {a:Act} {w:World} (h:wpOp P ops Q i K a w):
  wpOpIn (Fence.wide.inRound l) n P ops Q i K a w:=by
 unfold wpOp at h
 unfold wpOpIn
 cases ho:ops[i]? with
 | none=>simp only[ho] at h ⊢;exact h
 | some o=>
  simp only[ho] at h ⊢
  split
  ·rename_i hw
   simp only[hw,if_true] at h
   rcases h with h|⟨_,a',w',hx⟩
   ·refine⟨fun _ _=>trivial,?_⟩
    rw[Oper.semAt_eq _ _ _ (nc hd ho)]
    exact upon_in h
   ·exact (hQ _ _ hx).elim
  ·rename_i hw
   simp only[hw] at h
   exact⟨fun _ _=>trivial,h⟩
theorem wpAny_in (hd:ua ops=true) (hQ:∀a w,¬ Q .outgrown a w):∀(fuel:Nat) (listed:Array Bool) (a:Act) (w:World),
  wpAny P md ops Q fuel listed a w→wpAnyIn (Fence.wide.inRound l) n P md ops Q fuel listed a w
 | 0,_,_,_,h=>h
 | fuel + 1,_,_,_,h=>⟨h.1,fun i hi=>wpOpIn_mono (fun a' w' h'=>wpAny_in hd hQ fuel _ a' w' h') (wpOp_in hd hQ (h.2 i hi))⟩
theorem jb5 {id:Nat} {a:Act} {w:World} (hd:ua ops=true) (hQ:∀a w,¬ Q .outgrown a w) (hm:P.follows .mixedOrders=true) (m:Nat)
  (h:cq P .any ops Q S m ops.size (Array.replicate ops.size false) a w.drew):(Code.region id ops true).wpIn (Fence.wide.inRound l) n P Q a w:=
 wpIn_region_any hm (wpAny_in hd hQ _ _ _ _ (jb7 _ _ _ _ h))
end
end Go.Proofs.YtbnomdlojmgigaaGreat
