/-
  A region that draws its order: three operations may come up, none the last one. No function of the program is in sight here.
-/
import Derived.Test.YtidmjdmmpajooaaGreatPkW10W
import Derived.Test.YtidmjdmmpajooaaGreatPkW1W
import Derived.Lib.AppendZerosOnto
import Derived.Lib.SliceRun
import Derived.Handy
import Derived.Deep.AppendLies
import Derived.RangeFuncOwn
set_option linter.unusedSimpArgs false
set_option linter.unusedVariables false
namespace Go.Proofs.YtidmjdmmpajooaaGreat
open Go
theorem put_mk (l:List Value) (ds:List Deferred) (d:Nat) (v:Value):Act.put ⟨l.toArray,ds⟩ (some d) v=⟨(l.set d v).toArray,ds⟩:=by
 simp only[Act.put,List.setIfInBounds_toArray]
theorem LY:(∀(l:List Value) (ds:List Deferred) (d:Nat) (v:Value),Act.put ⟨l.toArray,ds⟩ (some d) v=⟨(l.set d v).toArray,ds⟩)∧(∀(x v:Value) (l:List Value),(x ::l).set 0 v=v ::l)∧(∀(x v:Value) (l:List Value) (n:Nat),(x ::l).set (n + 1) v=x ::l.set n v):=
 ⟨put_mk,fun _ _ _=>rfl,fun _ _ _ _=>rfl⟩
theorem aq {B:Nat} {w0 W:World} {t:TypeId} {cs:Array Value} {p:World→Prop} (hs:RowKit.Below B w0 W) (h:∀W1,RowKit.Below W.heap.size W W1→Bx W1 W.heap.size t cs→w0.heap.size≤W.heap.size→p W1):p (W.alloc (.cells cs t)):=
 h _ ((RowKit.Below.refl _ _).alloc (ag _) _) (Bx.new _ _ _) hs.size
section
variable {P:Program} {ops:Array Oper} {Q:Exit→Act→World→Prop} {md:Region.Mode} {S:World→Prop} {m:Nat}
theorem jv {i j k:Nat} {oi oj ok:Oper} {fuel:Nat} {listed:Array Bool} {a:Act} {w:World} (hr:Region.ready md ops listed=[i,j,k]) (hi:ops[i]?=some oi) (hj:ops[j]?=some oj) (hk:ops[k]?=some ok)
  (h1:∀K':Act→World→Prop,Shut (∀a w,S w→(S w→cq P md ops Q S m fuel (listed.setIfInBounds i true) a w)→K' a w)→if Region.wanted oi (yielded ops a.tmps)=true then Oper.wp P oi a w K' Q else K' (a.put oi.dst undef) w)
  (h2:∀K':Act→World→Prop,Shut (∀a w,S w→(S w→cq P md ops Q S m fuel (listed.setIfInBounds j true) a w)→K' a w)→if Region.wanted oj (yielded ops a.tmps)=true then Oper.wp P oj a w K' Q else K' (a.put oj.dst undef) w)
  (h3:∀K':Act→World→Prop,Shut (∀a w,S w→(S w→cq P md ops Q S m fuel (listed.setIfInBounds k true) a w)→K' a w)→if Region.wanted ok (yielded ops a.tmps)=true then Oper.wp P ok a w K' Q else K' (a.put ok.dst undef) w):
  cq P md ops Q S m (fuel + 1) listed a w:=by
 refine⟨fun h0=>(by rw[h0] at hr;cases hr),fun x hx=>?_⟩
 rw[hr] at hx
 simp only[List.mem_cons,List.mem_nil_iff,or_false] at hx
 rcases hx with rfl|rfl|rfl
 ·exact wpOp_step hi (fun K' hK=>h1 K' (fun a w hS hW=>hK a w ⟨.inr hS,hW hS⟩))
 ·exact wpOp_step hj (fun K' hK=>h2 K' (fun a w hS hW=>hK a w ⟨.inr hS,hW hS⟩))
 ·exact wpOp_step hk (fun K' hK=>h3 K' (fun a w hS hW=>hK a w ⟨.inr hS,hW hS⟩))
theorem U_takeD {i d:Nat} {oi:Oper} {v:Value} {fuel:Nat} {listed:Array Bool} {l:List Value} {ds:List Deferred} {w:World} (hi:ops[i]?=some oi) (hd:oi.dst=some d) (hwt:ml md ops m i=true)
  (hs:Region.noSelect ops=true) (hf:Region.free md ops listed i=true) (hr:(Region.ready md ops listed).contains i=true)
  (hQ:∀c a w,Q (.panic c) (a.put oi.dst v) w→Q (.panic c) a w) (hy:YieldsIf P ops S oi v ⟨l.toArray,ds⟩) (hS:S w)
  (h:cq P md ops Q S m fuel (listed.setIfInBounds i true) ⟨(l.set d v).toArray,ds⟩ w):cq P md ops Q S m (fuel + 1) listed ⟨l.toArray,ds⟩ w:=
 U_take hi hwt hs hf hr hQ hy hS (by rw[hd,put_mk];exact h)
theorem ks {fuel:Nat} {listed:Array Bool} {a:Act} {w:World} (h:∀(X:Nat→Array Bool→Act→World→Prop) (a0:Act),RowKit.Hid (cq P md ops Q S m=X)→RowKit.Hid (a=a0)→X fuel listed a0 w):cq P md ops Q S m fuel listed a w:=
 h _ _ (ae rfl) (ae rfl)
theorem U_at {f f':Nat} {l l':Array Bool} {a:Act} {w:World} (hf:f=f') (hl:l=l') (h:cq P md ops Q S m f' l' a w):cq P md ops Q S m f l a w:=by subst hf hl;exact h
end
end Go.Proofs.YtidmjdmmpajooaaGreat
namespace Go.Proofs.YtidmjdmmpajooaaGreat
open Go
section
variable {P:Program} {ops:Array Oper} {Q:Exit→Act→World→Prop} {md:Region.Mode} {S:World→Prop} {m:Nat}
theorem U_firstN {i:Nat} {oi:Oper} {v:Value} (hi:ops[i]?=some oi) (hm:ops[m]?=none) (hsel:∀(j:Nat) (o:Oper) cs b,ops[j]?=some o→o.op≠.select cs b)
  (hQ:∀c a w,Q (.panic c) (a.put oi.dst v) w→Q (.panic c) a w):
  ∀(fuel:Nat) (listed:Array Bool) (a:Act) (w:World),
   (∀j oj,ops[j]?=some oj→j≠i→listed.getD j true=false→(∀e∈oj.after,Region.binds md e=true→e.on≠i)→oi.apart ops oj=true)→
   i∈Region.ready md ops listed→YieldsIf P ops S oi v a→S w→
   cq P md ops Q S m fuel (listed.setIfInBounds i true) (a.put oi.dst v) w→cq P md ops Q S m (fuel + 1) listed a w:=by
 intro fuel
 induction fuel with
 | zero=>
  intro listed a w _ hr hy hS H
  refine⟨fun h=>(by rw[h] at hr;cases hr),fun j hj=>?_⟩
  by_cases hji:j=i
  ·subst hji;exact hy.wpOp hi hS ⟨.inr hS,H⟩
  ·have:=ready_mono hj hji
   rw[H.1] at this
   cases this
 | succ fuel ih=>
  intro listed a w hfree hr hy hS H
  refine⟨fun h=>(by rw[h] at hr;cases hr),fun j hj=>?_⟩
  by_cases hji:j=i
  ·subst hji;exact hy.wpOp hi hS ⟨.inr hS,H⟩
  ·have h1:=H.2 j (ready_mono hj hji)
   obtain⟨hjun,oj,hoj,hall⟩:=mem_ready.1 hj
   have hjm:j≠m:=fun e=>by subst e;rw[hm] at hoj;cases hoj
   have hnot:∀e∈oj.after,Region.binds md e=true→e.on≠i:=fun e he hb heq=>by
    have h1:=hall e he hb
    have h0:=(mem_ready.1 hr).1
    rw[heq] at h1
    rcases Nat.lt_or_ge i listed.size with h'|h'
    ·simp[h'] at h0 h1;rw[h0] at h1;cases h1
    ·simp[Array.getElem?_eq_none h'] at h1
   have h2:=wpOp_putIf hoj (hfree j oj hoj hji hjun hnot) (fun cs b=>hsel i oi cs b hi) (fun cs b=>hsel j oj cs b hoj) hQ hy h1
   have hfree':∀k ok,ops[k]?=some ok→k≠i→(listed.setIfInBounds j true).getD k true=false→
     (∀e∈ok.after,Region.binds md e=true→e.on≠i)→oi.apart ops ok=true:=fun k ok hk hki hun hno=>by
    refine hfree k ok hk hki ?_ hno
    by_cases hjk:j=k
    ·subst hjk;exact hjun
    ·rw[getD_set_ne true hjk] at hun;exact hun
   refine wpOp_mono (fun a' w' h3=>⟨.inr (h3.2.1.resolve_left hjm),ih (listed.setIfInBounds j true) a' w' hfree' (ready_mono hr (Ne.symm hji)) h3.1 (h3.2.1.resolve_left hjm) ?_⟩) h2
   rw[Array.setIfInBounds_comm _ _ hji]
   exact h3.2.2
theorem U_takeN {i d:Nat} {oi:Oper} {v:Value} {fuel:Nat} {listed:Array Bool} {l:List Value} {ds:List Deferred} {w:World} (hi:ops[i]?=some oi) (hd:oi.dst=some d) (hm:ops[m]?=none)
  (hs:Region.noSelect ops=true) (hf:Region.free md ops listed i=true) (hr:(Region.ready md ops listed).contains i=true)
  (hQ:∀c a w,Q (.panic c) (a.put oi.dst v) w→Q (.panic c) a w) (hy:YieldsIf P ops S oi v ⟨l.toArray,ds⟩) (hS:S w)
  (h:cq P md ops Q S m fuel (listed.setIfInBounds i true) ⟨(l.set d v).toArray,ds⟩ w):cq P md ops Q S m (fuel + 1) listed ⟨l.toArray,ds⟩ w:=
 U_firstN hi hm (Region.noSelect_spec hs) hQ fuel listed _ w (Region.free_spec hi hf) (by simpa using hr) hy hS (by rw[hd,put_mk];exact h)
theorem U_tk (i d:Nat) (v:Value) {oi:Oper} {fuel:Nat} {listed:Array Bool} {l:List Value} {ds:List Deferred} {w:World} (hy:∀w,S w→(execOp (Act.eval ⟨l.toArray,ds⟩) oi).run P w=.ok (.value v) w) (hS:S w)
  (h:cq P md ops Q S m fuel (listed.setIfInBounds i true) ⟨(l.set d v).toArray,ds⟩ w) (hi:ops[i]?=some oi:=by rfl) (hd:oi.dst=some d:=by rfl) (hm:ops[m]?=none:=by rfl)
  (hs:Region.noSelect ops=true:=by kernel_rfl) (hf:Region.free md ops listed i=true:=by kernel_rfl) (hr:(Region.ready md ops listed).contains i=true:=by kernel_rfl)
  (hQ:∀c a w,Q (.panic c) (a.put oi.dst v) w→Q (.panic c) a w:=by exact fun _ _ _ h=>h) (hw:Region.wanted oi (yielded ops l.toArray)=true:=by rfl):cq P md ops Q S m (fuel + 1) listed ⟨l.toArray,ds⟩ w:=
 U_takeN hi hd hm hs hf hr hQ (.inl ⟨hw,hy⟩) hS h
def LB (n m:Nat):Array Bool:=((List.range n).map m.testBit).toArray
theorem bf {X:Nat→Array Bool→Act→World→Prop} {a1 a0:Act} (HX:RowKit.Hid (cq P md ops Q S m=X)) (HA:RowKit.Hid (a1=a0)) {f f':Nat} {l l':Array Bool} {a a2:Act} {w:World}
    (h:X f' l' a2 w) (hf:f=f':=by kernel_rfl) (hl:l=l':=by kernel_rfl) (ha:a=a2:=by (rw[←HA.out];simp only[LY])):cq P md ops Q S m f l a w:=by
  have e:=HX.out
  subst hf hl e ha
  exact h
theorem U_td (i d:Nat) {v:Value} {oi:Oper} {fuel:Nat} {listed:Array Bool} {l l':List Value} {ds:List Deferred} {w:World} (hS:S w)
    (h:cq P md ops Q S m fuel (listed.setIfInBounds i true) ⟨l'.toArray,ds⟩ w) (hi:ops[i]?=some oi:=by rfl) (hy:∀w,S w→(execOp (Act.eval ⟨l.toArray,ds⟩) oi).run P w=.ok (.value v) w:=by (intro w h;(try dsimp only at h);go_simp;try with_reducible rfl)) (hL:l.set d v=l':=by (simp only[LY];try rfl)) (hd:oi.dst=some d:=by rfl) (hwt:ml md ops m i=true:=by kernel_rfl)
    (hs:Region.noSelect ops=true:=by kernel_rfl) (hf:Region.free md ops listed i=true:=by kernel_rfl) (hr:(Region.ready md ops listed).contains i=true:=by kernel_rfl)
    (hQ:∀c a w,Q (.panic c) (a.put oi.dst v) w→Q (.panic c) a w:=by exact fun _ _ _ h=>h) (hw:Region.wanted oi (yielded ops l.toArray)=true:=by rfl):cq P md ops Q S m (fuel + 1) listed ⟨l.toArray,ds⟩ w:=U_takeD hi hd hwt hs hf hr hQ (.inl ⟨hw,hy⟩) hS (by subst hL;exact h)
theorem U_on (i:Nat) {o:Oper} {fuel:Nat} {listed:Array Bool} {a:Act} {w:World}
    (h:∀K':Act→World→Prop,Shut (∀a w,S w→(S w→cq P md ops Q S m fuel (listed.setIfInBounds i true) a w)→K' a w)→if Region.wanted o (yielded ops a.tmps)=true then Oper.wp P o a w K' Q else K' (a.put o.dst undef) w) (hr:Region.ready md ops listed=[i]:=by kernel_rfl) (ho:ops[i]?=some o:=by rfl):
    cq P md ops Q S m (fuel + 1) listed a w:=U_one hr ho h
theorem U_tq (i d:Nat) {v:Value} {oi:Oper} {fuel:Nat} {listed:Array Bool} {l l':List Value} {ds:List Deferred} {w:World} (hS:S w)
    (h:cq P md ops Q S m fuel (listed.setIfInBounds i true) ⟨l'.toArray,ds⟩ w) (hi:ops[i]?=some oi:=by rfl) (hy:∀w,S w→(execOp (Act.eval ⟨l.toArray,ds⟩) oi).run P w=.ok (.value v) w:=by (intro w h;(try dsimp only at h);go_simp;try with_reducible rfl)) (hL:l.set d v=l':=by (simp only[LY];try rfl)) (hd:oi.dst=some d:=by rfl) (hm:ops[m]?=none:=by rfl)
    (hs:Region.noSelect ops=true:=by kernel_rfl) (hf:Region.free md ops listed i=true:=by kernel_rfl) (hr:(Region.ready md ops listed).contains i=true:=by kernel_rfl)
    (hQ:∀c a w,Q (.panic c) (a.put oi.dst v) w→Q (.panic c) a w:=by exact fun _ _ _ h=>h) (hw:Region.wanted oi (yielded ops l.toArray)=true:=by rfl):cq P md ops Q S m (fuel + 1) listed ⟨l.toArray,ds⟩ w:=U_tk i d v hy hS (by subst hL;exact h) hi hd hm hs hf hr hQ hw
theorem ff (i d:Nat) {oi:Oper} {fuel:Nat} {listed:Array Bool} {l:List Value} {ds:List Deferred} {w:World} (hS:S w)
  (h:cq P md ops Q S m fuel (listed.setIfInBounds i true) ⟨(l.set d undef).toArray,ds⟩ w) (hi:ops[i]?=some oi:=by rfl) (hd:oi.dst=some d:=by rfl) (hm:ops[m]?=none:=by rfl)
  (hs:Region.noSelect ops=true:=by kernel_rfl) (hf:Region.free md ops listed i=true:=by kernel_rfl) (hr:(Region.ready md ops listed).contains i=true:=by kernel_rfl)
  (hQ:∀c a w,Q (.panic c) (a.put oi.dst undef) w→Q (.panic c) a w:=by exact fun _ _ _ h=>h) (hw:Region.wanted oi (yielded ops l.toArray)=false:=by rfl):cq P md ops Q S m (fuel + 1) listed ⟨l.toArray,ds⟩ w:=
 U_takeN hi hd hm hs hf hr hQ (.inr ⟨hw,rfl⟩) hS h
theorem cz (i:Nat) (v:Value) {oi:Oper} {fuel:Nat} {listed:Array Bool} {a:Act} {w:World} (hy:∀w,S w→(execOp a.eval oi).run P w=.ok (.value v) w) (hS:S w)
  (h:cq P md ops Q S m fuel (listed.setIfInBounds i true) (a.put oi.dst v) w) (hi:ops[i]?=some oi:=by rfl) (hwt:ml md ops m i=true:=by kernel_rfl)
  (hs:Region.noSelect ops=true:=by kernel_rfl) (hf:Region.free md ops listed i=true:=by kernel_rfl) (hr:(Region.ready md ops listed).contains i=true:=by kernel_rfl)
  (hQ:∀c a w,Q (.panic c) (a.put oi.dst v) w→Q (.panic c) a w:=by exact fun _ _ _ h=>h) (hw:Region.wanted oi (yielded ops a.tmps)=true:=by rfl):cq P md ops Q S m (fuel + 1) listed a w:=
 U_take hi hwt hs hf hr hQ (.inl ⟨hw,hy⟩) hS h
theorem im {fuel:Nat} {listed:Array Bool} {a:Act} {w:World} (hr:Region.ready md ops listed=[]) (h:Q .normal a w):cq P md ops Q S m fuel listed a w:=by
 cases fuel with
 | zero=>exact⟨hr,h⟩
 | succ n=>exact⟨fun _=>h,by rw[hr];simp⟩
end
end Go.Proofs.YtidmjdmmpajooaaGreat
namespace Go.Proofs.YtidmjdmmpajooaaGreat
open Go.RowKit Dg
attribute [local go_sem ↓] Go.wp_at_zero Go.wp_at_succ
end Go.Proofs.YtidmjdmmpajooaaGreat
namespace Go.Proofs.YtidmjdmmpajooaaGreat
open Go.RowKit Dg
attribute [local go_sem ↓] Go.wp_at_zero Go.wp_at_succ
end Go.Proofs.YtidmjdmmpajooaaGreat
namespace Go.Proofs.YtidmjdmmpajooaaGreat
open Go.RowKit Dg
attribute [local go_sem ↓] Go.wp_at_zero Go.wp_at_succ
theorem PC.one {w:World} {cs:List Value} {x:Rat} (h:PC w cs x):cs.length=3∧∀u∈cs,u.oneCell'=true:=by
 obtain⟨g,a,n,c,A,N,D,rfl,_⟩:=h.cells
 refine⟨rfl,fun u hu=>?_⟩
 simp only[List.mem_cons,List.mem_nil_iff,or_false] at hu
 rcases hu with rfl|rfl|rfl<;>rfl
theorem choose_lt' {Q:Nat→List Value→Prop} {n:Nat} (h:∀i,i < n→∃y,Q i y):∃f:Nat→List Value,∀i,i < n→Q i (f i):=by
 refine⟨fun i=>if hi:i < n then Classical.choose (h i hi) else [],fun i hi=>?_⟩
 show Q i (if hi:i < n then Classical.choose (h i hi) else [])
 rw[dif_pos hi]
 exact Classical.choose_spec (h i hi)
theorem cw.base {α:Type} {base base' size:Nat} {T:TypeId} {R:World→List Value→α→Prop} {w:World} {v:Value} {l:List α} (h:cw base T size R w v l) (hb:base'≤base):cw base' T size R w v l:=by
 obtain⟨css,h1,h2,h3,e1,e2⟩:=h
 refine⟨css,h1,h2,h3,e1,?_⟩
 rcases e2 with e2|⟨g,cap,cur,rfl,hb',r⟩
 ·exact .inl e2
 exact .inr ⟨g,cap,cur,rfl,Nat.le_trans hb hb',r⟩
end Go.Proofs.YtidmjdmmpajooaaGreat
namespace Go.Proofs.YtidmjdmmpajooaaGreat
open Go Go.RowKit Dg
theorem rows_flatG {α:Type} {size:Nat} {T:TypeId} {R:World→List Value→α→Prop} (hz:0 < size) (hone:∀(w:World) (cs:List Value) (x:α),R w cs x→∀u∈cs,u.oneCell'=true) {w:World} {b o n c:Nat} {l:List α} (h:Rows size T R w (.slice (some ⟨b,o,none⟩) n c) l):
  ∃css:List (List Value),css.length=l.length∧(∀cs∈css,cs.length=size)∧(∀(i:Nat) (cs:List Value) (x:α),css[i]?=some cs→l[i]?=some x→R w cs x)∧
  (∀u∈css.flatten,u.oneCell'=true)∧∀j u,css.flatten[j]?=some u→w.cell? ((⟨b,o,none⟩:Addr).add j)=some u:=by
 have hall:∀i,i < l.length→∃cs:List Value,cs.length=size∧jp w b (o + i * size) cs∧∀x,l[i]?=some x→R w cs x:=fun i hi=>by
  obtain⟨b',o',c',cs,hv,hl,hat,hc⟩:=h.get (List.getElem?_eq_getElem hi)
  obtain⟨e,rfl⟩:=yk hv
  injection e with e
  injection e with e1 e2
  subst e1 e2
  exact⟨cs,hl,hat,fun x hx=>by rw[List.getElem?_eq_getElem hi] at hx;cases hx;exact hc⟩
 obtain⟨f,hf⟩:=choose_lt' hall
 have hg:∀(i:Nat) (cs:List Value),((List.range l.length).map f)[i]?=some cs→i < l.length∧cs=f i:=fun i cs hc=>by
  rw[List.getElem?_map] at hc
  by_cases hi:i < l.length
  ·rw[List.getElem?_range hi] at hc
   simp only[Option.map_some,Option.some.injEq] at hc
   exact⟨hi,hc.symm⟩
  ·rw[List.getElem?_eq_none (by simpa using hi)] at hc
   cases hc
 have h3:∀cs∈(List.range l.length).map f,cs.length=size:=fun cs hcs=>by
  obtain⟨i,hi,rfl⟩:=List.mem_map.1 hcs
  exact (hf i (List.mem_range.1 hi)).1
 refine⟨(List.range l.length).map f,by simp,h3,fun i cs x hc hx=>?_,fun u hu=>?_,fun j u hu=>?_⟩
 ·obtain⟨hi,rfl⟩:=hg i cs hc
  exact (hf i hi).2.2 x hx
 ·obtain⟨cs,hcs,hu⟩:=List.mem_flatten.1 hu
  obtain⟨i,hi,rfl⟩:=List.mem_map.1 hcs
  have hi:=List.mem_range.1 hi
  exact hone _ _ _ ((hf i hi).2.2 _ (List.getElem?_eq_getElem hi)) u hu
 ·have hj:j < l.length * size:=by
   have h1:=(List.getElem?_eq_some_iff.1 hu).1
   rw[dz _ h3] at h1
   simpa using h1
  have hm:=Nat.mod_lt j hz
  have hd:=Nat.div_add_mod j size
  rw[Nat.mul_comm] at hd
  have hi:j / size < l.length:=Nat.div_lt_of_lt_mul (by rw[Nat.mul_comm];exact hj)
  have e:=js _ h3 (j / size) (j % size) (f (j / size)) (by rw[List.getElem?_map,List.getElem?_range hi];rfl) hm
  rw[hd,hu] at e
  have:=(hf (j / size) hi).2.1 (j % size) u e.symm
  rw[iy]
  rw[Nat.add_assoc,hd] at this
  exact this
theorem cw.pushG {α:Type} {base size:Nat} {T:TypeId} {R:World→List Value→α→Prop} (hR:ir R) {w w':World} {l m:List α} {css dss:List (List Value)} (h1:css.length=l.length) (h2:∀cs∈css,cs.length=size) (h3:∀(i:Nat) (cs:List Value) (x:α),css[i]?=some cs→l[i]?=some x→R w cs x)
  (d1:dss.length=m.length) (d2:∀cs∈dss,cs.length=size) (d3:∀(i:Nat) (cs:List Value) (x:α),dss[i]?=some cs→m[i]?=some x→R w cs x) {v':Value}
  (hown:w'.ownsRow base T size v' (l.length + m.length) (css.flatten ++ dss.flatten)) (hk:aw w w'):cw base T size R w' v' (l ++ m):=by
 refine⟨css ++ dss,by simp[h1,d1],?_,?_,?_⟩
 ·intro c hc
  rcases List.mem_append.1 hc with h|h
  ·exact h2 c h
  ·exact d2 c h
 ·intro i c y hc hy
  by_cases hi:i < l.length
  ·rw[List.getElem?_append_left (by omega)] at hc
   rw[List.getElem?_append_left hi] at hy
   exact hR _ _ _ _ (h3 i c y hc hy) hk
  ·rw[List.getElem?_append_right (by omega),h1] at hc
   rw[List.getElem?_append_right (by omega)] at hy
   exact hR _ _ _ _ (d3 _ c y hc hy) hk
 ·rw[List.length_append,List.flatten_append];exact hown
theorem zx {α:Type} {P:Program} {base size bytes:Nat} {T t ty:TypeId} {i:TypeInfo} {z:Value} {R:World→List Value→α→Prop} (hR:ir R) (hone:∀(w:World) (cs:List Value) (x:α),R w cs x→∀u∈cs,u.oneCell'=true) (hT:T≠95∧T≠152)
  (ht:P.underlying t=some (.slice T)) (hi:P.info? T=some i) (hz:i.zero=some z) (hsize:i.size=size) (hby:i.bytes=bytes) (hzs:z.cells.size=size) (hsz:0 < size)
  {w:World} {v x:Value} {l m:List α} (hO:cw base T size R w v l) (hX:Rows size T R w x m) (h63:l.length + m.length≤maxLen) (hbytes:(l.length + m.length) * bytes≤140737488355328) (hbase:base≤w.heap.size):
  ∃v' w',(Builtin.append_ #[t,t] ty #[v,x]).run P w=.ok v' w'∧cw base T size R w' v' (l ++ m)∧Below base w w'∧dg T w w':=by
 by_cases hm:m.length=0
 ·obtain rfl:m=[]:=List.length_eq_zero_iff.1 hm
  obtain⟨ao,c,rfl, -, -, -⟩:=hX.slice
  obtain⟨a1,c1,rfl,hc1, -,hc3⟩:=hO.slice
  refine⟨_,w,?_,by rw[List.append_nil];exact hO,Below.refl _ _,dg.refl _ _⟩
  have hfc:(Builtin.firstCells size 0 (.slice ao 0 c)).run P w=.ok #[] w:=by
   cases ao with
   | none=>exact run_firstCells_none w _ _ _ _
   | some ad=>exact run_firstCells_some w size 0 ad 0 c [] (by simp) (by simp)
  have hso:(sizeOf T).run P w=.ok size w:=by rw[←hsize];simp[sizeOf,typeInfo,hi]
  cases a1 with
  | none=>simp[Builtin.append_,run_underlying ht,hso,hfc,Builtin.lenOf,hc1]
  | some ad=>simp[Builtin.append_,run_underlying ht,hso,hfc,Builtin.lenOf,hc1,storeCells]
 ·obtain⟨b,o,c,rfl, -, -, -⟩:=hX.open_ (by omega)
  obtain⟨css,h1,h2,h3,h4⟩:=hO
  obtain⟨dss,d1,d2,d3,d4,d5⟩:=rows_flatG hsz hone hX
  obtain⟨g,cap,w',hr,k1,k2,k3,k4⟩:=run_append_lies (P:=P) w t ty base T i z size bytes ht hi hz hsize hby hzs hsz v l.length _ h4 ⟨b,o,none⟩ m.length c dss.flatten (by rw[dz _ d2,d1]) d5 d4 (by omega) h63 hbytes hbase _ rfl
  exact⟨_,w',hr,cw.pushG hR h1 h2 h3 d1 d2 d3 k1 (aw.owns h4 k2 hT),(Below.refl base w).grown k2 hbase (fun k hk=>(h4.lt k hk).1),iu h4 k2⟩
theorem jg1 {α:Type} {P:Program} {o:Oper} {a:Act} {K:Act→World→Prop} {Q:Exit→Act→World→Prop} (s y:Operand) {base size bytes:Nat} {T t:TypeId} {i:TypeInfo} {z:Value} {R:World→List Value→α→Prop} (hR:ir R) (hone:∀(w:World) (cs:List Value) (x:α),R w cs x→∀u∈cs,u.oneCell'=true) (hT:T≠95∧T≠152)
  (ho:o.op=.call {callee:=.builtin .append,args:=#[s,y],argTypes:=#[t,t]})
  (ht:P.underlying t=some (.slice T)) (hi:P.info? T=some i) (hz:i.zero=some z) (hsize:i.size=size) (hby:i.bytes=bytes) (hzs:z.cells.size=size) (hsz:0 < size)
  {w:World} {v x:Value} {l m:List α} (hs:a.eval s=v) (hx:a.eval y=x) (hO:cw base T size R w v l) (hX:Rows size T R w x m) (h63:l.length + m.length≤maxLen) (hbytes:(l.length + m.length) * bytes≤140737488355328) (hbase:base≤w.heap.size)
  (h:∀v' w',cw base T size R w' v' (l ++ m)→Below base w w'→dg T w w'→K (a.put o.dst v') w'):o.wp P a w K Q:=by
 obtain⟨v',w',hr,h2,h3,h4⟩:=zx (P:=P) (t:=t) (ty:=o.type) hR hone hT ht hi hz hsize hby hzs hsz hO hX h63 hbytes hbase
 unfold Oper.wp execOp
 simp only[ho,resolve,invoke,builtin,Sem.run_bind,Sem.run_pure,Result.andThen_ok,List.map_toArray,List.map_cons,List.map_nil,hs,hx,hr]
 exact h v' w' h2 h3 h4
end Go.Proofs.YtidmjdmmpajooaaGreat
namespace Go.Proofs.YtidmjdmmpajooaaGreat
abbrev Pt:=Int × Int
def ptZ (l:List Pt) (i:Nat):Pt:=l.getD i (0,0)
def crZ (a b:Pt):Int:=a.1 * b.2 - a.2 * b.1
def dtZ (a b:Pt):Int:=a.1 * b.1 + a.2 * b.2
def mnZ (a b:Pt):Pt:=(a.1 - b.1,a.2 - b.2)
def sgZ (n:Int):Int:=if n < 0 then -1 else if 0 < n then 1 else 0
def sdZ (a b c:Pt):Int:=sgZ (crZ (mnZ b a) (mnZ c a))
def tnZ (a b c:Pt):Int:=(b.1 - a.1) * (c.2 - a.2) - (b.2 - a.2) * (c.1 - a.1)
def hsZ (a b q:Pt):Bool:=decide (sdZ a b q=0) && decide (dtZ (mnZ a q) (mnZ b q)≤0)
def onZ (a b c:Pt):Bool:=decide (tnZ a b c=0) && (decide (min a.1 b.1≤c.1) && (decide (c.1≤max a.1 b.1) && (decide (min a.2 b.2≤c.2) && decide (c.2≤max a.2 b.2))))
def meZ (a b c d:Pt):Bool:=(hsZ a b c || (hsZ a b d || (hsZ c d a || hsZ c d b))) || (decide (sdZ a b c * sdZ a b d < 0) && decide (sdZ c d a * sdZ c d b < 0))
def mtZ (a b c d:Pt):Bool:=(onZ a b c || (onZ a b d || (onZ c d a || onZ c d b))) || (decide (sgZ (tnZ a b c) * sgZ (tnZ a b d) < 0) && decide (sgZ (tnZ c d a) * sgZ (tnZ c d b) < 0))
end Go.Proofs.YtidmjdmmpajooaaGreat
namespace Go.Proofs.YtidmjdmmpajooaaGreat
def rtB (p:Pt):Bool:=decide (-1048576≤p.1) && decide (p.1≤1048576) && (decide (-1048576≤p.2) && decide (p.2≤1048576))
def qm (l:List Pt) (i:Nat):Bool:=
 decide (crZ (mnZ (ptZ l ((i + l.length - 1) % l.length)) (ptZ l i)) (mnZ (ptZ l ((i + 1) % l.length)) (ptZ l i))=0) && decide (0≤dtZ (mnZ (ptZ l ((i + l.length - 1) % l.length)) (ptZ l i)) (mnZ (ptZ l ((i + 1) % l.length)) (ptZ l i)))
def sw (l:List Pt) (i:Nat):Bool:=
 decide (tnZ (ptZ l i) (ptZ l ((i + 1) % l.length)) (ptZ l ((i + 1 + 1) % l.length))=0) && decide (0≤dtZ (mnZ (ptZ l i) (ptZ l ((i + 1) % l.length))) (mnZ (ptZ l ((i + 1 + 1) % l.length)) (ptZ l ((i + 1) % l.length))))
def oz (l:List Pt) (i k:Nat):Bool:=decide (i + 1 < k) && (!(decide (i=0) && decide (k=l.length - 1)) && meZ (ptZ l i) (ptZ l ((i + 1) % l.length)) (ptZ l k) (ptZ l ((k + 1) % l.length)))
def kr (l:List Pt) (i k:Nat):Bool:=decide (i + 2≤k) && (decide ((k + 1) % l.length≠i) && mtZ (ptZ l i) (ptZ l ((i + 1) % l.length)) (ptZ l k) (ptZ l ((k + 1) % l.length)))
def uj (l:List Pt) (i:Nat):Bool:=qm l i || (List.range l.length).any (oz l i)
def zp (l:List Pt) (i:Nat):Bool:=sw l i || (List.range l.length).any (kr l i)
def fl (l:List Pt):Int:=if l.length < 3 then 4 else if 16 < l.length then 4 else if l.all rtB=true then (if (List.range l.length).any (uj l)=true then 20 else 0) else 1
def rl (l:List Pt):Int:=if l.length < 3 then 4 else if 16 < l.length then 4 else if l.all rtB=true then (if (List.range l.length).any (zp l)=true then 20 else 0) else 1
end Go.Proofs.YtidmjdmmpajooaaGreat
namespace Go.Proofs.YtidmjdmmpajooaaGreat
open Go.RowKit Dg
def IP (_:World) (cs:List Value) (x:Pt):Prop:=cs=[.int .i64 x.1,.int .i64 x.2]
def IE (_:World) (cs:List Value) (x:Pt × Pt):Prop:=cs=[.int .i64 x.1.1,.int .i64 x.1.2,.int .i64 x.2.1,.int .i64 x.2.2]
theorem IP.kept:ir IP:=fun _ _ _ _ h _=>h
theorem IE.kept:ir IE:=fun _ _ _ _ h _=>h
abbrev Pts (w:World) (v:Value) (l:List Pt):Prop:=be 2 IP w v l
abbrev Bxs (w:World) (v:Value) (l:List (Pt × Pt)):Prop:=be 4 IE w v l
theorem jb0 {l:List Pt} {k:Nat} (h:k < l.length):l[k]?=some (ptZ l k):=by
 unfold ptZ;rw[List.getD_eq_getElem?_getD,List.getElem?_eq_getElem h];rfl
theorem lt_cell {w:World} {a:Addr} {v:Value} (h:w.cell? a=some v):a.block < w.heap.size:=by
 obtain⟨o,ho,_⟩:=cells_of_cell h
 exact (Array.getElem?_eq_some_iff.1 ho).1
theorem ep {α:Type} {size:Nat} {R:World→List Value→α→Prop} {w:World} {v:Value} {l:List α} (h:be size R w v l) (hl:0 < l.length):∃b o c,v=.slice (some ⟨b,o,none⟩) l.length c∧l.length≤c∧c≤9223372036854775807:=by
 obtain⟨ao,c,e,h1,h2,h3⟩:=h.slice
 obtain⟨b',o',c',cs,e',_⟩:=h.get (List.getElem?_eq_getElem hl)
 subst e
 injection e' with e1 _ _
 subst e1
 exact⟨b',o',c,rfl,h1,h2⟩
theorem ij {w:World} {b o n c:Nat} {l:List Pt} (h:Pts w (.slice (some ⟨b,o,none⟩) n c) l) {k:Nat} (hk:k < l.length):
  w.cell? ⟨b,o + k * 2,none⟩=some (.int .i64 (ptZ l k).1)∧w.cell? ⟨b,o + k * 2 + 1,none⟩=some (.int .i64 (ptZ l k).2)∧b < w.heap.size:=by
 obtain⟨b',o',c',cs,e,hlen,hat,rfl⟩:=h.get (jb0 hk)
 injection e with e1 _ _
 injection e1 with e1
 injection e1 with e2 e3 _
 subst e2 e3
 have h0:=hat 0 _ rfl
 exact⟨h0,hat 1 _ rfl,lt_cell h0⟩
theorem jf0 {w:World} {b o n c:Nat} {l:List (Pt × Pt)} (h:Bxs w (.slice (some ⟨b,o,none⟩) n c) l) {k:Nat} (hk:k < l.length):
  w.cell? ⟨b,o + k * 4,none⟩=some (.int .i64 (l.getD k ((0,0),(0,0))).1.1)∧w.cell? ⟨b,o + k * 4 + 1,none⟩=some (.int .i64 (l.getD k ((0,0),(0,0))).1.2)∧w.cell? ⟨b,o + k * 4 + 2,none⟩=some (.int .i64 (l.getD k ((0,0),(0,0))).2.1)∧
   w.cell? ⟨b,o + k * 4 + 3,none⟩=some (.int .i64 (l.getD k ((0,0),(0,0))).2.2)∧b < w.heap.size:=by
 have hx:l[k]?=some (l.getD k ((0,0),(0,0))):=by rw[List.getD_eq_getElem?_getD,List.getElem?_eq_getElem hk];rfl
 obtain⟨b',o',c',cs,e,hlen,hat,rfl⟩:=h.get hx
 injection e with e1 _ _
 injection e1 with e1
 injection e1 with e2 e3 _
 subst e2 e3
 have h0:=hat 0 _ rfl
 exact⟨h0,hat 1 _ rfl,hat 2 _ rfl,hat 3 _ rfl,lt_cell h0⟩
def Wn (B x:Int):Prop:= -B≤x∧x≤B
theorem Wn.lit {B x:Int} (h: -B≤x) (k:x≤B):Wn B x:=⟨h,k⟩
theorem Wn.mono {A B x:Int} (h:Wn A x) (hb:A≤B):Wn B x:=⟨by have:=h.1;omega,by have:=h.2;omega⟩
theorem Wn.add {A B x y:Int} (h:Wn A x) (k:Wn B y):Wn (A + B) (x + y):=⟨by have:=h.1;have:=k.1;omega,by have:=h.2;have:=k.2;omega⟩
theorem Wn.sub {A B x y:Int} (h:Wn A x) (k:Wn B y):Wn (A + B) (x - y):=⟨by have:=h.1;have:=k.2;omega,by have:=h.2;have:=k.1;omega⟩
theorem Wn.neg {A x:Int} (h:Wn A x):Wn A (-x):=⟨by have:=h.2;omega,by have:=h.1;omega⟩
theorem Wn.nn {A x:Int} (h:Wn A x):0≤A:=by have:=h.1;have:=h.2;omega
theorem Wn.abs {A x:Int} (h:Wn A x):(x.natAbs:Int)≤A:=by have:=h.1;have:=h.2;omega
theorem Wn.of_abs {A x:Int} (h:(x.natAbs:Int)≤A):Wn A x:=⟨by omega,by omega⟩
theorem Wn.mul {A B x y:Int} (h:Wn A x) (k:Wn B y):Wn (A * B) (x * y):=by
 refine Wn.of_abs ?_
 rw[Int.natAbs_mul,Int.natCast_mul]
 exact Int.mul_le_mul h.abs k.abs (Int.natCast_nonneg _) h.nn
theorem Wn.min {A x y:Int} (h:Wn A x) (k:Wn A y):Wn A (Min.min x y):=⟨by have:=h.1;have:=k.1;omega,by have:=h.2;have:=k.2;omega⟩
theorem Wn.max {A x y:Int} (h:Wn A x) (k:Wn A y):Wn A (Max.max x y):=⟨by have:=h.1;have:=k.1;omega,by have:=h.2;have:=k.2;omega⟩
theorem Wn.wrap {A x:Int} (h:Wn A x) (hA:A≤9223372036854775807):IntKind.i64.wrap x=x:=IntWalk.i64_in x (by have:=h.1;have:=h.2;omega)
theorem Wn.wsub {A B x y:Int} (h:Wn A x) (k:Wn B y) (hA:A + B≤9223372036854775807):IntKind.i64.wrap (x - y)=x - y:=(h.sub k).wrap hA
theorem Wn.wadd {A B x y:Int} (h:Wn A x) (k:Wn B y) (hA:A + B≤9223372036854775807):IntKind.i64.wrap (x + y)=x + y:=(h.add k).wrap hA
theorem Wn.wmul {A B x y:Int} (h:Wn A x) (k:Wn B y) (hA:A * B≤9223372036854775807):IntKind.i64.wrap (x * y)=x * y:=(h.mul k).wrap hA
theorem Wn.lo {A B x:Int} (h:Wn A x) (hA:A≤B): -B≤x:=by have:=h.1;omega
theorem Wn.lo64 {A x:Int} (h:Wn A x) (hA:A≤9223372036854775807): -9223372036854775808≤x:=by have:=h.1;omega
theorem Wn.hi {A B x:Int} (h:Wn A x) (hA:A≤B):x≤B:=by have:=h.2;omega
theorem Wn.out {A x:Int} (h:Wn A x): -A≤x∧x≤A:=h
abbrev WP (B:Int) (p:Pt):Prop:=Wn B p.1∧Wn B p.2
theorem WP.mono {A B:Int} {p:Pt} (h:WP A p) (hb:A≤B):WP B p:=⟨h.1.mono hb,h.2.mono hb⟩
theorem WP.mn {A B:Int} {p q:Pt} (h:WP A p) (k:WP B q):WP (A + B) (mnZ p q):=⟨h.1.sub k.1,h.2.sub k.2⟩
theorem WP.cr {A B:Int} {p q:Pt} (h:WP A p) (k:WP B q):Wn (A * B + A * B) (crZ p q):=(h.1.mul k.2).sub (h.2.mul k.1)
theorem jm {p:Pt} (h:rtB p=true):WP 1048576 p:=by
 unfold rtB at h
 simp only[Bool.and_eq_true,decide_eq_true_eq] at h
 exact⟨h.1,h.2⟩
theorem WP.pt {B:Int} (hB:0≤B) {l:List Pt} (h:∀p∈l,WP B p) (k:Nat):WP B (ptZ l k):=by
 by_cases hk:k < l.length
 ·exact h _ (List.mem_of_getElem? (jb0 hk))
 ·unfold ptZ;rw[List.getD_eq_getElem?_getD,List.getElem?_eq_none (by omega)];exact⟨⟨show -B≤(0:Int) by omega,show (0:Int)≤B by omega⟩,⟨show -B≤(0:Int) by omega,show (0:Int)≤B by omega⟩⟩
theorem Bx.set2 {w:World} {g:Nat} {t:TypeId} {a b x y:Value} (h:Bx w g t #[a,b]):Bx ((w.setCell ⟨g,0,none⟩ x).setCell ⟨g,1,none⟩ y) g t #[x,y]:=(h.set 0 _ rfl).set 1 _ rfl
end Go.Proofs.YtidmjdmmpajooaaGreat
namespace Go.Proofs.YtidmjdmmpajooaaGreat
open Go Go.RowKit Dg
theorem rows_drop {α:Type} {size:Nat} {T:TypeId} {R:World→List Value→α→Prop} {w:World} {b o n c:Nat} {l:List α} (h:Rows size T R w (.slice (some ⟨b,o,none⟩) n c) l) {k n' c':Nat} (hk:k≤l.length) (hn:n'=l.length - k) (hc:n'≤c') (hc':c'≤9223372036854775807):
  Rows size T R w (.slice (some ⟨b,o + k * size,none⟩) n' c') (l.drop k):=by
 obtain⟨ao,c0,e,h1,h2,h3,h4,h5⟩:=h
 injection e with e _ _
 subst e hn
 refine⟨some ⟨b,o + k * size,none⟩,c',by rw[List.length_drop],by rw[List.length_drop];omega,hc',(fun e=>by cases e),fun a ha hl=>?_,fun i x hx=>?_⟩
 ·cases ha
  rw[List.length_drop] at hl
  exact h4 ⟨b,o,none⟩ rfl (by omega)
 ·rw[List.getElem?_drop] at hx
  obtain⟨b',o',cs,e,h6,h7,h8⟩:=h5 _ _ hx
  cases e
  exact⟨b,o + k * size,cs,rfl,h6,by rw[Nat.add_assoc,←Nat.add_mul];exact h7,h8⟩
theorem cw.nilAt {α:Type} {base size g:Nat} {T:TypeId} {R:World→List Value→α→Prop} {w:World} (h:Bx w g T #[]) (hb:base≤g):cw base T size R w (.slice (some ⟨g,0,none⟩) 0 0) ([]:List α):=
 ⟨[],rfl,by simp,by simp,by simp,.inr ⟨g,0,#[],rfl,hb,h,ag _,Nat.zero_le _,by simp,by simp⟩⟩
theorem Rows.below {α:Type} {size:Nat} {T:TypeId} {R:World→List Value→α→Prop} {w w':World} {v:Value} {l:List α} (hR:ir R) {B:Nat} (h:Rows size T R w v l) (hB:w.heap.size=B) (hb:Below B w w'):Rows size T R w' v l:=by
 subst hB;exact h.mono hR hb
end Go.Proofs.YtidmjdmmpajooaaGreat
namespace Go.Proofs.YtidmjdmmpajooaaGreat
open Go.RowKit Dg
attribute [local go_sem ↓] Go.wp_at_zero Go.wp_at_succ
def IC (_:World) (cs:List Value) (x:Int):Prop:=cs=[.int .i64 x]
theorem IC.kept:ir IC:=fun _ _ _ _ h _=>h
theorem int_info:(Tryz.prog.info? 3).map (fun i=>(i.zero,i.size,i.bytes))=some (some (.int .i64 0),1,8):=by kernel_rfl
def nthI (L:List Int) (i:Nat):Int:=L.getD i 0
theorem nthI_some {L:List Int} {i:Nat} (h:i < L.length):L[i]?=some (nthI L i):=by unfold nthI;rw[List.getD_eq_getElem?_getD,List.getElem?_eq_getElem h];rfl
theorem rowI_at {w:World} {U:TypeId} {b o n c:Nat} {L:List Int} {i:Nat} (h:Rows 1 U IC w (.slice (some ⟨b,o,none⟩) n c) L) (hi:i < L.length):w.cell? ⟨b,o + i * 1,none⟩=some (.int .i64 (nthI L i))∧b < w.heap.size:=by
 obtain⟨b',o',c',cs,hv,_,hat,rfl⟩:=h.get (nthI_some hi)
 obtain⟨e,rfl⟩:=yk hv
 injection e with e
 injection e with e1 e2
 subst e1 e2
 exact⟨hat 0 _ rfl,jw (hat 0 _ rfl)⟩
end Go.Proofs.YtidmjdmmpajooaaGreat
namespace Go.Proofs.YtidmjdmmpajooaaGreat
theorem asc_ext:∀{a b:List Int},a.Pairwise (· < ·)→b.Pairwise (· < ·)→(∀x,x∈a↔x∈b)→a=b
 | [],[],_,_,_=>rfl
 | [],y ::b,_,_,h=>absurd ((h y).2 List.mem_cons_self) (by simp)
 | x ::a,[],_,_,h=>absurd ((h x).1 List.mem_cons_self) (by simp)
 | x ::a,y ::b,ha,hb,h=>by
  obtain⟨h1,h2⟩:=List.pairwise_cons.1 ha
  obtain⟨h3,h4⟩:=List.pairwise_cons.1 hb
  have e:x=y:=by
   rcases List.mem_cons.1 ((h x).1 List.mem_cons_self) with e|e
   ·exact e
   ·rcases List.mem_cons.1 ((h y).2 List.mem_cons_self) with e'|e'
    ·exact e'.symm
    ·have:=h3 x e;have:=h1 y e';omega
  subst e
  rw[asc_ext h2 h4 fun z=>?_]
  constructor
  ·intro hz
   rcases List.mem_cons.1 ((h z).1 (List.mem_cons_of_mem _ hz)) with e|e
   ·have:=h1 z hz;omega
   ·exact e
  ·intro hz
   rcases List.mem_cons.1 ((h z).2 (List.mem_cons_of_mem _ hz)) with e|e
   ·have:=h3 z hz;omega
   ·exact e
def putZ:List Int→Int→List Int
 | [],x=>[x]
 | y ::r,x=>if y < x then y ::putZ r x else if y=x then y ::r else x ::y ::r
theorem putZ_mem (x z:Int):∀l:List Int,z∈putZ l x↔z=x∨z∈l
 | []=>by unfold putZ;simp
 | y ::r=>by
  unfold putZ
  split
  ·rw[List.mem_cons,putZ_mem x z r,List.mem_cons]
   constructor
   ·rintro (h|h|h)
    ·exact .inr (.inl h)
    ·exact .inl h
    ·exact .inr (.inr h)
   ·rintro (h|h|h)
    ·exact .inr (.inl h)
    ·exact .inl h
    ·exact .inr (.inr h)
  ·split
   ·rename_i h;subst h;simp
   ·simp
theorem putZ_asc (x:Int):∀l:List Int,l.Pairwise (· < ·)→(putZ l x).Pairwise (· < ·)
 | [],_=>by unfold putZ;simp
 | y ::r,h=>by
  obtain⟨h1,h2⟩:=List.pairwise_cons.1 h
  unfold putZ
  split
  ·rename_i hy
   refine List.pairwise_cons.2 ⟨fun z hz=>?_,putZ_asc x r h2⟩
   rcases (putZ_mem x z r).1 hz with e|e
   ·omega
   ·exact h1 z e
  ·split
   ·exact h
   ·rename_i hy hn
    refine List.pairwise_cons.2 ⟨fun z hz=>?_,h⟩
    rcases List.mem_cons.1 hz with e|e
    ·omega
    ·have:=h1 z e;omega
def crtK (ends:List Int) (size lo hi:Int):List Int:=
 let put':=fun l x=>if lo≤x∧x + size≤hi then putZ l x else l
 putZ (ends.foldl (fun l e=>put' (put' l e) (e - size)) [lo]) (hi - size)
theorem crt_fold (size lo hi:Int):∀(ends l:List Int),l.Pairwise (· < ·)→
  (ends.foldl (fun l e=>(fun l x=>if lo≤x∧x + size≤hi then putZ l x else l) ((fun l x=>if lo≤x∧x + size≤hi then putZ l x else l) l e) (e - size)) l).Pairwise (· < ·)∧
  ∀z,z∈ends.foldl (fun l e=>(fun l x=>if lo≤x∧x + size≤hi then putZ l x else l) ((fun l x=>if lo≤x∧x + size≤hi then putZ l x else l) l e) (e - size)) l↔z∈l∨∃e∈ends,(z=e∨z=e - size)∧lo≤z∧z + size≤hi
 | [],l,h=>⟨h,fun z=>by simp⟩
 | e ::r,l,h=>by
  have one:∀(l:List Int) (x:Int),l.Pairwise (· < ·)→(if lo≤x∧x + size≤hi then putZ l x else l).Pairwise (· < ·)∧∀z,z∈(if lo≤x∧x + size≤hi then putZ l x else l)↔z∈l∨(z=x∧lo≤z∧z + size≤hi):=by
   intro l x hl
   split
   ·rename_i hc
    refine⟨putZ_asc x l hl,fun z=>?_⟩
    rw[putZ_mem]
    constructor
    ·rintro (rfl|h)
     ·exact .inr ⟨rfl,hc⟩
     ·exact .inl h
    ·rintro (h|⟨rfl,_⟩)
     ·exact .inr h
     ·exact .inl rfl
   ·rename_i hc
    refine⟨hl,fun z=>⟨.inl,?_⟩⟩
    rintro (h|⟨rfl,h⟩)
    ·exact h
    ·exact absurd h hc
  obtain⟨a1,a2⟩:=one l e h
  obtain⟨b1,b2⟩:=one _ (e - size) a1
  obtain⟨c1,c2⟩:=crt_fold size lo hi r _ b1
  refine⟨c1,fun z=>?_⟩
  show z∈List.foldl _ _ r↔_
  rw[c2,b2,a2]
  constructor
  ·rintro (((h|⟨h,h'⟩)|⟨h,h'⟩)|⟨e',he,h⟩)
   ·exact .inl h
   ·exact .inr ⟨e,List.mem_cons_self,.inl h,h'⟩
   ·exact .inr ⟨e,List.mem_cons_self,.inr h,h'⟩
   ·exact .inr ⟨e',List.mem_cons_of_mem _ he,h⟩
  ·rintro (h|⟨e',he,h,h'⟩)
   ·exact .inl (.inl (.inl h))
   ·rcases List.mem_cons.1 he with rfl|he
    ·rcases h with h|h
     ·exact .inl (.inl (.inr ⟨h,h'⟩))
     ·exact .inl (.inr ⟨h,h'⟩)
    ·exact .inr ⟨e',he,h,h'⟩
theorem crt_mem {ends:List Int} {size lo hi:Int} (h0:0 < size) (h1:lo + size≤hi):(crtK ends size lo hi).Pairwise (· < ·)∧∀z,z∈crtK ends size lo hi↔z=lo∨z=hi - size∨∃e∈ends,(z=e∨z=e - size)∧lo≤z∧z + size≤hi:=by
 obtain⟨a,b⟩:=crt_fold size lo hi ends [lo] (by simp)
 refine⟨putZ_asc _ _ a,fun z=>?_⟩
 show z∈putZ _ _↔_
 rw[putZ_mem,b,List.mem_singleton]
 constructor
 ·rintro (h|h|h)
  ·exact .inr (.inl h)
  ·exact .inl h
  ·exact .inr (.inr h)
 ·rintro (h|h|h)
  ·exact .inr (.inl h)
  ·exact .inl h
  ·exact .inr (.inr h)
end Go.Proofs.YtidmjdmmpajooaaGreat
namespace Go.Proofs.YtidmjdmmpajooaaGreat
def smI (g:Int→Int) (a:Int):Nat→Int
 | 0=>0
 | n + 1=>smI g a n + g (a + n)
theorem smI_add (g:Int→Int) (a:Int) (m:Nat):∀n,smI g a (m + n)=smI g a m + smI g (a + m) n
 | 0=>by show smI g a m=smI g a m + 0;omega
 | n + 1=>by
  show smI g a (m + n) + g (a + ((m + n:Nat):Int))=smI g a m + (smI g (a + m) n + g (a + m + n))
  rw[smI_add g a m n,show a + ((m + n:Nat):Int)=a + m + n by omega]
  omega
theorem smI_const {g:Int→Int} {a G:Int}:∀{n:Nat},(∀u,a≤u→u < a + n→g u=G)→smI g a n=n * G
 | 0,_=>by show (0:Int)=0 * G;omega
 | n + 1,h=>by
  show smI g a n + g (a + n)=((n + 1:Nat):Int) * G
  rw[smI_const (n:=n) (fun u h1 h2=>h u h1 (by omega)),h (a + n) (by omega) (by omega),show ((n + 1:Nat):Int)=(n:Int) + 1 by omega,Int.add_mul,Int.one_mul]
def smB (g:Int→Int) (a b:Int):Int:=smI g a (b - a).toNat
theorem smB_split {g:Int→Int} {a c b:Int} (h1:a≤c) (h2:c≤b):smB g a b=smB g a c + smB g c b:=by
 unfold smB
 rw[show (b - a).toNat=(c - a).toNat + (b - c).toNat by omega,smI_add,show a + (((c - a).toNat:Nat):Int)=c by omega]
theorem smB_none {g:Int→Int} {a b:Int} (h:b≤a):smB g a b=0:=by unfold smB;rw[show (b - a).toNat=0 by omega];rfl
theorem smB_const {g:Int→Int} {a b G:Int} (h:∀u,a≤u→u < b→g u=G):smB g a b=max 0 (b - a) * G:=by
 unfold smB
 rw[smI_const (G:=G) (fun u h1 h2=>h u h1 (by omega))]
 congr 1
 omega
def wdZ (p q x z:Int):Int:=max 0 (min q z - max p x)
def ptS (G:Nat→Int) (x z:Int):Nat→List Int→Int
 | i,p ::q ::r=>wdZ p q x z * G i + ptS G x z (i + 1) (q ::r)
 | _,_=>0
theorem ptS_sum {g:Int→Int} {x z:Int}:∀(xs:List Int) (i:Nat) (G:Nat→Int),xs.Pairwise (· < ·)→
  (∀j p q,xs[j]?=some p→xs[j + 1]?=some q→∀u,p≤u→u < q→g u=G (i + j))→(∀l,xs.getLast?=some l→∀u,l≤u→g u=0)→
  ∀p,xs.head?=some p→ptS G x z i xs=smB g (max p x) z
 | [],_,_,_,_,_,p,h=>by cases h
 | [a],i,G,_,_,hl,p,hp=>by
  have e:a=p:=by simpa using hp
  subst e
  show (0:Int)=_
  rw[smB_const (G:=0) (fun u h1 _=>hl a rfl u (by omega)),Int.mul_zero]
 | a ::b ::r,i,G,ha,hg,hl,p,hp=>by
  have e:a=p:=by simpa using hp
  subst e
  obtain⟨h1,h2⟩:=List.pairwise_cons.1 ha
  have hab:=h1 b List.mem_cons_self
  have ih:=ptS_sum (x:=x) (z:=z) (b ::r) (i + 1) G h2 (fun j p q e1 e2 u u1 u2=>by
   have:=hg (j + 1) p q (by rw[List.getElem?_cons_succ];exact e1) (by rw[List.getElem?_cons_succ];exact e2) u u1 u2
   rwa [show i + (j + 1)=i + 1 + j by omega] at this) (fun l hl'=>hl l (by rw[List.getLast?_cons_cons];exact hl')) b rfl
  show wdZ a b x z * G i + ptS G x z (i + 1) (b ::r)=smB g (max a x) z
  rw[ih]
  have h0:∀u,a≤u→u < b→g u=G i:=fun u u1 u2=>by
   have:=hg 0 a b rfl rfl u u1 u2
   rwa [Nat.add_zero] at this
  unfold wdZ
  by_cases c1:b≤max a x
  ·
   rw[show max 0 (min b z - max a x)=0 by omega,Int.zero_mul,Int.zero_add,show max b x=max a x by omega]
  ·by_cases c2:z≤b
   ·rw[smB_none (show z≤max b x by omega),Int.add_zero,smB_const (G:=G i) (fun u u1 u2=>h0 u (by omega) (by omega)),show min b z=z by omega]
   ·rw[smB_split (show max a x≤b by omega) (show b≤z by omega),smB_const (G:=G i) (fun u u1 u2=>h0 u (by omega) u2),show min b z=b by omega,show max b x=b by omega]
end Go.Proofs.YtidmjdmmpajooaaGreat
namespace Go.Proofs.YtidmjdmmpajooaaGreat
open Go Go.RowKit Dg
theorem wpList_rows {α:Type} {P:Program} {ops:Array Oper} {rest:List Oper} {o:Oper} {a:Act} {Q:Exit→Act→World→Prop} (hgd:o.guard=none) (s y:Operand) {base size bytes:Nat} {T t:TypeId} {i:TypeInfo} {z:Value} {R:World→List Value→α→Prop} (hR:ir R) (hone:∀(w:World) (cs:List Value) (x:α),R w cs x→∀u∈cs,u.oneCell'=true) (hT:T≠95∧T≠152)
  (ho:o.op=.call {callee:=.builtin .append,args:=#[s,y],argTypes:=#[t,t]})
  (ht:P.underlying t=some (.slice T)) (hi:P.info? T=some i) (hz:i.zero=some z) (hsize:i.size=size) (hby:i.bytes=bytes) (hzs:z.cells.size=size) (hsz:0 < size)
  {w:World} {v x:Value} {l m:List α} (hs:a.eval s=v) (hx:a.eval y=x) (hO:cw base T size R w v l) (hX:Rows size T R w x m) (h63:l.length + m.length≤maxLen) (hbytes:(l.length + m.length) * bytes≤140737488355328) (hbase:base≤w.heap.size)
  (h:∀v' w',cw base T size R w' v' (l ++ m)→Below base w w'→dg T w w'→wpList P ops Q rest (a.put o.dst v') w'):wpList P ops Q (o ::rest) a w:=
 wpList_plain hgd fun _ hK=>jg1 s y hR hone hT ho ht hi hz hsize hby hzs hsz hs hx hO hX h63 hbytes hbase fun v' w' h2 h3 h4=>hK _ _ (h v' w' h2 h3 h4)
theorem cw.pushTwo {α:Type} {base size:Nat} {T:TypeId} {R:World→List Value→α→Prop} {w w':World} {l:List α} (hR:ir R) {css:List (List Value)} (h1:css.length=l.length) (h2:∀cs∈css,cs.length=size) (h3:∀(i:Nat) (cs:List Value) (x:α),css[i]?=some cs→l[i]?=some x→R w cs x) {v':Value} {cs ds:List Value} {x y:α}
  (hl:cs.length=size) (hx:R w cs x) (hl':ds.length=size) (hy:R w ds y) (hown:w'.ownsRow base T size v' (l.length + 2) (css.flatten ++ (cs ++ ds))) (hk:aw w w'):cw base T size R w' v' (l ++ [x] ++ [y]):=by
 refine⟨css ++ [cs] ++ [ds],by simp[h1],?_,?_,?_⟩
 ·intro c hc
  rcases List.mem_append.1 hc with h|h
  ·rcases List.mem_append.1 h with h|h
   ·exact h2 c h
   ·simp at h;rw[h];exact hl
  ·simp at h;rw[h];exact hl'
 ·intro i c z hc hz
  by_cases hi:i < l.length
  ·rw[List.append_assoc,List.getElem?_append_left (by omega)] at hc
   rw[List.append_assoc,List.getElem?_append_left hi] at hz
   exact hR _ _ _ _ (h3 i c z hc hz) hk
  ·rw[List.append_assoc,List.getElem?_append_right (by omega),h1] at hc
   rw[List.append_assoc,List.getElem?_append_right (by omega)] at hz
   match hj:i - l.length with
   | 0=>
    rw[hj] at hc hz
    simp at hc hz
    subst hc hz
    exact hR _ _ _ _ hx hk
   | 1=>
    rw[hj] at hc hz
    simp at hc hz
    subst hc hz
    exact hR _ _ _ _ hy hk
   | j + 2=>
    rw[hj] at hc
    simp at hc
 ·simpa [List.append_assoc] using hown
theorem ic_one:∀(w:World) (cs:List Value) (x:Int),IC w cs x→∀u∈cs,u.oneCell'=true:=fun w cs x h u hu=>by
 unfold IC at h
 subst h
 simp only[List.mem_cons,List.mem_nil_iff,or_false] at hu
 subst hu
 rfl
theorem rows_lone {w:World} {g:Nat} {x:Int} (h:Bx w g 3 #[.int .i64 x]):Rows 1 3 IC w (.slice (some ⟨g,0,none⟩) 1 1) [x]:=by
 refine⟨some ⟨g,0,none⟩,1,rfl,ag _,by omega,(fun e=>by cases e),fun a ha _=>by cases ha;exact h.ty,fun i y hy=>?_⟩
 obtain rfl:i=0:=by
  have:=(List.getElem?_eq_some_iff.1 hy).1
  simp at this
  omega
 cases hy
 exact⟨g,0,[.int .i64 x],rfl,rfl,fun j u hu=>by
  obtain rfl:j=0:=by
   have:=(List.getElem?_eq_some_iff.1 hu).1
   simp at this
   omega
  cases hu
  exact h.at 0 rfl,rfl⟩
theorem rows_duo {w:World} {g:Nat} {x y:Int} (h:Bx w g 3 #[.int .i64 x,.int .i64 y]):Rows 1 3 IC w (.slice (some ⟨g,0,none⟩) 2 2) [x,y]:=by
 refine⟨some ⟨g,0,none⟩,2,rfl,ag _,by omega,(fun e=>by cases e),fun a ha _=>by cases ha;exact h.ty,fun i z hz=>?_⟩
 have hi:=(List.getElem?_eq_some_iff.1 hz).1
 by_cases i0:i=0
 ·subst i0
  cases hz
  exact⟨g,0,[.int .i64 x],rfl,rfl,fun j u hu=>by
   obtain rfl:j=0:=by
    have:=(List.getElem?_eq_some_iff.1 hu).1
    simp at this
    omega
   cases hu
   exact h.at 0 rfl,rfl⟩
 ·obtain rfl:i=1:=by simp at hi;omega
  cases hz
  exact⟨g,0,[.int .i64 y],rfl,rfl,fun j u hu=>by
   obtain rfl:j=0:=by
    have:=(List.getElem?_eq_some_iff.1 hu).1
    simp at this
    omega
   cases hu
   exact h.at 1 rfl,rfl⟩
theorem rows_from {w:World} {b o n c:Nat} {l:List Int} (h:Rows 1 3 IC w (.slice (some ⟨b,o,none⟩) n c) l) {k n' c':Nat} (hk:k≤l.length) (hn:n'=l.length - k) (hc:n'≤c') (hc':c'≤9223372036854775807):
  Rows 1 3 IC w (.slice (some ⟨b,o + k,none⟩) n' c') (l.drop k):=by
 have:=rows_drop h hk hn hc hc'
 rwa [Nat.mul_one] at this
theorem rows_none {w:World} {b o:Nat} {l:List Int} {k:Nat} (hk:l.length≤k) {c:Nat} (hc:c≤9223372036854775807):Rows 1 3 IC w (.slice (some ⟨b,o,none⟩) 0 c) (l.drop k):=by
 have e:l.drop k=[]:=List.drop_eq_nil_of_le hk
 rw[e]
 exact⟨some ⟨b,o,none⟩,c,rfl,Nat.zero_le _,hc,(fun e=>by cases e),fun a _ h=>absurd h (Nat.lt_irrefl 0),fun i x hx=>by simp at hx⟩
theorem put_ge {x:Int}:∀{l:List Int} {k:Nat},(∀j,j < k→nthI l j < x)→k≤l.length→(k=l.length∨¬ nthI l k < x)→
  putZ l x=if k < l.length∧nthI l k=x then l else l.take k ++ [x] ++ l.drop k
 | [],k,_,hk,_=>by
  obtain rfl:k=0:=by simpa using hk
  rw[if_neg (fun h=>absurd h.1 (by simp))]
  rfl
 | y ::r,0,_,_,h=>by
  have hy:¬ y < x:=by
   rcases h with h|h
   ·simp at h
   ·exact h
  unfold putZ
  rw[if_neg hy]
  by_cases e:y=x
  ·rw[if_pos e,if_pos ⟨by simp,e⟩]
  ·rw[if_neg e,if_neg (fun h=>e h.2)];rfl
 | y ::r,k + 1,hj,hk,h=>by
  have hy:y < x:=hj 0 (by omega)
  have ih:=put_ge (l:=r) (k:=k) (fun j h=>hj (j + 1) (by omega)) (by simpa using hk) (by
   rcases h with h|h
   ·exact .inl (by simpa using h)
   ·exact .inr h)
  unfold putZ
  rw[if_pos hy,ih]
  by_cases e:k < r.length∧nthI r k=x
  ·rw[if_pos e,if_pos ⟨by simpa using e.1,e.2⟩]
  ·rw[if_neg e,if_neg (fun h=>e ⟨by simpa using h.1,h.2⟩)];rfl
end Go.Proofs.YtidmjdmmpajooaaGreat
