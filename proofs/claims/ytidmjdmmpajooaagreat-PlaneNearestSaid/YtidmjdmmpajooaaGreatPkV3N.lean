/-
  A region that draws its order and ends in no store (a test): what is said of the memory holds behind every operation, the last one too; guards that are not met. No function of the program is in sight here.
-/
import Derived.Test.YtidmjdmmpajooaaGreatPkV2N
import Derived.Test.YtidmjdmmpajooaaGreatProg
import Derived.Test.YtidmjdmmpajooaaGreatPkV1N
import Derived.OrdersIn
import Derived.TacticsIn
import Derived.RangeFuncNested
import Derived.RangeFuncCalls
import Derived.RangeFuncLeaves
import Derived.RangeFuncRecord
import Derived.Deep.DrawnRows
import Derived.Deep.QuietTactic
import Derived.BigQuiet
set_option linter.unusedSimpArgs false
set_option linter.unusedVariables false
set_option maxRecDepth 100000
set_option maxHeartbeats 16000000
namespace Go.Proofs.YtidmjdmmpajooaaGreat
open Go
section
variable {P:Program} {ops:Array Oper} {Q:Exit→Act→World→Prop} {md:Region.Mode} {S:World→Prop} {m:Nat}
theorem U_firstN {i:Nat} {oi:Oper} {v:Value} (hi:ops[i]?=some oi) (hm:ops[m]?=none) (hsel:∀(j:Nat) (o:Oper) cs b,ops[j]?=some o→o.op≠.select cs b)
  (hQ:∀c a w,Q (.panic c) (a.put oi.dst v) w→Q (.panic c) a w):
  ∀(fuel:Nat) (listed:Array Bool) (a:Act) (w:World),
   (∀j oj,ops[j]?=some oj→j≠i→listed.getD j true=false→(∀e∈oj.after,Region.binds md e=true→e.on≠i)→oi.apart ops oj=true)→
   i∈Region.ready md ops listed→YieldsIf P ops S oi v a→S w→
   cq P md ops Q S m fuel (listed.setIfInBounds i true) (a.put oi.dst v) w→cq P md ops Q S m (fuel + 1) listed a w:=by
 intro fuel
 induction fuel with
 | zero=>
  intro listed a w _ hr hy hS H
  refine⟨fun h=>(by rw[h] at hr;cases hr),fun j hj=>?_⟩
  by_cases hji:j=i
  ·subst hji;exact hy.wpOp hi hS ⟨.inr hS,H⟩
  ·have:=ready_mono hj hji
   rw[H.1] at this
   cases this
 | succ fuel ih=>
  intro listed a w hfree hr hy hS H
  refine⟨fun h=>(by rw[h] at hr;cases hr),fun j hj=>?_⟩
  by_cases hji:j=i
  ·subst hji;exact hy.wpOp hi hS ⟨.inr hS,H⟩
  ·have h1:=H.2 j (ready_mono hj hji)
   obtain⟨hjun,oj,hoj,hall⟩:=mem_ready.1 hj
   have hjm:j≠m:=fun e=>by subst e;rw[hm] at hoj;cases hoj
   have hnot:∀e∈oj.after,Region.binds md e=true→e.on≠i:=fun e he hb heq=>by
    have h1:=hall e he hb
    have h0:=(mem_ready.1 hr).1
    rw[heq] at h1
    rcases Nat.lt_or_ge i listed.size with h'|h'
    ·simp[h'] at h0 h1;rw[h0] at h1;cases h1
    ·simp[Array.getElem?_eq_none h'] at h1
   have h2:=wpOp_putIf hoj (hfree j oj hoj hji hjun hnot) (fun cs b=>hsel i oi cs b hi) (fun cs b=>hsel j oj cs b hoj) hQ hy h1
   have hfree':∀k ok,ops[k]?=some ok→k≠i→(listed.setIfInBounds j true).getD k true=false→
     (∀e∈ok.after,Region.binds md e=true→e.on≠i)→oi.apart ops ok=true:=fun k ok hk hki hun hno=>by
    refine hfree k ok hk hki ?_ hno
    by_cases hjk:j=k
    ·subst hjk;exact hjun
    ·rw[getD_set_ne true hjk] at hun;exact hun
   refine wpOp_mono (fun a' w' h3=>⟨.inr (h3.2.1.resolve_left hjm),ih (listed.setIfInBounds j true) a' w' hfree' (ready_mono hr (Ne.symm hji)) h3.1 (h3.2.1.resolve_left hjm) ?_⟩) h2
   rw[Array.setIfInBounds_comm _ _ hji]
   exact h3.2.2
theorem U_takeN {i d:Nat} {oi:Oper} {v:Value} {fuel:Nat} {listed:Array Bool} {l:List Value} {ds:List Deferred} {w:World} (hi:ops[i]?=some oi) (hd:oi.dst=some d) (hm:ops[m]?=none)
  (hs:Region.noSelect ops=true) (hf:Region.free md ops listed i=true) (hr:(Region.ready md ops listed).contains i=true)
  (hQ:∀c a w,Q (.panic c) (a.put oi.dst v) w→Q (.panic c) a w) (hy:YieldsIf P ops S oi v ⟨l.toArray,ds⟩) (hS:S w)
  (h:cq P md ops Q S m fuel (listed.setIfInBounds i true) ⟨(l.set d v).toArray,ds⟩ w):cq P md ops Q S m (fuel + 1) listed ⟨l.toArray,ds⟩ w:=
 U_firstN hi hm (Region.noSelect_spec hs) hQ fuel listed _ w (Region.free_spec hi hf) (by simpa using hr) hy hS (by rw[hd,put_mk];exact h)
theorem U_tk (i d:Nat) (v:Value) {oi:Oper} {fuel:Nat} {listed:Array Bool} {l:List Value} {ds:List Deferred} {w:World} (hy:∀w,S w→(execOp (Act.eval ⟨l.toArray,ds⟩) oi).run P w=.ok (.value v) w) (hS:S w)
  (h:cq P md ops Q S m fuel (listed.setIfInBounds i true) ⟨(l.set d v).toArray,ds⟩ w) (hi:ops[i]?=some oi:=by rfl) (hd:oi.dst=some d:=by rfl) (hm:ops[m]?=none:=by rfl)
  (hs:Region.noSelect ops=true:=by kernel_rfl) (hf:Region.free md ops listed i=true:=by kernel_rfl) (hr:(Region.ready md ops listed).contains i=true:=by kernel_rfl)
  (hQ:∀c a w,Q (.panic c) (a.put oi.dst v) w→Q (.panic c) a w:=by exact fun _ _ _ h=>h) (hw:Region.wanted oi (yielded ops l.toArray)=true:=by rfl):cq P md ops Q S m (fuel + 1) listed ⟨l.toArray,ds⟩ w:=
 U_takeN hi hd hm hs hf hr hQ (.inl ⟨hw,hy⟩) hS h
def LB (n m:Nat):Array Bool:=((List.range n).map m.testBit).toArray
theorem bf {X:Nat→Array Bool→Act→World→Prop} {a1 a0:Act} (HX:RowKit.Hid (cq P md ops Q S m=X)) (HA:RowKit.Hid (a1=a0)) {f f':Nat} {l l':Array Bool} {a a2:Act} {w:World}
    (h:X f' l' a2 w) (hf:f=f':=by kernel_rfl) (hl:l=l':=by kernel_rfl) (ha:a=a2:=by (rw[←HA.out];simp only[LY])):cq P md ops Q S m f l a w:=by
  have e:=HX.out
  subst hf hl e ha
  exact h
theorem U_td (i d:Nat) {v:Value} {oi:Oper} {fuel:Nat} {listed:Array Bool} {l l':List Value} {ds:List Deferred} {w:World} (hS:S w)
    (h:cq P md ops Q S m fuel (listed.setIfInBounds i true) ⟨l'.toArray,ds⟩ w) (hi:ops[i]?=some oi:=by rfl) (hy:∀w,S w→(execOp (Act.eval ⟨l.toArray,ds⟩) oi).run P w=.ok (.value v) w:=by (intro w h;(try dsimp only at h);go_simp;try with_reducible rfl)) (hL:l.set d v=l':=by (simp only[LY];try rfl)) (hd:oi.dst=some d:=by rfl) (hwt:ml md ops m i=true:=by kernel_rfl)
    (hs:Region.noSelect ops=true:=by kernel_rfl) (hf:Region.free md ops listed i=true:=by kernel_rfl) (hr:(Region.ready md ops listed).contains i=true:=by kernel_rfl)
    (hQ:∀c a w,Q (.panic c) (a.put oi.dst v) w→Q (.panic c) a w:=by exact fun _ _ _ h=>h) (hw:Region.wanted oi (yielded ops l.toArray)=true:=by rfl):cq P md ops Q S m (fuel + 1) listed ⟨l.toArray,ds⟩ w:=U_takeD hi hd hwt hs hf hr hQ (.inl ⟨hw,hy⟩) hS (by subst hL;exact h)
theorem U_on (i:Nat) {o:Oper} {fuel:Nat} {listed:Array Bool} {a:Act} {w:World}
    (h:∀K':Act→World→Prop,Shut (∀a w,S w→(S w→cq P md ops Q S m fuel (listed.setIfInBounds i true) a w)→K' a w)→if Region.wanted o (yielded ops a.tmps)=true then Oper.wp P o a w K' Q else K' (a.put o.dst undef) w) (hr:Region.ready md ops listed=[i]:=by kernel_rfl) (ho:ops[i]?=some o:=by rfl):
    cq P md ops Q S m (fuel + 1) listed a w:=U_one hr ho h
theorem U_tq (i d:Nat) {v:Value} {oi:Oper} {fuel:Nat} {listed:Array Bool} {l l':List Value} {ds:List Deferred} {w:World} (hS:S w)
    (h:cq P md ops Q S m fuel (listed.setIfInBounds i true) ⟨l'.toArray,ds⟩ w) (hi:ops[i]?=some oi:=by rfl) (hy:∀w,S w→(execOp (Act.eval ⟨l.toArray,ds⟩) oi).run P w=.ok (.value v) w:=by (intro w h;(try dsimp only at h);go_simp;try with_reducible rfl)) (hL:l.set d v=l':=by (simp only[LY];try rfl)) (hd:oi.dst=some d:=by rfl) (hm:ops[m]?=none:=by rfl)
    (hs:Region.noSelect ops=true:=by kernel_rfl) (hf:Region.free md ops listed i=true:=by kernel_rfl) (hr:(Region.ready md ops listed).contains i=true:=by kernel_rfl)
    (hQ:∀c a w,Q (.panic c) (a.put oi.dst v) w→Q (.panic c) a w:=by exact fun _ _ _ h=>h) (hw:Region.wanted oi (yielded ops l.toArray)=true:=by rfl):cq P md ops Q S m (fuel + 1) listed ⟨l.toArray,ds⟩ w:=U_tk i d v hy hS (by subst hL;exact h) hi hd hm hs hf hr hQ hw
theorem ff (i d:Nat) {oi:Oper} {fuel:Nat} {listed:Array Bool} {l:List Value} {ds:List Deferred} {w:World} (hS:S w)
  (h:cq P md ops Q S m fuel (listed.setIfInBounds i true) ⟨(l.set d undef).toArray,ds⟩ w) (hi:ops[i]?=some oi:=by rfl) (hd:oi.dst=some d:=by rfl) (hm:ops[m]?=none:=by rfl)
  (hs:Region.noSelect ops=true:=by kernel_rfl) (hf:Region.free md ops listed i=true:=by kernel_rfl) (hr:(Region.ready md ops listed).contains i=true:=by kernel_rfl)
  (hQ:∀c a w,Q (.panic c) (a.put oi.dst undef) w→Q (.panic c) a w:=by exact fun _ _ _ h=>h) (hw:Region.wanted oi (yielded ops l.toArray)=false:=by rfl):cq P md ops Q S m (fuel + 1) listed ⟨l.toArray,ds⟩ w:=
 U_takeN hi hd hm hs hf hr hQ (.inr ⟨hw,rfl⟩) hS h
theorem cz (i:Nat) (v:Value) {oi:Oper} {fuel:Nat} {listed:Array Bool} {a:Act} {w:World} (hy:∀w,S w→(execOp a.eval oi).run P w=.ok (.value v) w) (hS:S w)
  (h:cq P md ops Q S m fuel (listed.setIfInBounds i true) (a.put oi.dst v) w) (hi:ops[i]?=some oi:=by rfl) (hwt:ml md ops m i=true:=by kernel_rfl)
  (hs:Region.noSelect ops=true:=by kernel_rfl) (hf:Region.free md ops listed i=true:=by kernel_rfl) (hr:(Region.ready md ops listed).contains i=true:=by kernel_rfl)
  (hQ:∀c a w,Q (.panic c) (a.put oi.dst v) w→Q (.panic c) a w:=by exact fun _ _ _ h=>h) (hw:Region.wanted oi (yielded ops a.tmps)=true:=by rfl):cq P md ops Q S m (fuel + 1) listed a w:=
 U_take hi hwt hs hf hr hQ (.inl ⟨hw,hy⟩) hS h
theorem im {fuel:Nat} {listed:Array Bool} {a:Act} {w:World} (hr:Region.ready md ops listed=[]) (h:Q .normal a w):cq P md ops Q S m fuel listed a w:=by
 cases fuel with
 | zero=>exact⟨hr,h⟩
 | succ n=>exact⟨fun _=>h,by rw[hr];simp⟩
end
end Go.Proofs.YtidmjdmmpajooaaGreat
namespace Go.Proofs.YtidmjdmmpajooaaGreat
open Go
def ua (ops:Array Oper):Bool:=ops.all fun o=>match o.op with | .defer _=>false|_=>true
theorem nc {ops:Array Oper} (h:ua ops=true) {j:Nat} {o:Oper} (hj:ops[j]?=some o):∀c,o.op≠.defer c:=by
 intro c e
 obtain⟨hlt,rfl⟩:=Array.getElem?_eq_some_iff.1 hj
 have:=Array.all_eq_true.1 h j hlt
 rw[e] at this
 cases this
section
variable {F:Fence} {n:Nat} {P:Program} {ops:Array Oper} {Q:Exit→Act→World→Prop} {md:Region.Mode} {S:World→Prop} {m:Nat}
def ic (P:Program) (ops:Array Oper) (S:World→Prop) (o:Oper) (v:Value) (a:Act):Prop:=YieldsIf P ops S o v a∧∀w,o.about P w a.eval=none
theorem ic.wpOpIn {i:Nat} {o:Oper} {v:Value} {a:Act} (hd:∀c,o.op≠.defer c) (hi:ops[i]?=some o) (hy:ic P ops S o v a)
  {K:Act→World→Prop} {w:World} (hS:S w) (h:K (a.put o.dst v) w):wpOpIn F n P ops Q i K a w:=by
 unfold Go.wpOpIn
 simp only[hi]
 have hab:∀f,o.about P w a.eval=some f→F.fn f:=fun f hf=>by rw[hy.2 w] at hf;cases hf
 rcases hy.1 with ⟨hw,hv⟩|⟨hw,rfl⟩
 ·simp only[hw,if_true,Oper.wpIn,Oper.semAt_eq F.round a.eval o hd,hv w hS,Oper.uponIn];exact⟨hab,h⟩
 ·simp only[hw,Bool.false_eq_true,if_false];exact⟨hab,h⟩
theorem ic.of_same {o:Oper} {v:Value} {a a':Act} (hy:ic P ops S o v a) (he:execOp a'.eval o=execOp a.eval o)
  (hw:Region.wanted o (yielded ops a'.tmps)=Region.wanted o (yielded ops a.tmps)) (hb:∀w,o.about P w a'.eval=o.about P w a.eval):ic P ops S o v a':=
 ⟨hy.1.of_same he hw,fun w=>by rw[hb w];exact hy.2 w⟩
theorem wpOpIn_putU {j:Nat} {oi oj:Oper} {v:Value} (hdj:∀c,oj.op≠.defer c) (hj:ops[j]?=some oj) (hap:oi.apart ops oj=true)
  (hsi:∀cs b,oi.op≠.select cs b) (hsj:∀cs b,oj.op≠.select cs b)
  (hQ:∀c a w,Q (.panic c) (a.put oi.dst v) w→Q (.panic c) a w) {K:Act→World→Prop} {a:Act} {w:World}
  (hy:ic P ops S oi v a) (h:wpOpIn F n P ops Q j K (a.put oi.dst v) w):
  wpOpIn F n P ops Q j (fun a' w'=>ic P ops S oi v a'∧K (a'.put oi.dst v) w') a w:=by
 obtain⟨h1,h2,h3⟩:=Oper.apart_spec hap
 have keep:∀(a:Act),ic P ops S oi v a→∀u,ic P ops S oi v (a.put oj.dst u):=fun a hy u=>
  hy.of_same (execOp_put oi hsi a oj.dst u h3) (wanted_put oi a oj.dst u h3) (fun w=>about_put oi w a oj.dst u h3)
 have keepD:∀d,ic P ops S oi v {a with defers:=d ::a.defers}:=fun d=>hy.of_same rfl rfl (fun _=>rfl)
 unfold wpOpIn at *
 simp only[hj] at *
 rw[wanted_put oj a oi.dst v h1,about_put oj w a oi.dst v h1] at h
 split
 ·rename_i hw
  simp only[hw,if_true] at h
  unfold Oper.wpIn at *
  rw[about_put oj w a oi.dst v h1] at h
  refine⟨h.1,?_⟩
  have h:=h.2
  rw[Oper.semAt_eq _ _ _ hdj,execOp_put oj hsj a oi.dst v h1] at h
  rw[Oper.semAt_eq _ _ _ hdj]
  generalize (execOp a.eval oj).run P w=r at *
  cases r with
  | ok x w'=>
   cases x<;>simp only[Oper.uponIn] at h ⊢
   case value u=>exact⟨keep a hy u,by rw[←Act.put_comm a v u h2];exact h⟩
   case skip=>exact⟨keep a hy _,by rw[←Act.put_comm a v undef h2];exact h⟩
   case defer d=>
    refine⟨keep _ (keepD d) _,?_⟩
    rw[←Act.put_comm _ v undef h2,←Act.put_defers]
    exact h
   case enter f args=>
    refine⟨h.1,CallsIn.mono h.2 fun e w'' he=>?_⟩
    cases e with
    | returned u=>exact⟨keep a hy u,by rw[←Act.put_comm a v u h2];exact he⟩
    | panicked c=>exact hQ _ _ _ he
    | outgrown=>exact he
   case row row args=>exact⟨h.1,RowsIn.mono h.2 fun u w'' he=>⟨keep a hy u,by rw[←Act.put_comm a v u h2];exact he⟩⟩
   case round l f tmps assign body=>
    refine⟨h.1,RoundIn.mono h.2 fun e w'' he=>?_⟩
    cases e with
    | returned u=>exact⟨keep a hy u,by rw[←Act.put_comm a v u h2];exact he⟩
    | panicked c=>exact hQ _ _ _ he
    | outgrown=>exact he
  | halt x w'=>
   cases x<;>simp only[Oper.uponIn] at h ⊢
   case panic u=>exact hQ _ _ _ h
 ·rename_i hw
  simp only[hw] at h
  exact⟨h.1,keep a hy _,by rw[←Act.put_comm a v undef h2];exact h.2⟩
def jb3 (md:Region.Mode) (ops:Array Oper) (m i:Nat):Bool:=ml md ops m i || decide (ops.size≤m)
theorem te {listed:Array Bool} {i:Nat} (hw:jb3 md ops m i=true) (hi:i∈Region.ready md ops listed):¬ m∈Region.ready md ops listed:=by
 unfold jb3 at hw
 rw[Bool.or_eq_true] at hw
 rcases hw with hw|hw
 ·exact ow hw hi
 ·intro hm
  obtain⟨_,om,hom,_⟩:=mem_ready.1 hm
  have h1:=(Array.getElem?_eq_some_iff.1 hom).1
  have h2:=of_decide_eq_true hw
  omega
def pq (F:Fence) (n:Nat) (P:Program) (md:Region.Mode) (ops:Array Oper) (Q:Exit→Act→World→Prop) (S:World→Prop) (m:Nat):Nat→Array Bool→Act→World→Prop
 | 0,listed,a,w=>Region.ready md ops listed=[]∧Q .normal a w
 | fuel + 1,listed,a,w=>
  (Region.ready md ops listed=[]→Q .normal a w)∧
  ∀i∈Region.ready md ops listed,wpOpIn F n P ops Q i (fun a' w'=>(i=m∨S w')∧pq F n P md ops Q S m fuel (listed.setIfInBounds i true) a' w') a w
theorem pq.abs {fuel:Nat} {listed:Array Bool} {a:Act} {w:World} (h:∀w',w'=w→pq F n P md ops Q S m fuel listed a w'):pq F n P md ops Q S m fuel listed a w:=h w rfl
theorem any_of_UI:∀(fuel:Nat) (listed:Array Bool) (a:Act) (w:World),pq F n P md ops Q S m fuel listed a w→wpAnyIn F n P md ops Q fuel listed a w
 | 0,_,_,_,h=>h
 | fuel + 1,_,_,_,h=>⟨h.1,fun i hi=>wpOpIn_mono (fun a' w' h'=>any_of_UI fuel _ a' w' h'.2) (h.2 i hi)⟩
theorem UI_first {i:Nat} {oi:Oper} {v:Value} (hnd:ua ops=true) (hi:ops[i]?=some oi) (hwt:jb3 md ops m i=true) (hsel:∀(j:Nat) (o:Oper) cs b,ops[j]?=some o→o.op≠.select cs b)
  (hQ:∀c a w,Q (.panic c) (a.put oi.dst v) w→Q (.panic c) a w):
  ∀(fuel:Nat) (listed:Array Bool) (a:Act) (w:World),
   (∀j oj,ops[j]?=some oj→j≠i→listed.getD j true=false→(∀e∈oj.after,Region.binds md e=true→e.on≠i)→oi.apart ops oj=true)→
   i∈Region.ready md ops listed→ic P ops S oi v a→S w→
   pq F n P md ops Q S m fuel (listed.setIfInBounds i true) (a.put oi.dst v) w→pq F n P md ops Q S m (fuel + 1) listed a w:=by
 intro fuel
 induction fuel with
 | zero=>
  intro listed a w _ hr hy hS H
  refine⟨fun h=>(by rw[h] at hr;cases hr),fun j hj=>?_⟩
  by_cases hji:j=i
  ·subst hji;exact hy.wpOpIn (nc hnd hi) hi hS ⟨.inr hS,H⟩
  ·have:=ready_mono hj hji
   rw[H.1] at this
   cases this
 | succ fuel ih=>
  intro listed a w hfree hr hy hS H
  refine⟨fun h=>(by rw[h] at hr;cases hr),fun j hj=>?_⟩
  by_cases hji:j=i
  ·subst hji;exact hy.wpOpIn (nc hnd hi) hi hS ⟨.inr hS,H⟩
  ·have hjm:j≠m:=fun e=>te hwt hr (e ▸ hj)
   have h1:=H.2 j (ready_mono hj hji)
   obtain⟨hjun,oj,hoj,hall⟩:=mem_ready.1 hj
   have hnot:∀e∈oj.after,Region.binds md e=true→e.on≠i:=fun e he hb heq=>by
    have h1:=hall e he hb
    have h0:=(mem_ready.1 hr).1
    rw[heq] at h1
    rcases Nat.lt_or_ge i listed.size with h'|h'
    ·simp[h'] at h0 h1;rw[h0] at h1;cases h1
    ·simp[Array.getElem?_eq_none h'] at h1
   have h2:=wpOpIn_putU (nc hnd hoj) hoj (hfree j oj hoj hji hjun hnot) (fun cs b=>hsel i oi cs b hi) (fun cs b=>hsel j oj cs b hoj) hQ hy h1
   have hfree':∀k ok,ops[k]?=some ok→k≠i→(listed.setIfInBounds j true).getD k true=false→
     (∀e∈ok.after,Region.binds md e=true→e.on≠i)→oi.apart ops ok=true:=fun k ok hk hki hun hno=>by
    refine hfree k ok hk hki ?_ hno
    by_cases hjk:j=k
    ·subst hjk;exact hjun
    ·rw[getD_set_ne true hjk] at hun;exact hun
   refine wpOpIn_mono (fun a' w' h3=>⟨.inr (h3.2.1.resolve_left hjm),ih (listed.setIfInBounds j true) a' w' hfree' (ready_mono hr (Ne.symm hji)) h3.1 (h3.2.1.resolve_left hjm) ?_⟩) h2
   rw[Array.setIfInBounds_comm _ _ hji]
   exact h3.2.2
theorem jq {i:Nat} {oi:Oper} {v:Value} {fuel:Nat} {listed:Array Bool} {a:Act} {w:World} (hnd:ua ops=true) (hi:ops[i]?=some oi) (hwt:jb3 md ops m i=true)
  (hs:Region.noSelect ops=true) (hf:Region.free md ops listed i=true) (hr:(Region.ready md ops listed).contains i=true)
  (hQ:∀c a w,Q (.panic c) (a.put oi.dst v) w→Q (.panic c) a w) (hy:YieldsIf P ops S oi v a) (hab:∀w,oi.about P w a.eval=none) (hS:S w)
  (h:pq F n P md ops Q S m fuel (listed.setIfInBounds i true) (a.put oi.dst v) w):pq F n P md ops Q S m (fuel + 1) listed a w:=
 UI_first hnd hi hwt (Region.noSelect_spec hs) hQ fuel listed a w (Region.free_spec hi hf) (by simpa using hr) ⟨hy,hab⟩ hS h
theorem wpOpIn_one {i:Nat} {o:Oper} {a:Act} {w:World} {K:Act→World→Prop} (ho:ops[i]?=some o)
  (h:∀K':Act→World→Prop,(∀a w,K a w→K' a w)→if Region.wanted o (yielded ops a.tmps)=true then o.wpIn F n P a w K' Q else (∀f,o.about P w a.eval=some f→F.fn f)∧K' (a.put o.dst undef) w):wpOpIn F n P ops Q i K a w:=by
 unfold wpOpIn
 simp only[ho]
 exact h K (fun _ _ h=>h)
theorem UI_one {i:Nat} {o:Oper} {fuel:Nat} {listed:Array Bool} {a:Act} {w:World} (hr:Region.ready md ops listed=[i]) (ho:ops[i]?=some o)
  (h:∀K':Act→World→Prop,Shut (∀a w,S w→(S w→pq F n P md ops Q S m fuel (listed.setIfInBounds i true) a w)→K' a w)→if Region.wanted o (yielded ops a.tmps)=true then o.wpIn F n P a w K' Q else (∀f,o.about P w a.eval=some f→F.fn f)∧K' (a.put o.dst undef) w):
  pq F n P md ops Q S m (fuel + 1) listed a w:=by
 refine⟨fun h0=>(by rw[h0] at hr;cases hr),fun j hj=>?_⟩
 rw[hr] at hj
 simp only[List.mem_singleton] at hj
 subst hj
 exact wpOpIn_one ho (fun K' hK=>h K' (fun a w hS hW=>hK a w ⟨.inr hS,hW hS⟩))
theorem UI_end {fuel:Nat} {listed:Array Bool} {a:Act} {w:World} (hr:Region.ready md ops listed=[]) (h:Q .normal a w):pq F n P md ops Q S m fuel listed a w:=by
 cases fuel with
 | zero=>exact⟨hr,h⟩
 | succ n=>exact⟨fun _=>h,by rw[hr];simp⟩
theorem UI_region {id:Nat} {a:Act} {w:World} (hm:P.follows .mixedOrders=true) (m:Nat)
  (h:pq F n P .any ops Q S m ops.size (Array.replicate ops.size false) a w.drew):(Code.region id ops true).wpIn F n P Q a w:=
 wpIn_region_any hm (any_of_UI _ _ _ _ h)
end
end Go.Proofs.YtidmjdmmpajooaaGreat
namespace Go.Proofs.YtidmjdmmpajooaaGreat
open Go Go.RowKit
section
variable {F:Fence} {n:Nat} {P:Program}
end
section
variable {P:Program} {ops:Array Oper} {Q:Exit→Act→World→Prop} {md:Region.Mode} {S:World→Prop} {m l n:Nat}
theorem rows_wide {row:String} {args:Array Value} {w:World} {R:Value→World→Prop} (h:_root_.Go.Rows P row args w R):RowsIn (Fence.wide.inRound l) n P row args w R:=
 by
 intro c cs _
 obtain⟨v,w',r,s⟩:=h c cs
 exact⟨v,w',r,stepsIn_wide.2 s⟩
theorem upon_in {o:Oper} {a:Act} {next:Act→World→Prop} {r:Result Next} (h:o.upon P a next Q r):o.uponIn (Fence.wide.inRound l) n P a next Q r:=by
 cases r with
 | ok x w'=>
  cases x
  case value v=>exact h
  case skip=>exact h
  case defer d=>exact h
  case enter f args=>exact⟨fun e=>(by cases e),(callsIn_wide.2 h).inRound l⟩
  case row row args=>exact⟨fun e=>(by cases e),rows_wide h⟩
  all_goals exact h.elim
 | halt x w'=>cases x<;>exact h
theorem wpOp_in (hd:ua ops=true) (hQ:∀a w,¬ Q .outgrown a w) {i:Nat} {K:Act→World→Prop} {a:Act} {w:World} (h:wpOp P ops Q i K a w):
  wpOpIn (Fence.wide.inRound l) n P ops Q i K a w:=by
 unfold wpOp at h
 unfold wpOpIn
 cases ho:ops[i]? with
 | none=>simp only[ho] at h ⊢;exact h
 | some o=>
  simp only[ho] at h ⊢
  split
  ·rename_i hw
   simp only[hw,if_true] at h
   rcases h with h|⟨_,a',w',hx⟩
   ·refine⟨fun _ _=>trivial,?_⟩
    rw[Oper.semAt_eq _ _ _ (nc hd ho)]
    exact upon_in h
   ·exact (hQ _ _ hx).elim
  ·rename_i hw
   simp only[hw] at h
   exact⟨fun _ _=>trivial,h⟩
theorem wpAny_in (hd:ua ops=true) (hQ:∀a w,¬ Q .outgrown a w):∀(fuel:Nat) (listed:Array Bool) (a:Act) (w:World),
  wpAny P md ops Q fuel listed a w→wpAnyIn (Fence.wide.inRound l) n P md ops Q fuel listed a w
 | 0,_,_,_,h=>h
 | fuel + 1,_,_,_,h=>⟨h.1,fun i hi=>wpOpIn_mono (fun a' w' h'=>wpAny_in hd hQ fuel _ a' w' h') (wpOp_in hd hQ (h.2 i hi))⟩
theorem jb5 {id:Nat} {a:Act} {w:World} (hd:ua ops=true) (hQ:∀a w,¬ Q .outgrown a w) (hm:P.follows .mixedOrders=true) (m:Nat)
  (h:cq P .any ops Q S m ops.size (Array.replicate ops.size false) a w.drew):(Code.region id ops true).wpIn (Fence.wide.inRound l) n P Q a w:=
 wpIn_region_any hm (wpAny_in hd hQ _ _ _ _ (jb7 _ _ _ _ h))
end
end Go.Proofs.YtidmjdmmpajooaaGreat
namespace Go.Proofs.YtidmjdmmpajooaaGreat
open Go Go.RowKit
section
variable {F:Fence} {n:Nat} {P:Program}
def endJ (l:Nat) (rec:LoopState→Option Code→Loop) (R:Ending→World→Prop):Exit→Act→World→Prop
 | .normal,_,W=>W.heap[l]?=some (.loop (rec .busy none))∧R (.returned (.bool true)) (W.putObj l (.loop (rec .ready none)))
 | .ret,_,W=>W.heap[l]?=some (.loop (rec .busy none))∧R (.returned (.bool false)) (W.putObj l (.loop (rec .done (some .ret))))
 | .exit id,_,W=>W.heap[l]?=some (.loop (rec .busy none))∧R (.returned (.bool false)) (W.putObj l (.loop (rec .done (some (.exit id)))))
 | _,_,_=>False
theorem rangeJointR {g:Operand} {ps:Array Tmp} {assign body:Code} {Q:Exit→Act→World→Prop} {a:Act} {w:World}
  (hro:F.round=none) (h1:1≤n) {gf:Nat} {lb:Array Value} (hg:a.eval g=.func (.func gf) #[] lb) (hFg:F.fn gf) (eg:∀args w,(callFunc gf args).run P w=.ok (.enter gf args) w)
  (h:∀(rec:LoopState→Option Code→Loop) (l D:Nat) (W1:World),l=w.heap.size + 1→D=w.heap.size→W1=(w.alloc (.deferred (some []))).alloc (.loop (rec .ready none))→
   (∀(args:Array Value) (W:World) (R:Ending→World→Prop),args.size=ps.size→W.heap[l]?=some (.loop (rec .ready none))→
    assign.wpIn (F.inRound l) (n - 1 - 1) P (Exit.then (fun a₁ w₁=>w₁.heap[l]?=some (.loop (rec .ready none))∧
     body.wpIn (F.inRound l) (n - 1 - 1) P (endJ l rec R) a₁ (w₁.putObj l (.loop (rec .busy none)))) (fun _ _ _=>False))
     {tmps:=(ps.zip args).foldl (fun t (p,v)=>t.setIfInBounds p v) a.tmps,defers:=[]} W→
    YieldAt F (n - 1 - 1) P l args W R)→
   CallsIn F (n - 1) P gf (#[.func (.yield l) #[] #[]] ++ lb) W1 (fun e W2=>(∃v,e=.returned v)∧
    ((W2.heap[l]?=some (.loop (rec .ready none))∧Q .normal {a with defers:={target:=.collected D,args:=#[]} ::a.defers} (W2.putObj l (.loop (rec .exhausted none))))∨
     ∃c,W2.heap[l]?=some (.loop (rec .done (some c)))∧c.wpIn F n P Q {a with defers:={target:=.collected D,args:=#[]} ::a.defers} (W2.putObj l (.loop (rec .exhausted (some c))))))):
  (Code.rangeFunc g ps assign body).wpIn F n P Q a w:=by
 refine wpIn_rangeFunc ?_
 intro fn hfn
 rw[hro]
 obtain⟨rec,hrec⟩:∃rec:LoopState→Option Code→Loop,rec=fun st pe=>{state:=st,pending:=pe,fn,tmps:=a.tmps,params:=ps,assign,body,defers:=w.heap.size}:=⟨_,rfl⟩
 obtain⟨W1,hW1⟩:∃W1,W1=(w.alloc (.deferred (some []))).alloc (.loop (rec .ready none)):=⟨_,rfl⟩
 have hc:=h rec (w.heap.size + 1) w.heap.size W1 rfl rfl hW1 (by
  intro args W R hs hl ha
  have hy:=run_yield (P:=P) (args:=args) hl (by rw[hrec];exact hs)
  rw[hrec] at hy
  refine⟨fn,_,assign,body,hy,roundIn_of_wpIn hfn (wpIn_mono ha ?_)⟩
  rintro e a₁ w₁ hp
  cases e with
  | normal=>
   obtain⟨hl1,hb⟩:=hp
   have hbr:=run_beginRound (P:=P) hl1 (by rw[hrec])
   rw[show ({rec .ready none with state:=.busy}:Loop)=rec .busy none by rw[hrec]] at hbr
   refine⟨_,hbr,wpIn_mono hb ?_⟩
   rintro e a3 W3 hp3
   have fin:∀(jump:Option Code),W3.heap[w.heap.size + 1]?=some (.loop (rec .busy none))→(Instr.endRound (w.heap.size + 1) jump).run P W3=.ok (.bool jump.isNone) (W3.putObj (w.heap.size + 1) (.loop (rec (if jump.isNone then .ready else .done) jump))):=fun jump hl3=>by
    have:=run_endRound (P:=P) jump hl3
    rw[hrec] at this ⊢
    exact this
   cases e with
   | normal=>exact⟨_,_,fin none hp3.1,hp3.2⟩
   | ret=>exact⟨_,_,fin (some .ret) hp3.1,hp3.2⟩
   | exit id=>exact⟨_,_,fin (some (.exit id)) hp3.1,hp3.2⟩
   | goto t=>exact hp3.elim
   | panic ch=>exact hp3.elim
   | outgrown=>exact hp3.elim
  | exit id=>exact hp.elim
  | goto t=>exact hp.elim
  | ret=>exact hp.elim
  | panic ch=>exact hp.elim
  | outgrown=>exact hp.elim)
 refine⟨w.heap.size + 1,[{target:=.collected w.heap.size,args:=#[]}],W1,{target:=.fn (.func gf) lb,args:=#[.func (.yield (w.heap.size + 1)) #[] #[]]},W1,gf,
  #[.func (.yield (w.heap.size + 1)) #[] #[]] ++ lb,W1,?_,?_,?_,?_,fun _=>h1,?_⟩
 ·rw[hW1,hrec];exact run_enterLoop_outer _ _ _ _ _
 ·simp only[resolve,hg]
  simp[go_sem]
 ·intro f' hf';simp[Target.leads] at hf';subst hf';exact hFg
 ·simp[invoke,go_sem,eg]
 ·refine hc.mono ?_
  rintro e W2 ⟨⟨v,rfl⟩,⟨hl,hQ⟩|⟨c,hl,hQ⟩⟩
  ·have hel:=run_endLoop (P:=P) hl (by rw[hrec];simp)
   rw[show ({rec .ready none with state:=.exhausted}:Loop)=rec .exhausted none by rw[hrec],show (rec .ready none).pending=none by rw[hrec]] at hel
   exact⟨none,_,hel,hQ⟩
  ·have hel:=run_endLoop (P:=P) hl (by rw[hrec];simp)
   rw[show ({rec .done (some c) with state:=.exhausted}:Loop)=rec .exhausted (some c) by rw[hrec],show (rec .done (some c)).pending=some c by rw[hrec]] at hel
   exact⟨some c,_,hel,hQ⟩
theorem rangeJointN {l₀:Nat} {r₀:Loop} {g:Operand} {ps:Array Tmp} {assign body:Code} {Q:Exit→Act→World→Prop} {a:Act} {w:World}
  (hro:F.round=some l₀) (hl₀:w.heap[l₀]?=some (.loop r₀)) (h1:1≤n) {gf:Nat} {lb:Array Value} (hg:a.eval g=.func (.func gf) #[] lb) (hFg:F.fn gf) (eg:∀args w,(callFunc gf args).run P w=.ok (.enter gf args) w)
  (h:∀(rec:LoopState→Option Code→Loop) (l:Nat) (W1:World),l=w.heap.size→W1=w.alloc (.loop (rec .ready none))→
   (∀(args:Array Value) (W:World) (R:Ending→World→Prop),args.size=ps.size→W.heap[l]?=some (.loop (rec .ready none))→
    assign.wpIn (F.inRound l) (n - 1 - 1) P (Exit.then (fun a₁ w₁=>w₁.heap[l]?=some (.loop (rec .ready none))∧
     body.wpIn (F.inRound l) (n - 1 - 1) P (endJ l rec R) a₁ (w₁.putObj l (.loop (rec .busy none)))) (fun _ _ _=>False))
     {tmps:=(ps.zip args).foldl (fun t (p,v)=>t.setIfInBounds p v) a.tmps,defers:=[]} W→
    YieldAt F (n - 1 - 1) P l args W R)→
   CallsIn F (n - 1) P gf (#[.func (.yield l) #[] #[]] ++ lb) W1 (fun e W2=>(∃v,e=.returned v)∧
    ((W2.heap[l]?=some (.loop (rec .ready none))∧Q .normal a (W2.putObj l (.loop (rec .exhausted none))))∨
     ∃c,W2.heap[l]?=some (.loop (rec .done (some c)))∧c.wpIn F n P Q a (W2.putObj l (.loop (rec .exhausted (some c))))))):
  (Code.rangeFunc g ps assign body).wpIn F n P Q a w:=by
 refine wpIn_rangeFunc ?_
 intro fn hfn
 rw[hro]
 obtain⟨rec,hrec⟩:∃rec:LoopState→Option Code→Loop,rec=fun st pe=>{state:=st,pending:=pe,fn,tmps:=a.tmps,params:=ps,assign,body,defers:=r₀.defers}:=⟨_,rfl⟩
 obtain⟨W1,hW1⟩:∃W1,W1=w.alloc (.loop (rec .ready none)):=⟨_,rfl⟩
 have hc:=h rec w.heap.size W1 rfl hW1 (by
  intro args W R hs hl ha
  have hy:=run_yield (P:=P) (args:=args) hl (by rw[hrec];exact hs)
  rw[hrec] at hy
  refine⟨fn,_,assign,body,hy,roundIn_of_wpIn hfn (wpIn_mono ha ?_)⟩
  rintro e a₁ w₁ hp
  cases e with
  | normal=>
   obtain⟨hl1,hb⟩:=hp
   have hbr:=run_beginRound (P:=P) hl1 (by rw[hrec])
   rw[show ({rec .ready none with state:=.busy}:Loop)=rec .busy none by rw[hrec]] at hbr
   refine⟨_,hbr,wpIn_mono hb ?_⟩
   rintro e a3 W3 hp3
   have fin:∀(jump:Option Code),W3.heap[w.heap.size]?=some (.loop (rec .busy none))→(Instr.endRound w.heap.size jump).run P W3=.ok (.bool jump.isNone) (W3.putObj w.heap.size (.loop (rec (if jump.isNone then .ready else .done) jump))):=fun jump hl3=>by
    have:=run_endRound (P:=P) jump hl3
    rw[hrec] at this ⊢
    exact this
   cases e with
   | normal=>exact⟨_,_,fin none hp3.1,hp3.2⟩
   | ret=>exact⟨_,_,fin (some .ret) hp3.1,hp3.2⟩
   | exit id=>exact⟨_,_,fin (some (.exit id)) hp3.1,hp3.2⟩
   | goto t=>exact hp3.elim
   | panic ch=>exact hp3.elim
   | outgrown=>exact hp3.elim
  | exit id=>exact hp.elim
  | goto t=>exact hp.elim
  | ret=>exact hp.elim
  | panic ch=>exact hp.elim
  | outgrown=>exact hp.elim)
 refine⟨w.heap.size,[],W1,{target:=.fn (.func gf) lb,args:=#[.func (.yield w.heap.size) #[] #[]]},W1,gf,
  #[.func (.yield w.heap.size) #[] #[]] ++ lb,W1,?_,?_,?_,?_,fun _=>h1,?_⟩
 ·rw[hW1,hrec];exact run_enterLoop_inner hl₀ _ _ _ _ _
 ·simp only[resolve,hg]
  simp[go_sem]
 ·intro f' hf';simp[Target.leads] at hf';subst hf';exact hFg
 ·simp[invoke,go_sem,eg]
 ·refine hc.mono ?_
  rintro e W2 ⟨⟨v,rfl⟩,⟨hl,hQ⟩|⟨c,hl,hQ⟩⟩
  ·have hel:=run_endLoop (P:=P) hl (by rw[hrec];simp)
   rw[show ({rec .ready none with state:=.exhausted}:Loop)=rec .exhausted none by rw[hrec],show (rec .ready none).pending=none by rw[hrec]] at hel
   exact⟨none,_,hel,hQ⟩
  ·have hel:=run_endLoop (P:=P) hl (by rw[hrec];simp)
   rw[show ({rec .done (some c) with state:=.exhausted}:Loop)=rec .exhausted (some c) by rw[hrec],show (rec .done (some c)).pending=some c by rw[hrec]] at hel
   exact⟨some c,_,hel,hQ⟩
end
end Go.Proofs.YtidmjdmmpajooaaGreat
namespace Go.Proofs.YtidmjdmmpajooaaGreat
open Go.RowKit Dg
attribute [local go_sem ↓] Go.wp_at_zero Go.wp_at_succ
def Kp (n:Nat) (W W':World):Prop:=W.heap.size≤W'.heap.size∧∀b,n≤b→b < W.heap.size→TyB 24 W b→W'.heap[b]?=W.heap[b]?
theorem Kp.refl (n:Nat) (W:World):Kp n W W:=⟨ag _,fun _ _ _ _=>rfl⟩
theorem Kp.ty {n:Nat} {A B:World} (h:Kp n A B) {b:Nat} (h1:n≤b) (h2:b < A.heap.size) (ht:TyB 24 A b):TyB 24 B b:=by
 obtain⟨cs,fr,e⟩:=id ht
 exact⟨cs,fr,(h.2 b h1 h2 ht).trans e⟩
theorem Kp.trans {n:Nat} {A B C:World} (h:Kp n A B) (k:Kp n B C):Kp n A C:=⟨Nat.le_trans h.1 k.1,fun b hb hl ht=>(k.2 b hb (by have:=h.1;omega) (h.ty hb hl ht)).trans (h.2 b hb hl ht)⟩
theorem Kp.below {n:Nat} {A B C:World} (h:Kp n A B) (hb:Below B.heap.size B C):Kp n A C:=h.trans ⟨hb.size,fun b _ hl _=>hb.block b hl⟩
theorem kpJ (n:Nat) (A B:World) {C:World} (h:Kp n A B) (hb:Below B.heap.size B C):Kp n A C:=h.below hb
theorem Kp.gr {n:Nat} {A B C:World} {gs:List Nat} (h:Kp n A B) (hG:Gr gs B C) (hg:∀g∈gs,g < n∨A.heap.size≤g):Kp n A C:=
 ⟨Nat.le_trans h.1 hG.size,fun b h1 h2 ht=>(hG.block b (by have:=h.1;omega) (fun hm=>by have:=hg b hm;omega)).trans (h.2 b h1 h2 ht)⟩
theorem Kp.gr1 {n:Nat} {A B C:World} {g:Nat} (h:Kp n A B) (hG:Gr [g] B C) (hg:g < n∨A.heap.size≤g):Kp n A C:=h.gr hG (fun x hx=>by
 cases hx with
 | head=>exact hg
 | tail _ h=>cases h)
theorem Kp.gr2 {n:Nat} {A B C:World} {g g':Nat} (h:Kp n A B) (hG:Gr [g,g'] B C) (hg:g < n∨A.heap.size≤g) (hg':g' < n∨A.heap.size≤g'):Kp n A C:=h.gr hG (fun x hx=>by
 cases hx with
 | head=>exact hg
 | tail _ h=>cases h with
  | head=>exact hg'
  | tail _ h=>cases h)
theorem Kp.only {n:Nat} {A B C:World} {T:TypeId} (h:Kp n A B) (ho:dg T B C) (hT:T≠24) (_:True):Kp n A C:=
 ⟨Nat.le_trans h.1 ho.size,fun b h1 h2 ht=>(ho.block b (by have:=h.1;omega) (fun h'=>TyB.ne h' (h.ty h1 h2 ht) hT rfl)).trans (h.2 b h1 h2 ht)⟩
theorem Kp.putL {n:Nat} {A B:World} (h:Kp n A B) {l:Nat} (hb:l < n∨A.heap.size≤l) (o:Obj):Kp n A (B.putObj l o):=
 ⟨by rw[World.putObj_size];exact h.1,fun q h1 h2 ht=>(World.putObj_heap_other (by omega)).trans (h.2 q h1 h2 ht)⟩
structure AtB (b:Nat) (o:Obj) (W:World):Prop where
 h:W.heap[b]?=some o
theorem atB (b:Nat) (o:Obj) (W:World) {W':World} (h:AtB b o W) (hb:Below W.heap.size W W'):AtB b o W':=⟨(hb.block b (Array.getElem?_eq_some_iff.1 h.h).1).trans h.h⟩
theorem AtB.gr {b:Nat} {o:Obj} {W W':World} {gs:List Nat} (h:AtB b o W) (hG:Gr gs W W') (hn:b ∉ gs):AtB b o W':=⟨(hG.block b (Array.getElem?_eq_some_iff.1 h.h).1 hn).trans h.h⟩
theorem AtB.only {b:Nat} {o:Obj} {W W':World} {T:TypeId} (h:AtB b o W) (ho:dg T W W') (hc:o.isCells=false):AtB b o W':=⟨(ho.block b (Array.getElem?_eq_some_iff.1 h.h).1 (fun ⟨cs,fr,e⟩=>by
 have h':=h.h
 rw[e] at h'
 cases h'
 cases hc)).trans h.h⟩
theorem AtB.onlyL {b:Nat} {r:Loop} {W W':World} {T:TypeId} (h:AtB b (.loop r) W) (ho:dg T W W') (_:True) (_:True):AtB b (.loop r) W':=h.only ho rfl
theorem AtB.onlyD {b:Nat} {r:Option (List Deferred)} {W W':World} {T:TypeId} (h:AtB b (.deferred r) W) (ho:dg T W W') (_:True) (_:True):AtB b (.deferred r) W':=h.only ho rfl
def nxZ (l:List Pt) (k:Nat):Pt:=ptZ l ((k + 1) % l.length)
abbrev egV (a b:Pt):Value:=.agg #[.int .i64 a.1,.int .i64 a.2,.int .i64 b.1,.int .i64 b.2]
theorem xm (k n:Nat):Int.tmod ((k:Int) + 1) (n:Int)=((k + 1) % n:Nat):=by
 rw[Int.tmod_eq_emod_of_nonneg (by omega)];simp
theorem ph (ao:Option Addr) (n c:Nat) (w:World):Calls Tryz.prog 37 #[.slice ao n c] w (fun e w'=>e=.returned (.func (.func 65) #[] #[.pointer (some ⟨w.heap.size,0,none⟩)])∧Bx w' w.heap.size 32 #[.slice ao n c]∧Below w.heap.size w w'):=by
 have hs:=Below.refl w.heap.size w
 go_enter Tryz.func37,Tryz.ntmps37
 go_wp2
 go_ret
 exact⟨rfl,Bx.new _ _ _,(Below.refl _ _).alloc (ag _) _⟩
theorem edg_in (lp bx:Nat) (v:Value) (l:List Pt) (J:Nat→World→Prop) (Jx:World→Prop) (w0 u:World) (hl:Pts w0 v l) (h2:l.length≤1000000000)
  (h0s:w0.heap.size≤u.heap.size)
  (hJw:∀k W,J k W→Below w0.heap.size w0 W∧W.cell? ⟨bx,0,none⟩=some v)
  (hXw:∀W,Jx W→Below w0.heap.size w0 W∧W.cell? ⟨bx,0,none⟩=some v)
  (hJb:∀k W W',J k W→Below W.heap.size W W'→J k W')
  (hXb:∀W W',Jx W→Below W.heap.size W W'→Jx W')
  (hY:∀k W,k < l.length→J k W→u.heap.size≤W.heap.size→YieldAt Fence.wide 0 Tryz.prog lp #[.int .i64 k,egV (ptZ l k) (nxZ l k)] W fun e W'=>
   Kp u.heap.size W W'∧((e=.returned (.bool true)∧J (k + 1) W')∨(e=.returned (.bool false)∧Jx W')))
  (h0:J 0 u):Calls Tryz.prog 65 #[.func (.yield lp) #[] #[],.pointer (some ⟨bx,0,none⟩)] u fun e W'=>(∃x,e=.returned x)∧(J l.length W'∨Jx W'):=by
 obtain⟨ao,cap,rfl,hc1,hc2,hc3⟩:=hl.slice
 have HL:=ae hl
 have B1:=(hJw _ _ h0).2
 have hus:u.heap.size≤u.heap.size:=ag _
 clear hl
 go_enter Tryz.func65,Tryz.ntmps65
 go_wp2
 go_loopw [7] (fun iv wq=>∃k:Nat,k≤l.length∧iv=.int .i64 k∧u.heap.size≤wq.heap.size∧J k wq) (fun iv _=>l.length - (intOf iv).toNat)
 case atStart=>exact⟨0,Nat.zero_le _,rfl,hus,h0⟩
 case round=>
  clear h0 B1 hus
  obtain⟨k,hk,rfl,hn,hJ⟩:=hrel
  by_cases hlt:k < l.length
  ·have Ba:=(hJw _ _ hJ).1
   have B1:=(hJw _ _ hJ).2
   obtain⟨bb,oo,cc,hv, -, -⟩:=ep HL.out (by omega)
   injection hv with hv _ hv3
   subst hv hv3
   have hmm:(k + 1) % l.length < l.length:=Nat.mod_lt _ (by omega)
   obtain⟨E0,E1,hLb⟩:=ij HL.out hlt
   obtain⟨N0,N1, -⟩:=ij HL.out hmm
   obtain⟨m,Hm⟩:∃m,m=(k + 1) % l.length:=⟨_,rfl⟩
   obtain⟨a1,Ha1⟩:∃x,x=(ptZ l k).1:=⟨_,rfl⟩
   obtain⟨a2,Ha2⟩:∃x,x=(ptZ l k).2:=⟨_,rfl⟩
   obtain⟨b1,Hb1⟩:∃x,x=(nxZ l k).1:=⟨_,rfl⟩
   obtain⟨b2,Hb2⟩:∃x,x=(nxZ l k).2:=⟨_,rfl⟩
   rw[show (ptZ l ((k + 1) % l.length)).1=b1 from Hb1.symm] at N0
   rw[show (ptZ l ((k + 1) % l.length)).2=b2 from Hb2.symm] at N1
   rw[←Ha1] at E0
   rw[←Ha2] at E1
   rw[←Hm] at hmm N0 N1
   have HE:=ae (And.intro N0 N1)
   have hyk:=hY k
   rw[show egV (ptZ l k) (nxZ l k)=.agg #[.int .i64 a1,.int .i64 a2,.int .i64 b1,.int .i64 b2] from by rw[Ha1,Ha2,Hb1,Hb2]] at hyk
   have B3:IntKind.i64.wrap ((k:Int) + 1)=(k:Int) + 1:=IntWalk.i64_in _ (by omega)
   have B4:Int.tmod ((k:Int) + 1) (l.length:Int)=(m:Int):=by rw[Hm];exact xm _ _
   have B5:IntKind.i64.wrap (m:Int)=(m:Int):=IntWalk.i64_in _ (by omega)
   have SW3:(0:Int)≤(m:Int):=by omega
   have SW4:(m:Int) < (l.length:Int):=by omega
   have B6:((l.length:Int) == 0)=false:=by rw[beq_eq_false_iff_ne];omega
   have B7:(l=[])=False:=eq_false (fun e=>by rw[e] at hlt;exact absurd hlt (by simp))
   replace B3:=ae B3
   replace B4:=ae B4
   replace B5:=ae B5
   replace B6:=ae B6
   replace B7:=ae B7
   clear Ha1 Ha2 Hb1 Hb2 Hm
   replace E0:=ah E0 Ba
   replace E1:=ah E1 Ba
   replace N0:=ah N0 Ba
   replace N1:=ah N1 Ba
   have bk1:(0:Int)≤(k:Int):=by omega
   have bk4:(k:Int) < (l.length:Int):=by omega
   go_wp2_with fail
   refine Code.abs ?_
   intro w1 hW
   have hb:Below wr.heap.size wr w1:=by rw[hW];exact (Below.refl _ _).alloc (ag _) _
   have B2:Bx w1 wr.heap.size 24 #[.int .i64 a1,.int .i64 a2]:=by rw[hW];exact Bx.new _ _ _
   replace hJ:=hJb _ _ _ hJ hb
   replace N0:=ah N0 hb
   replace N1:=ah N1 hb
   replace B1:=ah B1 hb
   have hn1:u.heap.size≤w1.heap.size:=Nat.le_trans hn hb.size
   clear hW hb E0 E1 Ba
   refine (wpIn_wide (n:=1)).1 ?_
   refine UI_region (S:=fun w'=>w'.cell? ⟨wr.heap.size,0,none⟩=some (.int .i64 a1)∧w'.cell? ⟨wr.heap.size,1,none⟩=some (.int .i64 a2)∧w'.cell? ⟨bx,0,none⟩=some (.slice (some ⟨bb,oo,none⟩) l.length cap)∧w'.cell? ⟨bb,oo + m * 2,none⟩=some (.int .i64 b1)∧w'.cell? ⟨bb,oo + m * 2 + 1,none⟩=some (.int .i64 b2)) (by kernel_rfl) 14 ?_
   refine pq.abs ?_
   intro w2 hW
   have hb:Below w1.heap.size w1 w2:=by rw[hW];exact de _
   replace B2:=B2.mono hb
   replace hJ:=hJb _ _ _ hJ hb
   replace N0:=ah N0 hb
   replace N1:=ah N1 hb
   replace B1:=ah B1 hb
   have hn2:u.heap.size≤w2.heap.size:=Nat.le_trans hn1 hb.size
   clear hW hb
   have B8:=B2.at 0 rfl
   have B9:=B2.at 1 rfl
   have hH:=(show w2.cell? ⟨wr.heap.size,0,none⟩=some (.int .i64 a1)∧w2.cell? ⟨wr.heap.size,1,none⟩=some (.int .i64 a2)∧w2.cell? ⟨bx,0,none⟩=some (.slice (some ⟨bb,oo,none⟩) l.length cap)∧w2.cell? ⟨bb,oo + m * 2,none⟩=some (.int .i64 b1)∧w2.cell? ⟨bb,oo + m * 2 + 1,none⟩=some (.int .i64 b2) from ⟨B8,B9,B1,N0,N1⟩)
   refine jq (i:=0) (v:=?_) (by kernel_rfl) rfl (by kernel_rfl) (by kernel_rfl) (by kernel_rfl) (by kernel_rfl) (fun _ _ _ h=>h) (Or.inl ⟨by rfl,?_⟩) (fun _=>rfl) hH ?_
   rotate_left
   ·intro w B0
    try dsimp only at B0
    go_simp
    try with_reducible rfl
   try simp only[Act.put,List.setIfInBounds_toArray,List.set_cons_zero,List.set_cons_succ]
   refine jq (i:=1) (v:=?_) (by kernel_rfl) rfl (by kernel_rfl) (by kernel_rfl) (by kernel_rfl) (by kernel_rfl) (fun _ _ _ h=>h) (Or.inl ⟨by rfl,?_⟩) (fun _=>rfl) hH ?_
   rotate_left
   ·intro w B0
    try dsimp only at B0
    go_simp
    try with_reducible rfl
   try simp only[Act.put,List.setIfInBounds_toArray,List.set_cons_zero,List.set_cons_succ]
   refine jq (i:=2) (v:=?_) (by kernel_rfl) rfl (by kernel_rfl) (by kernel_rfl) (by kernel_rfl) (by kernel_rfl) (fun _ _ _ h=>h) (Or.inl ⟨by rfl,?_⟩) (fun _=>rfl) hH ?_
   rotate_left
   ·intro w B0
    try dsimp only at B0
    go_simp
    try with_reducible rfl
   try simp only[Act.put,List.setIfInBounds_toArray,List.set_cons_zero,List.set_cons_succ]
   refine jq (i:=3) (v:=?_) (by kernel_rfl) rfl (by kernel_rfl) (by kernel_rfl) (by kernel_rfl) (by kernel_rfl) (fun _ _ _ h=>h) (Or.inl ⟨by rfl,?_⟩) (fun _=>rfl) hH ?_
   rotate_left
   ·intro w B0
    try dsimp only at B0
    go_simp
    try with_reducible rfl
   try simp only[Act.put,List.setIfInBounds_toArray,List.set_cons_zero,List.set_cons_succ]
   refine jq (i:=4) (v:=?_) (by kernel_rfl) rfl (by kernel_rfl) (by kernel_rfl) (by kernel_rfl) (by kernel_rfl) (fun _ _ _ h=>h) (Or.inl ⟨by rfl,?_⟩) (fun _=>rfl) hH ?_
   rotate_left
   ·intro w B0
    try dsimp only at B0
    go_simp
    try with_reducible rfl
   try simp only[Act.put,List.setIfInBounds_toArray,List.set_cons_zero,List.set_cons_succ]
   refine jq (i:=5) (v:=?_) (by kernel_rfl) rfl (by kernel_rfl) (by kernel_rfl) (by kernel_rfl) (by kernel_rfl) (fun _ _ _ h=>h) (Or.inl ⟨by rfl,?_⟩) (fun _=>rfl) hH ?_
   rotate_left
   ·intro w B0
    try dsimp only at B0
    have q0:=B3.out
    have q1:=B4.out
    have q2:=B5.out
    have q5:=B6.out
    have q6:=B7.out
    go_simp
    try with_reducible rfl
   try simp only[Act.put,List.setIfInBounds_toArray,List.set_cons_zero,List.set_cons_succ]
   refine jq (i:=6) (v:=?_) (by kernel_rfl) rfl (by kernel_rfl) (by kernel_rfl) (by kernel_rfl) (by kernel_rfl) (fun _ _ _ h=>h) (Or.inl ⟨by rfl,?_⟩) (fun _=>rfl) hH ?_
   rotate_left
   ·intro w B0
    try dsimp only at B0
    go_simp
    try with_reducible rfl
   try simp only[Act.put,List.setIfInBounds_toArray,List.set_cons_zero,List.set_cons_succ]
   refine jq (i:=7) (v:=?_) (by kernel_rfl) rfl (by kernel_rfl) (by kernel_rfl) (by kernel_rfl) (by kernel_rfl) (fun _ _ _ h=>h) (Or.inl ⟨by rfl,?_⟩) (fun _=>rfl) hH ?_
   rotate_left
   ·intro w B0
    try dsimp only at B0
    go_simp
    try with_reducible rfl
   try simp only[Act.put,List.setIfInBounds_toArray,List.set_cons_zero,List.set_cons_succ]
   refine jq (i:=8) (v:=?_) (by kernel_rfl) rfl (by kernel_rfl) (by kernel_rfl) (by kernel_rfl) (by kernel_rfl) (fun _ _ _ h=>h) (Or.inl ⟨by rfl,?_⟩) (fun _=>rfl) hH ?_
   rotate_left
   ·intro w B0
    try dsimp only at B0
    have q0:=B3.out
    have q1:=B4.out
    have q2:=B5.out
    have q5:=B6.out
    have q6:=B7.out
    go_simp
    try with_reducible rfl
   try simp only[Act.put,List.setIfInBounds_toArray,List.set_cons_zero,List.set_cons_succ]
   refine jq (i:=9) (v:=?_) (by kernel_rfl) rfl (by kernel_rfl) (by kernel_rfl) (by kernel_rfl) (by kernel_rfl) (fun _ _ _ h=>h) (Or.inl ⟨by rfl,?_⟩) (fun _=>rfl) hH ?_
   rotate_left
   ·intro w B0
    try dsimp only at B0
    have q0:=B3.out
    have q1:=B4.out
    have q2:=B5.out
    have q5:=B6.out
    have q6:=B7.out
    go_simp
    try with_reducible rfl
   try simp only[Act.put,List.setIfInBounds_toArray,List.set_cons_zero,List.set_cons_succ]
   refine jq (i:=10) (v:=?_) (by kernel_rfl) rfl (by kernel_rfl) (by kernel_rfl) (by kernel_rfl) (by kernel_rfl) (fun _ _ _ h=>h) (Or.inl ⟨by rfl,?_⟩) (fun _=>rfl) hH ?_
   rotate_left
   ·intro w B0
    try dsimp only at B0
    have q0:=B3.out
    have q1:=B4.out
    have q2:=B5.out
    have q5:=B6.out
    have q6:=B7.out
    go_simp
    try with_reducible rfl
   try simp only[Act.put,List.setIfInBounds_toArray,List.set_cons_zero,List.set_cons_succ]
   refine jq (i:=11) (v:=?_) (by kernel_rfl) rfl (by kernel_rfl) (by kernel_rfl) (by kernel_rfl) (by kernel_rfl) (fun _ _ _ h=>h) (Or.inl ⟨by rfl,?_⟩) (fun _=>rfl) hH ?_
   rotate_left
   ·intro w B0
    try dsimp only at B0
    go_simp
    try with_reducible rfl
   try simp only[Act.put,List.setIfInBounds_toArray,List.set_cons_zero,List.set_cons_succ]
   clear hH
   refine UI_one (i:=12) (by kernel_rfl) rfl (fun K hK=>?_)
   refine Exists.elim (hyk w2 hlt hJ hn2) (fun fn hq=>Exists.elim hq (fun tmps hq=>Exists.elim hq (fun assign hq=>Exists.elim hq (fun body hq=>?_))))
   obtain⟨hyd,hRd⟩:=hq
   clear hyk
   go_simp
   refine hRd.mono ?_
   clear hRd hyd
   rintro e w3 ⟨hkp,hor⟩
   have Bl3:Bx w3 wr.heap.size 24 #[.int .i64 a1,.int .i64 a2]:=(hkp.2 _ hn B2.lt B2.ty).trans B2
   have hn3:u.heap.size≤w3.heap.size:=Nat.le_trans hn2 hkp.1
   replace B8:=Bl3.at 0 rfl
   replace B9:=Bl3.at 1 rfl
   have Bb:Below w0.heap.size w0 w3∧w3.cell? ⟨bx,0,none⟩=some (.slice (some ⟨bb,oo,none⟩) l.length cap):=by
    rcases hor with ⟨-,h⟩|⟨-,h⟩
    ·exact hJw _ _ h
    exact hXw _ h
   replace B1:=Bb.2
   replace N0:=ah HE.out.1 Bb.1
   replace N1:=ah HE.out.2 Bb.1
   rcases hor with ⟨rfl,hJ3⟩|⟨rfl,hJ3⟩
   all_goals
    clear hJ hkp Bl3 Bb HE
    refine hK.out _ _ ⟨B8,B9,B1,N0,N1⟩ (fun hH=>?_)
    clear hK K
    try simp only[Act.put,List.setIfInBounds_toArray,List.set_cons_zero,List.set_cons_succ]
    refine jq (i:=13) (v:=?_) (by kernel_rfl) rfl (by kernel_rfl) (by kernel_rfl) (by kernel_rfl) (by kernel_rfl) (fun _ _ _ h=>h) (Or.inl ⟨by rfl,?_⟩) (fun _=>rfl) hH ?_
    rotate_left
    ·intro w B0
     try dsimp only at B0
     go_simp
     try with_reducible rfl
    try simp only[Act.put,List.setIfInBounds_toArray,List.set_cons_zero,List.set_cons_succ]
    clear hH
    refine UI_end (by kernel_rfl) ?_
    clear B8 B9 B1 N0 N1
   ·skip
    go_wp2
    go_roundw
    case rel=>exact⟨k + 1,by omega,by go_num,hn3,hJ3⟩
    all_goals first|(simp[intOf];done)|(simp[intOf];omega)
   skip
   go_wp2
   try simp only[Exit.inBlock,Exit.then]
   refine bodyPost_ret (results_none rfl _ _ _) rfl ?_
   exact⟨⟨_,rfl⟩,.inr hJ3⟩
  obtain rfl:k=l.length:=by omega
  go_wp2
  go_end0
  exact⟨⟨_,rfl⟩,.inl hJ⟩
end Go.Proofs.YtidmjdmmpajooaaGreat
namespace Go.Proofs.YtidmjdmmpajooaaGreat
open Go.RowKit Dg
def si (k:IntKind) (B:Nat) (w:World) (x:Nat) (e:Ending) (w':World):Prop:=∃v,e=.returned v∧ck k B w' v x∧Below w.heap.size w w'∧qk w.heap.size v
end Go.Proofs.YtidmjdmmpajooaaGreat
namespace Go.Proofs.YtidmjdmmpajooaaGreat
open Go.RowKit Dg
def gn (x y:Nat):Int:=if x < y then -1 else if y < x then 1 else 0
def Quiet (w:World) (v:Value) (e:Ending) (w':World):Prop:=∃q,e=.returned v∧w'=w.drewN q
def RetNatD (k:IntKind) (B:Nat) (w:World) (x r:Nat) (e:Ending) (w':World):Prop:=∃v,e=.returned (.tuple #[v,.int k (r:Int)])∧ck k B w' v x∧Below w.heap.size w w'
end Go.Proofs.YtidmjdmmpajooaaGreat
